-- WRITTEN BY wip/xprint.py (my own wrapper round the print, with contracts of my own in it)
import Derived.Test.YtlciddgncngniaaDoorXSettleOfx0
import Derived.Test.YtlciddgncngniaaDoorXSettleOfx1
import Derived.Test.YtlciddgncngniaaDoorXSettleOfx2
import Derived.Test.YtlciddgncngniaaDoorXSettleOfx4
import Derived.Test.YtlciddgncngniaaDoorXSettleOfx7
import Derived.Test.YtlciddgncngniaaDoorXSettleOfx8
import Derived.Test.YtlciddgncngniaaDoorXSettleOfx9
namespace Go.Proofs.YtlciddgncngniaaDoor.XSettleOf
open Go.RowKit Go.Proofs.YtlciddgncngniaaDoorW.PrintWords Go.Proofs.YtlciddgncngniaaDoorW.PrintLast Go.Proofs.YtlciddgncngniaaDoorW.PrintMore
attribute [local go_sem] max2_int min2_int max_two min_two max_three min_three max_four min_four   -- for this text's walks alone
set_option linter.unusedVariables false
set_option linter.unusedSimpArgs false

attribute [local go_sem high] eqA38 eqA41
/-! ### octroilaw38_SettleOf: function 5 -/
mutual
def octroilaw38_SettleOf.j0 : Nat → Bool → Int → Int → Int → Int → Int → Int → Int → Int → Int → Int → Option (Bool)
 | 0, _, _, _, _, _, _, _, _, _, _, _ => none
 | k + 1, x39, x297000, x297001, x297002, x297003, x297004, x304000, x304001, x304002, x304003, x304004 => if x39 = true then (some false) else ((some (([(⟨x304000, x304001, x304002, x304003, x304004⟩ : S41), (⟨x297000, x297001, x297002, x297003, x297004⟩ : S41)] : List (S41)) : List (S41))).bind fun y311 => (octroilaw38_SettleOf.l0 k y311 (y311.length : Int) 0))
def octroilaw38_SettleOf.l0 : Nat → List (S41) → Int → Int → Option (Bool)
 | 0, _, _, _ => none
 | k + 1, x42, x43, x44 => if x44 < x43 then (if 0 ≤ x44 then (if x44 < (x42.length : Int) then ((settle_Posts.f k ((rd_T41 x42 x44).f0) ((rd_T41 x42 x44).f1) ((rd_T41 x42 x44).f2) ((rd_T41 x42 x44).f3) ((rd_T41 x42 x44).f4)).bind fun bt317 => ((octroiref38_Posts.f k ((rd_T41 x42 x44).f0) ((rd_T41 x42 x44).f1) ((rd_T41 x42 x44).f2) ((rd_T41 x42 x44).f3) ((rd_T41 x42 x44).f4)).bind fun bt321 => ((octroilaw38_same.f k bt317.1 bt321.1).bind fun t325 => (if t325 = true then (if bt317.2 = bt321.2 then ((settle_Good.f k ((rd_T41 x42 x44).f0) ((rd_T41 x42 x44).f1) ((rd_T41 x42 x44).f2) ((rd_T41 x42 x44).f3) ((rd_T41 x42 x44).f4)).bind fun t326 => ((octroiref38_Good.f k ((rd_T41 x42 x44).f0) ((rd_T41 x42 x44).f1) ((rd_T41 x42 x44).f2) ((rd_T41 x42 x44).f3) ((rd_T41 x42 x44).f4)).bind fun t327 => (if (t326 != t327) = true then (some false) else ((settle_Text.f ((rd_T41 x42 x44).f0) ((rd_T41 x42 x44).f1) ((rd_T41 x42 x44).f2) ((rd_T41 x42 x44).f3) ((rd_T41 x42 x44).f4)).bind fun t328 => ((octroiref38_Text.f k ((rd_T41 x42 x44).f0) ((rd_T41 x42 x44).f1) ((rd_T41 x42 x44).f2) ((rd_T41 x42 x44).f3) ((rd_T41 x42 x44).f4)).bind fun t329 => (if t328.toList = t329.toList then (octroilaw38_SettleOf.l0 k x42 x43 (wrap64 (x44 + 1))) else (some false))))))) else (some false)) else (some false))))) else (none)) else (none)) else ((octroilaw38_lives.f k).bind fun t314 => (some t314))
end
def octroilaw38_SettleOf.f (k : Nat) (a0_0 : Int) (a0_1 : Int) (a0_2 : Int) (a1 : Int) (a2_0 : Int) (a2_1 : Int) (a2_2 : Int) (a2_3 : Int) (a2_4 : Int) : Option (Bool) := (settle_Of.f k a0_0 a0_1 a0_2 a1).bind fun bt297 => ((octroiref38_Of.f k a0_0 a0_1 a1).bind fun bt304 => (if (!(bt297.1 == bt304.1) || (!(bt297.2.1 == bt304.2.1) || (!(bt297.2.2.1 == bt304.2.2.1) || (!(bt297.2.2.2.1 == bt304.2.2.2.1) || (!(bt297.2.2.2.2.1 == bt304.2.2.2.2.1)))))) = true then (octroilaw38_SettleOf.j0 k true a2_0 a2_1 a2_2 a2_3 a2_4 bt297.1 bt297.2.1 bt297.2.2.1 bt297.2.2.2.1 bt297.2.2.2.2.1) else (octroilaw38_SettleOf.j0 k (bt297.2.2.2.2.2 != bt304.2.2.2.2.2) a2_0 a2_1 a2_2 a2_3 a2_4 bt297.1 bt297.2.1 bt297.2.2.1 bt297.2.2.2.1 bt297.2.2.2.2.1)))
theorem octroilaw38_SettleOf.mono_l : ∀ k, (∀ y0 y1 y2 y3 y4 y5 y6 y7 y8 y9 y10, LeO (octroilaw38_SettleOf.j0 k y0 y1 y2 y3 y4 y5 y6 y7 y8 y9 y10) (octroilaw38_SettleOf.j0 (k + 1) y0 y1 y2 y3 y4 y5 y6 y7 y8 y9 y10)) ∧ (∀ y0 y1 y2, LeO (octroilaw38_SettleOf.l0 k y0 y1 y2) (octroilaw38_SettleOf.l0 (k + 1) y0 y1 y2))
 | 0 => ⟨fun _ _ _ _ _ _ _ _ _ _ _ r h => by simp [octroilaw38_SettleOf.j0] at h, fun _ _ _ r h => by simp [octroilaw38_SettleOf.l0] at h⟩
 | k + 1 => by
  obtain ⟨ih0, ih1⟩ := octroilaw38_SettleOf.mono_l k
  refine ⟨?_, ?_⟩
  ·intro y0 y1 y2 y3 y4 y5 y6 y7 y8 y9 y10
   unfold octroilaw38_SettleOf.j0
   repeat' first
   | (with_reducible exact ih0 _ _ _ _ _ _ _ _ _ _ _)
   | (with_reducible exact ih1 _ _ _)
   | (with_reducible exact octroilaw38_lives.mono _)
   | (with_reducible exact octroilaw38_same.mono _ _ _)
   | (with_reducible exact octroiref38_Good.mono _ _ _ _ _ _)
   | (with_reducible exact octroiref38_Of.mono _ _ _ _)
   | (with_reducible exact octroiref38_Posts.mono _ _ _ _ _ _)
   | (with_reducible exact octroiref38_Text.mono _ _ _ _ _ _)
   | (with_reducible exact settle_Good.mono _ _ _ _ _ _)
   | (with_reducible exact settle_Of.mono _ _ _ _ _)
   | (with_reducible exact settle_Posts.mono _ _ _ _ _ _)
   | (with_reducible exact LeO.refl _)
   | (with_reducible exact LeO.none _)
   | (with_reducible refine LeO.ite ?_ ?_)
   | (with_reducible refine LeO.bind ?_ (fun _ => ?_))
   | exact ih0 _ _ _ _ _ _ _ _ _ _ _
   | exact ih1 _ _ _
   | exact octroilaw38_lives.mono _
   | exact octroilaw38_same.mono _ _ _
   | exact octroiref38_Good.mono _ _ _ _ _ _
   | exact octroiref38_Of.mono _ _ _ _
   | exact octroiref38_Posts.mono _ _ _ _ _ _
   | exact octroiref38_Text.mono _ _ _ _ _ _
   | exact settle_Good.mono _ _ _ _ _ _
   | exact settle_Of.mono _ _ _ _ _
   | exact settle_Posts.mono _ _ _ _ _ _
   | exact LeO.none _
   | refine LeO.ite ?_ ?_
   | refine LeO.bind ?_ (fun _ => ?_)
  ·intro y0 y1 y2
   unfold octroilaw38_SettleOf.l0
   repeat' first
   | (with_reducible exact ih0 _ _ _ _ _ _ _ _ _ _ _)
   | (with_reducible exact ih1 _ _ _)
   | (with_reducible exact octroilaw38_lives.mono _)
   | (with_reducible exact octroilaw38_same.mono _ _ _)
   | (with_reducible exact octroiref38_Good.mono _ _ _ _ _ _)
   | (with_reducible exact octroiref38_Of.mono _ _ _ _)
   | (with_reducible exact octroiref38_Posts.mono _ _ _ _ _ _)
   | (with_reducible exact octroiref38_Text.mono _ _ _ _ _ _)
   | (with_reducible exact settle_Good.mono _ _ _ _ _ _)
   | (with_reducible exact settle_Of.mono _ _ _ _ _)
   | (with_reducible exact settle_Posts.mono _ _ _ _ _ _)
   | (with_reducible exact LeO.refl _)
   | (with_reducible exact LeO.none _)
   | (with_reducible refine LeO.ite ?_ ?_)
   | (with_reducible refine LeO.bind ?_ (fun _ => ?_))
   | exact ih0 _ _ _ _ _ _ _ _ _ _ _
   | exact ih1 _ _ _
   | exact octroilaw38_lives.mono _
   | exact octroilaw38_same.mono _ _ _
   | exact octroiref38_Good.mono _ _ _ _ _ _
   | exact octroiref38_Of.mono _ _ _ _
   | exact octroiref38_Posts.mono _ _ _ _ _ _
   | exact octroiref38_Text.mono _ _ _ _ _ _
   | exact settle_Good.mono _ _ _ _ _ _
   | exact settle_Of.mono _ _ _ _ _
   | exact settle_Posts.mono _ _ _ _ _ _
   | exact LeO.none _
   | refine LeO.ite ?_ ?_
   | refine LeO.bind ?_ (fun _ => ?_)
theorem octroilaw38_SettleOf.mono : ∀ a0 a1 a2 a3 a4 a5 a6 a7 a8 k, LeO (octroilaw38_SettleOf.f k a0 a1 a2 a3 a4 a5 a6 a7 a8) (octroilaw38_SettleOf.f (k + 1) a0 a1 a2 a3 a4 a5 a6 a7 a8) := by
 intro a0 a1 a2 a3 a4 a5 a6 a7 a8 k
 obtain ⟨ih0, ih1⟩ := octroilaw38_SettleOf.mono_l k
 unfold octroilaw38_SettleOf.f
 repeat' first
   | (with_reducible exact ih0 _ _ _ _ _ _ _ _ _ _ _)
   | (with_reducible exact ih1 _ _ _)
   | (with_reducible exact octroilaw38_lives.mono _)
   | (with_reducible exact octroilaw38_same.mono _ _ _)
   | (with_reducible exact octroiref38_Good.mono _ _ _ _ _ _)
   | (with_reducible exact octroiref38_Of.mono _ _ _ _)
   | (with_reducible exact octroiref38_Posts.mono _ _ _ _ _ _)
   | (with_reducible exact octroiref38_Text.mono _ _ _ _ _ _)
   | (with_reducible exact settle_Good.mono _ _ _ _ _ _)
   | (with_reducible exact settle_Of.mono _ _ _ _ _)
   | (with_reducible exact settle_Posts.mono _ _ _ _ _ _)
   | (with_reducible exact LeO.refl _)
   | (with_reducible exact LeO.none _)
   | (with_reducible refine LeO.ite ?_ ?_)
   | (with_reducible refine LeO.bind ?_ (fun _ => ?_))
   | exact ih0 _ _ _ _ _ _ _ _ _ _ _
   | exact ih1 _ _ _
   | exact octroilaw38_lives.mono _
   | exact octroilaw38_same.mono _ _ _
   | exact octroiref38_Good.mono _ _ _ _ _ _
   | exact octroiref38_Of.mono _ _ _ _
   | exact octroiref38_Posts.mono _ _ _ _ _ _
   | exact octroiref38_Text.mono _ _ _ _ _ _
   | exact settle_Good.mono _ _ _ _ _ _
   | exact settle_Of.mono _ _ _ _ _
   | exact settle_Posts.mono _ _ _ _ _ _
   | exact LeO.none _
   | refine LeO.ite ?_ ?_
   | refine LeO.bind ?_ (fun _ => ?_)
def octroilaw38_SettleOf.T10 : Bool × List (List Nat × List Nat) := (true, [([], []), ([], []), ([0, 1], [0, 1]), ([2], [2]), ([3, 2], [3]), ([4], [4]), ([4], [4]), ([5, 6, 4], [4, 5, 6]), ([4, 7], [4, 7]), ([8, 4], [8]), ([9], [9]), ([10, 9, 9], [9, 10]), ([9], [9]), ([12, 11, 9], [9, 12]), ([11, 13, 9], [9, 11, 13]), ([9, 14], [9, 14]), ([15, 13], [15]), ([16], [16]), ([17, 16, 16], [16, 17]), ([16], [16]), ([19, 18, 16], [16, 19]), ([18, 20, 16], [16, 18, 20]), ([16, 21], [16, 21])])
def octroilaw38_SettleOf.B10 : List Nat := [0, 0, 3, 7, 15, 31, 31, 127, 255, 511, 1023, 2047, 1023, 8191, 16383, 32767, 65535, 131071, 262143, 131071, 1048575, 2097151, 4194303]
theorem octroilaw38_SettleOf.tab10 : rtab .any (opsOf Tryd.f5 10) = octroilaw38_SettleOf.T10 := by kernel_rfl
theorem octroilaw38_SettleOf.bits10 : waitsOk octroilaw38_SettleOf.T10.2 octroilaw38_SettleOf.B10 = true := by kernel_rfl
set_option maxHeartbeats 8000000 in
set_option maxRecDepth 100000 in
theorem octroilaw38_SettleOf.calls (k : Nat) (a0_0 : Int) (a0_1 : Int) (a0_2 : Int) (a1 : Int) (a2_0 : Int) (a2_1 : Int) (a2_2 : Int) (a2_3 : Int) (a2_4 : Int) (r : Bool) (w : World) (hT_ : BX.Tab w) (h : octroilaw38_SettleOf.f k a0_0 a0_1 a0_2 a1 a2_0 a2_1 a2_2 a2_3 a2_4 = some r) :
  Calls Tryd.prog 5 #[.agg #[.int .i64 a0_0, .int .i64 a0_1, .int .i64 a0_2], .int .i64 a1, .agg #[.int .i64 a2_0, .int .i64 a2_1, .int .i64 a2_2, .int .i64 a2_3, .int .i64 a2_4]] w fun e w' => e = .returned (.bool r) ∧ Below w.heap.size w w' := by
 have HTab_ := A0m hT_
 clear hT_
 have hu36 := Tryd.underlying36
 have hu41 := Tryd.underlying41
 have hu38 := Tryd.underlying38
 have HB := A0m (Below.refl w.heap.size w)
 have H : ((settle_Of.f k a0_0 a0_1 a0_2 a1).bind fun bt297 => ((octroiref38_Of.f k a0_0 a0_1 a1).bind fun bt304 => (if (!(bt297.1 == bt304.1) || (!(bt297.2.1 == bt304.2.1) || (!(bt297.2.2.1 == bt304.2.2.1) || (!(bt297.2.2.2.1 == bt304.2.2.2.1) || (!(bt297.2.2.2.2.1 == bt304.2.2.2.2.1)))))) = true then (octroilaw38_SettleOf.j0 k true a2_0 a2_1 a2_2 a2_3 a2_4 bt297.1 bt297.2.1 bt297.2.2.1 bt297.2.2.2.1 bt297.2.2.2.2.1) else (octroilaw38_SettleOf.j0 k (bt297.2.2.2.2.2 != bt304.2.2.2.2.2) a2_0 a2_1 a2_2 a2_3 a2_4 bt297.1 bt297.2.1 bt297.2.2.1 bt297.2.2.2.1 bt297.2.2.2.2.1)))) = some r := h
 clear h
 replace H := Option.bind_eq_some_iff.mp H
 obtain ⟨⟨t297, t298, t299, t300, t301, t302⟩, A40, H⟩ := H
 replace H : ((octroiref38_Of.f k a0_0 a0_1 a1).bind fun bt304 => (if (!(t297 == bt304.1) || (!(t298 == bt304.2.1) || (!(t299 == bt304.2.2.1) || (!(t300 == bt304.2.2.2.1) || (!(t301 == bt304.2.2.2.2.1)))))) = true then (octroilaw38_SettleOf.j0 k true a2_0 a2_1 a2_2 a2_3 a2_4 t297 t298 t299 t300 t301) else (octroilaw38_SettleOf.j0 k (t302 != bt304.2.2.2.2.2) a2_0 a2_1 a2_2 a2_3 a2_4 t297 t298 t299 t300 t301))) = some r := H
 have A4 := A0m A40
 clear A40
 replace H := Option.bind_eq_some_iff.mp H
 obtain ⟨⟨t304, t305, t306, t307, t308, t309⟩, A50, H⟩ := H
 replace H : (if (!(t297 == t304) || (!(t298 == t305) || (!(t299 == t306) || (!(t300 == t307) || (!(t301 == t308)))))) = true then (octroilaw38_SettleOf.j0 k true a2_0 a2_1 a2_2 a2_3 a2_4 t297 t298 t299 t300 t301) else (octroilaw38_SettleOf.j0 k (t302 != t309) a2_0 a2_1 a2_2 a2_3 a2_4 t297 t298 t299 t300 t301)) = some r := H
 have A5 := A0m A50
 clear A50
 have HC6 := A0m H
 clear H
 go_enter Tryd.func5, Tryd.ntmps5
 go_upto_region 3 with (first | ((with_reducible refine gate_dst (N := 3) rfl ?_); refine box_event ?hg (N := 3) ?hd (cs := #[.int .i64 a0_0, .int .i64 a0_1, .int .i64 a0_2]) (t := 36) ?hr ?_; (case hd => rfl); (case hg => rfl); (case hr => first | (go_simp; done) | (go_simp; rfl)); intro gb295 hg w7 hbox hb; have n0_ := A0m (below_step (by repeat (first | (with_reducible first | exact HB.out | apply bA | apply bN | apply bD) | exact HB.out)) hb); have n1_ := A0m (hbox); have n2_ := A0m ((by rw [hg]; exact (below_size (by repeat (first | (with_reducible first | exact HB.out | apply bA | apply bN | apply bD) | exact HB.out))) : w.heap.size ≤ gb295)); have n3_ := A0m ((by rw [hg]; exact (below_size (by repeat (first | (with_reducible first | exact HB.out | apply bA | apply bN | apply bD) | exact HB.out))) : w.heap.size ≤ gb295)); clear HB; have HB := n0_; have BK295 := n1_; have GW295 := n2_; have GE295 := n3_; clear n0_ n1_ n2_ n3_; clear hb hbox hg) | ((with_reducible refine gate_dst (N := 5) rfl ?_); refine box_event ?hg (N := 5) ?hd (cs := #[.int .i64 a2_0, .int .i64 a2_1, .int .i64 a2_2, .int .i64 a2_3, .int .i64 a2_4]) (t := 41) ?hr ?_; (case hd => rfl); (case hg => rfl); (case hr => first | (go_simp; done) | (go_simp; rfl)); intro gb296 hg w8 hbox hb; have n0_ := A0m (blk_below (g := gb295) (o := .cells #[.int .i64 a0_0, .int .i64 a0_1, .int .i64 a0_2] 36 (0, 0)) (by (with_reducible repeat (first | refine kN ?_ _ | refine kD ?_ | refine kA ?_ _)); exact BK295.out) hb); have n1_ := A0m (below_step (by repeat (first | (with_reducible first | exact HB.out | apply bA | apply bN | apply bD | refine bS ?_ GE295.out) | exact HB.out)) hb); have n2_ := A0m (hbox); have n3_ := A0m ((by rw [hg]; exact (below_size (by repeat (first | (with_reducible first | exact HB.out | apply bA | apply bN | apply bD | refine bS ?_ GE295.out) | exact HB.out))) : w.heap.size ≤ gb296)); have n4_ := A0m ((by rw [hg]; exact (below_size (by repeat (first | (with_reducible first | exact HB.out | apply bA | apply bN | apply bD | refine bS ?_ GE295.out) | exact HB.out))) : w.heap.size ≤ gb296)); have n5_ := A0m ((by rw [hg]; exact Nat.ne_of_lt (blk_lt (g := gb295) (o := .cells #[.int .i64 a0_0, .int .i64 a0_1, .int .i64 a0_2] 36 (0, 0)) (by (with_reducible repeat (first | refine kN ?_ _ | refine kD ?_ | refine kA ?_ _)); exact BK295.out)) : gb295 ≠ gb296)); have n6_ := A0m ((by rw [hg]; exact Nat.ne_of_gt (blk_lt (g := gb295) (o := .cells #[.int .i64 a0_0, .int .i64 a0_1, .int .i64 a0_2] 36 (0, 0)) (by (with_reducible repeat (first | refine kN ?_ _ | refine kD ?_ | refine kA ?_ _)); exact BK295.out)) : gb296 ≠ gb295)); clear BK295; clear HB; have BK295 := n0_; have HB := n1_; have BK296 := n2_; have GW296 := n3_; have GE296 := n4_; have NB295_296 := n5_; have NB296_295 := n6_; clear n0_ n1_ n2_ n3_ n4_ n5_ n6_; clear hb hbox hg; have hnb9 := NB295_296.out; have hnc9 := NB296_295.out; have hcz10_0 : w8.cell? ⟨gb295, 0, none⟩ = some (.int .i64 a0_0) := (blk_cell BK295.out 0).trans rfl; have hcz10_1 : w8.cell? ⟨gb295, 1, none⟩ = some (.int .i64 a0_1) := (blk_cell BK295.out 1).trans rfl; have hcz10_2 : w8.cell? ⟨gb295, 2, none⟩ = some (.int .i64 a0_2) := (blk_cell BK295.out 2).trans rfl; have hfz10_0 := blk_frozen BK295.out 0; have hfz10_1 := blk_frozen BK295.out 1; have hfz10_2 := blk_frozen BK295.out 2) | ((with_reducible refine gate_callee (f := 19) rfl ?_); refine goesL_ (some 20) rfl rfl Tryd.func19 (by kernel_rfl) rfl #[.agg #[.int .i64 a0_0, .int .i64 a0_1, .int .i64 a0_2], .int .i64 a1] rfl (by (try simp only [List.map_toArray, List.map_cons, List.map_nil]); first | done | rfl | (simp only [List.length_drop, List.length_take]; rfl)) ?_; (with_reducible refine (settle_Of.calls k a0_0 a0_1 a0_2 a1 t297 t298 t299 t300 t301 t302 _ A4.out).mono ?_); rintro e w11 ⟨rfl, hb⟩; refine ⟨_, rfl, ?_⟩; have n0_ := A0m (blk_below (g := gb295) (o := .cells #[.int .i64 a0_0, .int .i64 a0_1, .int .i64 a0_2] 36 (0, 0)) (by (with_reducible repeat (first | refine kN ?_ _ | refine kD ?_ | refine kA ?_ _)); exact BK295.out) hb); have n1_ := A0m (blk_below (g := gb296) (o := .cells #[.int .i64 a2_0, .int .i64 a2_1, .int .i64 a2_2, .int .i64 a2_3, .int .i64 a2_4] 41 (0, 0)) (by (with_reducible repeat (first | refine kN ?_ _ | refine kD ?_ | refine kA ?_ _)); exact BK296.out) hb); have n2_ := A0m (below_step (by repeat (first | (with_reducible first | exact HB.out | apply bA | apply bN | apply bD | refine bS ?_ GE295.out | refine bS ?_ GE296.out) | exact HB.out)) hb); clear BK295; clear BK296; clear HB; have BK295 := n0_; have BK296 := n1_; have HB := n2_; clear n0_ n1_ n2_; (try clear hb); (try clear hb2); (try clear hk); (try clear hi)) | ((with_reducible refine gate_dst (N := 7) rfl ?_); refine box_event ?hg (N := 7) ?hd (cs := #[.int .i64 0, .int .i64 0, .int .i64 0, .int .i64 0, .int .i64 0]) (t := 41) ?hr ?_; (case hd => rfl); (case hg => rfl); (case hr => first | (go_simp; done) | (go_simp; rfl)); intro gb303 hg w12 hbox hb; have n0_ := A0m (blk_below (g := gb295) (o := .cells #[.int .i64 a0_0, .int .i64 a0_1, .int .i64 a0_2] 36 (0, 0)) (by (with_reducible repeat (first | refine kN ?_ _ | refine kD ?_ | refine kA ?_ _)); exact BK295.out) hb); have n1_ := A0m (blk_below (g := gb296) (o := .cells #[.int .i64 a2_0, .int .i64 a2_1, .int .i64 a2_2, .int .i64 a2_3, .int .i64 a2_4] 41 (0, 0)) (by (with_reducible repeat (first | refine kN ?_ _ | refine kD ?_ | refine kA ?_ _)); exact BK296.out) hb); have n2_ := A0m (below_step (by repeat (first | (with_reducible first | exact HB.out | apply bA | apply bN | apply bD | refine bS ?_ GE295.out | refine bS ?_ GE296.out) | exact HB.out)) hb); have n3_ := A0m (hbox); have n4_ := A0m ((by rw [hg]; exact (below_size (by repeat (first | (with_reducible first | exact HB.out | apply bA | apply bN | apply bD | refine bS ?_ GE295.out | refine bS ?_ GE296.out) | exact HB.out))) : w.heap.size ≤ gb303)); have n5_ := A0m ((by rw [hg]; exact (below_size (by repeat (first | (with_reducible first | exact HB.out | apply bA | apply bN | apply bD | refine bS ?_ GE295.out | refine bS ?_ GE296.out) | exact HB.out))) : w.heap.size ≤ gb303)); have n6_ := A0m ((by rw [hg]; exact Nat.ne_of_lt (blk_lt (g := gb295) (o := .cells #[.int .i64 a0_0, .int .i64 a0_1, .int .i64 a0_2] 36 (0, 0)) (by (with_reducible repeat (first | refine kN ?_ _ | refine kD ?_ | refine kA ?_ _)); exact BK295.out)) : gb295 ≠ gb303)); have n7_ := A0m ((by rw [hg]; exact Nat.ne_of_gt (blk_lt (g := gb295) (o := .cells #[.int .i64 a0_0, .int .i64 a0_1, .int .i64 a0_2] 36 (0, 0)) (by (with_reducible repeat (first | refine kN ?_ _ | refine kD ?_ | refine kA ?_ _)); exact BK295.out)) : gb303 ≠ gb295)); have n8_ := A0m ((by rw [hg]; exact Nat.ne_of_lt (blk_lt (g := gb296) (o := .cells #[.int .i64 a2_0, .int .i64 a2_1, .int .i64 a2_2, .int .i64 a2_3, .int .i64 a2_4] 41 (0, 0)) (by (with_reducible repeat (first | refine kN ?_ _ | refine kD ?_ | refine kA ?_ _)); exact BK296.out)) : gb296 ≠ gb303)); have n9_ := A0m ((by rw [hg]; exact Nat.ne_of_gt (blk_lt (g := gb296) (o := .cells #[.int .i64 a2_0, .int .i64 a2_1, .int .i64 a2_2, .int .i64 a2_3, .int .i64 a2_4] 41 (0, 0)) (by (with_reducible repeat (first | refine kN ?_ _ | refine kD ?_ | refine kA ?_ _)); exact BK296.out)) : gb303 ≠ gb296)); clear BK295; clear BK296; clear HB; have BK295 := n0_; have BK296 := n1_; have HB := n2_; have BK303 := n3_; have GW303 := n4_; have GE303 := n5_; have NB295_303 := n6_; have NB303_295 := n7_; have NB296_303 := n8_; have NB303_296 := n9_; clear n0_ n1_ n2_ n3_ n4_ n5_ n6_ n7_ n8_ n9_; clear hb hbox hg; have hnb13 := NB303_295.out; have hnc13 := NB295_303.out; have hnb14 := NB303_296.out; have hnc14 := NB296_303.out; have hcz15_0 : w12.cell? ⟨gb303, 0, none⟩ = some (.int .i64 0) := (blk_cell BK303.out 0).trans rfl; have hcz15_1 : w12.cell? ⟨gb303, 1, none⟩ = some (.int .i64 0) := (blk_cell BK303.out 1).trans rfl; have hcz15_2 : w12.cell? ⟨gb303, 2, none⟩ = some (.int .i64 0) := (blk_cell BK303.out 2).trans rfl; have hcz15_3 : w12.cell? ⟨gb303, 3, none⟩ = some (.int .i64 0) := (blk_cell BK303.out 3).trans rfl; have hcz15_4 : w12.cell? ⟨gb303, 4, none⟩ = some (.int .i64 0) := (blk_cell BK303.out 4).trans rfl; have hfz15_0 := blk_frozen BK303.out 0; have hfz15_1 := blk_frozen BK303.out 1; have hfz15_2 := blk_frozen BK303.out 2; have hfz15_3 := blk_frozen BK303.out 3; have hfz15_4 := blk_frozen BK303.out 4; have hcz16_0 : w12.cell? ⟨gb295, 0, none⟩ = some (.int .i64 a0_0) := (blk_cell BK295.out 0).trans rfl; have hcz16_1 : w12.cell? ⟨gb295, 1, none⟩ = some (.int .i64 a0_1) := (blk_cell BK295.out 1).trans rfl; have hcz16_2 : w12.cell? ⟨gb295, 2, none⟩ = some (.int .i64 a0_2) := (blk_cell BK295.out 2).trans rfl; have hfz16_0 := blk_frozen BK295.out 0; have hfz16_1 := blk_frozen BK295.out 1; have hfz16_2 := blk_frozen BK295.out 2) | ((with_reducible refine gate_callee (f := 17) rfl ?_); refine goesL_ (some 29) rfl rfl Tryd.func17 (by kernel_rfl) rfl #[.int .i64 a0_0, .int .i64 a0_1, .int .i64 a1] rfl (by (try simp only [List.map_toArray, List.map_cons, List.map_nil]); first | done | rfl | (simp only [List.length_drop, List.length_take]; rfl)) ?_; (with_reducible refine (octroiref38_Of.calls k a0_0 a0_1 a1 t304 t305 t306 t307 t308 t309 _ A5.out).mono ?_); rintro e w17 ⟨rfl, hb⟩; refine ⟨_, rfl, ?_⟩; have n0_ := A0m (blk_below (g := gb295) (o := .cells #[.int .i64 a0_0, .int .i64 a0_1, .int .i64 a0_2] 36 (0, 0)) (by (with_reducible repeat (first | refine kN ?_ _ | refine kD ?_ | refine kA ?_ _)); refine blk_far ?_ NB295_303.out _; (with_reducible repeat (first | refine kN ?_ _ | refine kD ?_ | refine kA ?_ _)); refine blk_far ?_ NB295_303.out _; (with_reducible repeat (first | refine kN ?_ _ | refine kD ?_ | refine kA ?_ _)); refine blk_far ?_ NB295_303.out _; (with_reducible repeat (first | refine kN ?_ _ | refine kD ?_ | refine kA ?_ _)); refine blk_far ?_ NB295_303.out _; (with_reducible repeat (first | refine kN ?_ _ | refine kD ?_ | refine kA ?_ _)); refine blk_far ?_ NB295_303.out _; (with_reducible repeat (first | refine kN ?_ _ | refine kD ?_ | refine kA ?_ _)); exact BK295.out) hb); have n1_ := A0m (blk_below (g := gb296) (o := .cells #[.int .i64 a2_0, .int .i64 a2_1, .int .i64 a2_2, .int .i64 a2_3, .int .i64 a2_4] 41 (0, 0)) (by (with_reducible repeat (first | refine kN ?_ _ | refine kD ?_ | refine kA ?_ _)); refine blk_far ?_ NB296_303.out _; (with_reducible repeat (first | refine kN ?_ _ | refine kD ?_ | refine kA ?_ _)); refine blk_far ?_ NB296_303.out _; (with_reducible repeat (first | refine kN ?_ _ | refine kD ?_ | refine kA ?_ _)); refine blk_far ?_ NB296_303.out _; (with_reducible repeat (first | refine kN ?_ _ | refine kD ?_ | refine kA ?_ _)); refine blk_far ?_ NB296_303.out _; (with_reducible repeat (first | refine kN ?_ _ | refine kD ?_ | refine kA ?_ _)); refine blk_far ?_ NB296_303.out _; (with_reducible repeat (first | refine kN ?_ _ | refine kD ?_ | refine kA ?_ _)); exact BK296.out) hb); have n2_ := A0m (blk_below (g := gb303) (o := .cells #[.int .i64 t297, .int .i64 t298, .int .i64 t299, .int .i64 t300, .int .i64 t301] 41 (0, 0)) (by (with_reducible repeat (first | refine kN ?_ _ | refine kD ?_ | refine kA ?_ _)); refine blk_put (cs := #[.int .i64 t297, .int .i64 t298, .int .i64 t299, .int .i64 t300, .int .i64 0]) ?_ 4 _ rfl; (with_reducible repeat (first | refine kN ?_ _ | refine kD ?_ | refine kA ?_ _)); refine blk_put (cs := #[.int .i64 t297, .int .i64 t298, .int .i64 t299, .int .i64 0, .int .i64 0]) ?_ 3 _ rfl; (with_reducible repeat (first | refine kN ?_ _ | refine kD ?_ | refine kA ?_ _)); refine blk_put (cs := #[.int .i64 t297, .int .i64 t298, .int .i64 0, .int .i64 0, .int .i64 0]) ?_ 2 _ rfl; (with_reducible repeat (first | refine kN ?_ _ | refine kD ?_ | refine kA ?_ _)); refine blk_put (cs := #[.int .i64 t297, .int .i64 0, .int .i64 0, .int .i64 0, .int .i64 0]) ?_ 1 _ rfl; (with_reducible repeat (first | refine kN ?_ _ | refine kD ?_ | refine kA ?_ _)); refine blk_put (cs := #[.int .i64 0, .int .i64 0, .int .i64 0, .int .i64 0, .int .i64 0]) ?_ 0 _ rfl; (with_reducible repeat (first | refine kN ?_ _ | refine kD ?_ | refine kA ?_ _)); exact BK303.out) hb); have n3_ := A0m (below_step (by repeat (first | (with_reducible first | exact HB.out | apply bA | apply bN | apply bD | refine bS ?_ GE295.out | refine bS ?_ GE296.out | refine bS ?_ GE303.out) | exact HB.out)) hb); clear BK295; clear BK296; clear BK303; clear HB; have BK295 := n0_; have BK296 := n1_; have BK303 := n2_; have HB := n3_; clear n0_ n1_ n2_ n3_; (try clear hb); (try clear hb2); (try clear hk); (try clear hi)) | ((with_reducible refine gate_dst (N := 9) rfl ?_); refine box_event ?hg (N := 9) ?hd (cs := #[.int .i64 0, .int .i64 0, .int .i64 0, .int .i64 0, .int .i64 0]) (t := 38) ?hr ?_; (case hd => rfl); (case hg => rfl); (case hr => first | (go_simp; done) | (go_simp; rfl)); intro gb310 hg w18 hbox hb; have n0_ := A0m (blk_below (g := gb295) (o := .cells #[.int .i64 a0_0, .int .i64 a0_1, .int .i64 a0_2] 36 (0, 0)) (by (with_reducible repeat (first | refine kN ?_ _ | refine kD ?_ | refine kA ?_ _)); exact BK295.out) hb); have n1_ := A0m (blk_below (g := gb296) (o := .cells #[.int .i64 a2_0, .int .i64 a2_1, .int .i64 a2_2, .int .i64 a2_3, .int .i64 a2_4] 41 (0, 0)) (by (with_reducible repeat (first | refine kN ?_ _ | refine kD ?_ | refine kA ?_ _)); exact BK296.out) hb); have n2_ := A0m (blk_below (g := gb303) (o := .cells #[.int .i64 t297, .int .i64 t298, .int .i64 t299, .int .i64 t300, .int .i64 t301] 41 (0, 0)) (by (with_reducible repeat (first | refine kN ?_ _ | refine kD ?_ | refine kA ?_ _)); exact BK303.out) hb); have n3_ := A0m (below_step (by repeat (first | (with_reducible first | exact HB.out | apply bA | apply bN | apply bD | refine bS ?_ GE295.out | refine bS ?_ GE296.out | refine bS ?_ GE303.out) | exact HB.out)) hb); have n4_ := A0m (hbox); have n5_ := A0m ((by rw [hg]; exact (below_size (by repeat (first | (with_reducible first | exact HB.out | apply bA | apply bN | apply bD | refine bS ?_ GE295.out | refine bS ?_ GE296.out | refine bS ?_ GE303.out) | exact HB.out))) : w.heap.size ≤ gb310)); have n6_ := A0m ((by rw [hg]; exact (below_size (by repeat (first | (with_reducible first | exact HB.out | apply bA | apply bN | apply bD | refine bS ?_ GE295.out | refine bS ?_ GE296.out | refine bS ?_ GE303.out) | exact HB.out))) : w.heap.size ≤ gb310)); have n7_ := A0m ((by rw [hg]; exact Nat.ne_of_lt (blk_lt (g := gb295) (o := .cells #[.int .i64 a0_0, .int .i64 a0_1, .int .i64 a0_2] 36 (0, 0)) (by (with_reducible repeat (first | refine kN ?_ _ | refine kD ?_ | refine kA ?_ _)); exact BK295.out)) : gb295 ≠ gb310)); have n8_ := A0m ((by rw [hg]; exact Nat.ne_of_gt (blk_lt (g := gb295) (o := .cells #[.int .i64 a0_0, .int .i64 a0_1, .int .i64 a0_2] 36 (0, 0)) (by (with_reducible repeat (first | refine kN ?_ _ | refine kD ?_ | refine kA ?_ _)); exact BK295.out)) : gb310 ≠ gb295)); have n9_ := A0m ((by rw [hg]; exact Nat.ne_of_lt (blk_lt (g := gb296) (o := .cells #[.int .i64 a2_0, .int .i64 a2_1, .int .i64 a2_2, .int .i64 a2_3, .int .i64 a2_4] 41 (0, 0)) (by (with_reducible repeat (first | refine kN ?_ _ | refine kD ?_ | refine kA ?_ _)); exact BK296.out)) : gb296 ≠ gb310)); have n10_ := A0m ((by rw [hg]; exact Nat.ne_of_gt (blk_lt (g := gb296) (o := .cells #[.int .i64 a2_0, .int .i64 a2_1, .int .i64 a2_2, .int .i64 a2_3, .int .i64 a2_4] 41 (0, 0)) (by (with_reducible repeat (first | refine kN ?_ _ | refine kD ?_ | refine kA ?_ _)); exact BK296.out)) : gb310 ≠ gb296)); have n11_ := A0m ((by rw [hg]; exact Nat.ne_of_lt (blk_lt (g := gb303) (o := .cells #[.int .i64 t297, .int .i64 t298, .int .i64 t299, .int .i64 t300, .int .i64 t301] 41 (0, 0)) (by (with_reducible repeat (first | refine kN ?_ _ | refine kD ?_ | refine kA ?_ _)); exact BK303.out)) : gb303 ≠ gb310)); have n12_ := A0m ((by rw [hg]; exact Nat.ne_of_gt (blk_lt (g := gb303) (o := .cells #[.int .i64 t297, .int .i64 t298, .int .i64 t299, .int .i64 t300, .int .i64 t301] 41 (0, 0)) (by (with_reducible repeat (first | refine kN ?_ _ | refine kD ?_ | refine kA ?_ _)); exact BK303.out)) : gb310 ≠ gb303)); clear BK295; clear BK296; clear BK303; clear HB; have BK295 := n0_; have BK296 := n1_; have BK303 := n2_; have HB := n3_; have BK310 := n4_; have GW310 := n5_; have GE310 := n6_; have NB295_310 := n7_; have NB310_295 := n8_; have NB296_310 := n9_; have NB310_296 := n10_; have NB303_310 := n11_; have NB310_303 := n12_; clear n0_ n1_ n2_ n3_ n4_ n5_ n6_ n7_ n8_ n9_ n10_ n11_ n12_; clear hb hbox hg; have hnb19 := NB310_295.out; have hnc19 := NB295_310.out; have hnb20 := NB310_296.out; have hnc20 := NB296_310.out; have hnb21 := NB310_303.out; have hnc21 := NB303_310.out; have hcz22_0 : w18.cell? ⟨gb310, 0, none⟩ = some (.int .i64 0) := (blk_cell BK310.out 0).trans rfl; have hcz22_1 : w18.cell? ⟨gb310, 1, none⟩ = some (.int .i64 0) := (blk_cell BK310.out 1).trans rfl; have hcz22_2 : w18.cell? ⟨gb310, 2, none⟩ = some (.int .i64 0) := (blk_cell BK310.out 2).trans rfl; have hcz22_3 : w18.cell? ⟨gb310, 3, none⟩ = some (.int .i64 0) := (blk_cell BK310.out 3).trans rfl; have hcz22_4 : w18.cell? ⟨gb310, 4, none⟩ = some (.int .i64 0) := (blk_cell BK310.out 4).trans rfl; have hfz22_0 := blk_frozen BK310.out 0; have hfz22_1 := blk_frozen BK310.out 1; have hfz22_2 := blk_frozen BK310.out 2; have hfz22_3 := blk_frozen BK310.out 3; have hfz22_4 := blk_frozen BK310.out 4))
 (try simp only [Act.put, List.setIfInBounds_toArray, List.set_cons_zero, List.set_cons_succ])
 go_cut [39] (fun v39 wc => ∃ (kq : Nat) (x39_5 : Bool), v39 = .bool x39_5 ∧ Aside0 (octroilaw38_SettleOf.j0 kq x39_5 a2_0 a2_1 a2_2 a2_3 a2_4 t297 t298 t299 t300 t301 = some r) ∧ Aside0 (kq ≤ k) ∧ Aside0 (wc.heap[gb295]? = some (.cells #[.int .i64 a0_0, .int .i64 a0_1, .int .i64 a0_2] 36 (0, 0))) ∧ Aside0 (wc.heap[gb296]? = some (.cells #[.int .i64 a2_0, .int .i64 a2_1, .int .i64 a2_2, .int .i64 a2_3, .int .i64 a2_4] 41 (0, 0))) ∧ Aside0 (wc.heap[gb303]? = some (.cells #[.int .i64 t297, .int .i64 t298, .int .i64 t299, .int .i64 t300, .int .i64 t301] 41 (0, 0))) ∧ Aside0 (wc.heap[gb310]? = some (.cells #[.int .i64 t304, .int .i64 t305, .int .i64 t306, .int .i64 t307, .int .i64 t308] 38 (0, 0))) ∧ Aside0 (Below w.heap.size w wc))
 case first =>
  have H := HC6.out
  clear HC6
  by_cases c23 : (!(t297 == t304) || (!(t298 == t305) || (!(t299 == t306) || (!(t300 == t307) || (!(t301 == t308)))))) = true
  ·rw [if_pos c23] at H
   have c23b0 : (!(t297 == t304) || (!(t298 == t305) || (!(t299 == t306) || (!(t300 == t307) || (!(t301 == t308)))))) = true := c23
   clear c23
   (first | rw [c23b0] | (simp only [i64_w, i32_w]; rw [c23b0]) | skip)
   have H' := A0m H
   clear H
   have hnb24 := NB303_295.out
   have hnc24 := NB295_303.out
   have hnb25 := NB303_296.out
   have hnc25 := NB296_303.out
   have hnb26 := NB303_310.out
   have hnc26 := NB310_303.out
   have hcz27_0 : w18.cell? ⟨gb303, 0, none⟩ = some (.int .i64 t297) := (blk_cell BK303.out 0).trans rfl
   have hcz27_1 : w18.cell? ⟨gb303, 1, none⟩ = some (.int .i64 t298) := (blk_cell BK303.out 1).trans rfl
   have hcz27_2 : w18.cell? ⟨gb303, 2, none⟩ = some (.int .i64 t299) := (blk_cell BK303.out 2).trans rfl
   have hcz27_3 : w18.cell? ⟨gb303, 3, none⟩ = some (.int .i64 t300) := (blk_cell BK303.out 3).trans rfl
   have hcz27_4 : w18.cell? ⟨gb303, 4, none⟩ = some (.int .i64 t301) := (blk_cell BK303.out 4).trans rfl
   have hfz27_0 := blk_frozen BK303.out 0
   have hfz27_1 := blk_frozen BK303.out 1
   have hfz27_2 := blk_frozen BK303.out 2
   have hfz27_3 := blk_frozen BK303.out 3
   have hfz27_4 := blk_frozen BK303.out 4
   have hnb28 := NB310_295.out
   have hnc28 := NB295_310.out
   have hnb29 := NB310_296.out
   have hnc29 := NB296_310.out
   have hcz30_0 : w18.cell? ⟨gb310, 0, none⟩ = some (.int .i64 0) := (blk_cell BK310.out 0).trans rfl
   have hcz30_1 : w18.cell? ⟨gb310, 1, none⟩ = some (.int .i64 0) := (blk_cell BK310.out 1).trans rfl
   have hcz30_2 : w18.cell? ⟨gb310, 2, none⟩ = some (.int .i64 0) := (blk_cell BK310.out 2).trans rfl
   have hcz30_3 : w18.cell? ⟨gb310, 3, none⟩ = some (.int .i64 0) := (blk_cell BK310.out 3).trans rfl
   have hcz30_4 : w18.cell? ⟨gb310, 4, none⟩ = some (.int .i64 0) := (blk_cell BK310.out 4).trans rfl
   have hfz30_0 := blk_frozen BK310.out 0
   have hfz30_1 := blk_frozen BK310.out 1
   have hfz30_2 := blk_frozen BK310.out 2
   have hfz30_3 := blk_frozen BK310.out 3
   have hfz30_4 := blk_frozen BK310.out 4
   go_wp2
   go_meet
   case rel => exact ⟨_, (true), (by first | rfl | (simp; done) | (simp [*]; done)), H', ⟨by first | omega | exact Nat.le_refl _⟩, ⟨by (with_reducible repeat (first | refine kN ?_ _ | refine kD ?_ | refine kA ?_ _)); refine blk_far ?_ NB295_310.out _; (with_reducible repeat (first | refine kN ?_ _ | refine kD ?_ | refine kA ?_ _)); refine blk_far ?_ NB295_310.out _; (with_reducible repeat (first | refine kN ?_ _ | refine kD ?_ | refine kA ?_ _)); refine blk_far ?_ NB295_310.out _; (with_reducible repeat (first | refine kN ?_ _ | refine kD ?_ | refine kA ?_ _)); refine blk_far ?_ NB295_310.out _; (with_reducible repeat (first | refine kN ?_ _ | refine kD ?_ | refine kA ?_ _)); refine blk_far ?_ NB295_310.out _; (with_reducible repeat (first | refine kN ?_ _ | refine kD ?_ | refine kA ?_ _)); exact BK295.out⟩, ⟨by (with_reducible repeat (first | refine kN ?_ _ | refine kD ?_ | refine kA ?_ _)); refine blk_far ?_ NB296_310.out _; (with_reducible repeat (first | refine kN ?_ _ | refine kD ?_ | refine kA ?_ _)); refine blk_far ?_ NB296_310.out _; (with_reducible repeat (first | refine kN ?_ _ | refine kD ?_ | refine kA ?_ _)); refine blk_far ?_ NB296_310.out _; (with_reducible repeat (first | refine kN ?_ _ | refine kD ?_ | refine kA ?_ _)); refine blk_far ?_ NB296_310.out _; (with_reducible repeat (first | refine kN ?_ _ | refine kD ?_ | refine kA ?_ _)); refine blk_far ?_ NB296_310.out _; (with_reducible repeat (first | refine kN ?_ _ | refine kD ?_ | refine kA ?_ _)); exact BK296.out⟩, ⟨by (with_reducible repeat (first | refine kN ?_ _ | refine kD ?_ | refine kA ?_ _)); refine blk_far ?_ NB303_310.out _; (with_reducible repeat (first | refine kN ?_ _ | refine kD ?_ | refine kA ?_ _)); refine blk_far ?_ NB303_310.out _; (with_reducible repeat (first | refine kN ?_ _ | refine kD ?_ | refine kA ?_ _)); refine blk_far ?_ NB303_310.out _; (with_reducible repeat (first | refine kN ?_ _ | refine kD ?_ | refine kA ?_ _)); refine blk_far ?_ NB303_310.out _; (with_reducible repeat (first | refine kN ?_ _ | refine kD ?_ | refine kA ?_ _)); refine blk_far ?_ NB303_310.out _; (with_reducible repeat (first | refine kN ?_ _ | refine kD ?_ | refine kA ?_ _)); exact BK303.out⟩, ⟨by (with_reducible repeat (first | refine kN ?_ _ | refine kD ?_ | refine kA ?_ _)); refine blk_put (cs := #[.int .i64 t304, .int .i64 t305, .int .i64 t306, .int .i64 t307, .int .i64 0]) ?_ 4 _ rfl; (with_reducible repeat (first | refine kN ?_ _ | refine kD ?_ | refine kA ?_ _)); refine blk_put (cs := #[.int .i64 t304, .int .i64 t305, .int .i64 t306, .int .i64 0, .int .i64 0]) ?_ 3 _ rfl; (with_reducible repeat (first | refine kN ?_ _ | refine kD ?_ | refine kA ?_ _)); refine blk_put (cs := #[.int .i64 t304, .int .i64 t305, .int .i64 0, .int .i64 0, .int .i64 0]) ?_ 2 _ rfl; (with_reducible repeat (first | refine kN ?_ _ | refine kD ?_ | refine kA ?_ _)); refine blk_put (cs := #[.int .i64 t304, .int .i64 0, .int .i64 0, .int .i64 0, .int .i64 0]) ?_ 1 _ rfl; (with_reducible repeat (first | refine kN ?_ _ | refine kD ?_ | refine kA ?_ _)); refine blk_put (cs := #[.int .i64 0, .int .i64 0, .int .i64 0, .int .i64 0, .int .i64 0]) ?_ 0 _ rfl; (with_reducible repeat (first | refine kN ?_ _ | refine kD ?_ | refine kA ?_ _)); exact BK310.out⟩, ⟨by repeat (first | (with_reducible first | exact HB.out | apply bA | apply bN | apply bD | refine bS ?_ GE295.out | refine bS ?_ GE296.out | refine bS ?_ GE303.out | refine bS ?_ GE310.out) | exact HB.out)⟩⟩
  ·rw [if_neg c23] at H
   have c23b0 : (!(t297 == t304) || (!(t298 == t305) || (!(t299 == t306) || (!(t300 == t307) || (!(t301 == t308)))))) = false := by simpa using c23
   clear c23
   (first | rw [c23b0] | (simp only [i64_w, i32_w]; rw [c23b0]) | skip)
   have H' := A0m H
   clear H
   have hnb31 := NB303_295.out
   have hnc31 := NB295_303.out
   have hnb32 := NB303_296.out
   have hnc32 := NB296_303.out
   have hnb33 := NB303_310.out
   have hnc33 := NB310_303.out
   have hcz34_0 : w18.cell? ⟨gb303, 0, none⟩ = some (.int .i64 t297) := (blk_cell BK303.out 0).trans rfl
   have hcz34_1 : w18.cell? ⟨gb303, 1, none⟩ = some (.int .i64 t298) := (blk_cell BK303.out 1).trans rfl
   have hcz34_2 : w18.cell? ⟨gb303, 2, none⟩ = some (.int .i64 t299) := (blk_cell BK303.out 2).trans rfl
   have hcz34_3 : w18.cell? ⟨gb303, 3, none⟩ = some (.int .i64 t300) := (blk_cell BK303.out 3).trans rfl
   have hcz34_4 : w18.cell? ⟨gb303, 4, none⟩ = some (.int .i64 t301) := (blk_cell BK303.out 4).trans rfl
   have hfz34_0 := blk_frozen BK303.out 0
   have hfz34_1 := blk_frozen BK303.out 1
   have hfz34_2 := blk_frozen BK303.out 2
   have hfz34_3 := blk_frozen BK303.out 3
   have hfz34_4 := blk_frozen BK303.out 4
   have hnb35 := NB310_295.out
   have hnc35 := NB295_310.out
   have hnb36 := NB310_296.out
   have hnc36 := NB296_310.out
   have hcz37_0 : w18.cell? ⟨gb310, 0, none⟩ = some (.int .i64 0) := (blk_cell BK310.out 0).trans rfl
   have hcz37_1 : w18.cell? ⟨gb310, 1, none⟩ = some (.int .i64 0) := (blk_cell BK310.out 1).trans rfl
   have hcz37_2 : w18.cell? ⟨gb310, 2, none⟩ = some (.int .i64 0) := (blk_cell BK310.out 2).trans rfl
   have hcz37_3 : w18.cell? ⟨gb310, 3, none⟩ = some (.int .i64 0) := (blk_cell BK310.out 3).trans rfl
   have hcz37_4 : w18.cell? ⟨gb310, 4, none⟩ = some (.int .i64 0) := (blk_cell BK310.out 4).trans rfl
   have hfz37_0 := blk_frozen BK310.out 0
   have hfz37_1 := blk_frozen BK310.out 1
   have hfz37_2 := blk_frozen BK310.out 2
   have hfz37_3 := blk_frozen BK310.out 3
   have hfz37_4 := blk_frozen BK310.out 4
   go_wp2
   go_meet
   case rel => exact ⟨_, ((t302 != t309)), (by first | rfl | (simp; done) | (simp [*]; done)), H', ⟨by first | omega | exact Nat.le_refl _⟩, ⟨by (with_reducible repeat (first | refine kN ?_ _ | refine kD ?_ | refine kA ?_ _)); refine blk_far ?_ NB295_310.out _; (with_reducible repeat (first | refine kN ?_ _ | refine kD ?_ | refine kA ?_ _)); refine blk_far ?_ NB295_310.out _; (with_reducible repeat (first | refine kN ?_ _ | refine kD ?_ | refine kA ?_ _)); refine blk_far ?_ NB295_310.out _; (with_reducible repeat (first | refine kN ?_ _ | refine kD ?_ | refine kA ?_ _)); refine blk_far ?_ NB295_310.out _; (with_reducible repeat (first | refine kN ?_ _ | refine kD ?_ | refine kA ?_ _)); refine blk_far ?_ NB295_310.out _; (with_reducible repeat (first | refine kN ?_ _ | refine kD ?_ | refine kA ?_ _)); exact BK295.out⟩, ⟨by (with_reducible repeat (first | refine kN ?_ _ | refine kD ?_ | refine kA ?_ _)); refine blk_far ?_ NB296_310.out _; (with_reducible repeat (first | refine kN ?_ _ | refine kD ?_ | refine kA ?_ _)); refine blk_far ?_ NB296_310.out _; (with_reducible repeat (first | refine kN ?_ _ | refine kD ?_ | refine kA ?_ _)); refine blk_far ?_ NB296_310.out _; (with_reducible repeat (first | refine kN ?_ _ | refine kD ?_ | refine kA ?_ _)); refine blk_far ?_ NB296_310.out _; (with_reducible repeat (first | refine kN ?_ _ | refine kD ?_ | refine kA ?_ _)); refine blk_far ?_ NB296_310.out _; (with_reducible repeat (first | refine kN ?_ _ | refine kD ?_ | refine kA ?_ _)); exact BK296.out⟩, ⟨by (with_reducible repeat (first | refine kN ?_ _ | refine kD ?_ | refine kA ?_ _)); refine blk_far ?_ NB303_310.out _; (with_reducible repeat (first | refine kN ?_ _ | refine kD ?_ | refine kA ?_ _)); refine blk_far ?_ NB303_310.out _; (with_reducible repeat (first | refine kN ?_ _ | refine kD ?_ | refine kA ?_ _)); refine blk_far ?_ NB303_310.out _; (with_reducible repeat (first | refine kN ?_ _ | refine kD ?_ | refine kA ?_ _)); refine blk_far ?_ NB303_310.out _; (with_reducible repeat (first | refine kN ?_ _ | refine kD ?_ | refine kA ?_ _)); refine blk_far ?_ NB303_310.out _; (with_reducible repeat (first | refine kN ?_ _ | refine kD ?_ | refine kA ?_ _)); exact BK303.out⟩, ⟨by (with_reducible repeat (first | refine kN ?_ _ | refine kD ?_ | refine kA ?_ _)); refine blk_put (cs := #[.int .i64 t304, .int .i64 t305, .int .i64 t306, .int .i64 t307, .int .i64 0]) ?_ 4 _ rfl; (with_reducible repeat (first | refine kN ?_ _ | refine kD ?_ | refine kA ?_ _)); refine blk_put (cs := #[.int .i64 t304, .int .i64 t305, .int .i64 t306, .int .i64 0, .int .i64 0]) ?_ 3 _ rfl; (with_reducible repeat (first | refine kN ?_ _ | refine kD ?_ | refine kA ?_ _)); refine blk_put (cs := #[.int .i64 t304, .int .i64 t305, .int .i64 0, .int .i64 0, .int .i64 0]) ?_ 2 _ rfl; (with_reducible repeat (first | refine kN ?_ _ | refine kD ?_ | refine kA ?_ _)); refine blk_put (cs := #[.int .i64 t304, .int .i64 0, .int .i64 0, .int .i64 0, .int .i64 0]) ?_ 1 _ rfl; (with_reducible repeat (first | refine kN ?_ _ | refine kD ?_ | refine kA ?_ _)); refine blk_put (cs := #[.int .i64 0, .int .i64 0, .int .i64 0, .int .i64 0, .int .i64 0]) ?_ 0 _ rfl; (with_reducible repeat (first | refine kN ?_ _ | refine kD ?_ | refine kA ?_ _)); exact BK310.out⟩, ⟨by repeat (first | (with_reducible first | exact HB.out | apply bA | apply bN | apply bD | refine bS ?_ GE295.out | refine bS ?_ GE296.out | refine bS ?_ GE303.out | refine bS ?_ GE310.out) | exact HB.out)⟩⟩
 case rest =>
  clear HC6
  try clear c1
  try clear c2
  try clear p2
  try clear c3
  try clear c5
  try clear c9
  try clear c13
  try clear c14
  try clear c17
  try clear c19
  try clear c20
  try clear c21
  try clear c23
  try clear c23b0
  try clear c24
  try clear c25
  try clear c26
  try clear c28
  try clear c29
  try clear c31
  try clear c32
  try clear c33
  try clear c35
  try clear c36
  try clear hcz10_0
  try clear hcz10_1
  try clear hcz10_2
  try clear hcz15_0
  try clear hcz15_1
  try clear hcz15_2
  try clear hcz15_3
  try clear hcz15_4
  try clear hcz16_0
  try clear hcz16_1
  try clear hcz16_2
  try clear hcz22_0
  try clear hcz22_1
  try clear hcz22_2
  try clear hcz22_3
  try clear hcz22_4
  try clear hcz27_0
  try clear hcz27_1
  try clear hcz27_2
  try clear hcz27_3
  try clear hcz27_4
  try clear hcz30_0
  try clear hcz30_1
  try clear hcz30_2
  try clear hcz30_3
  try clear hcz30_4
  try clear hcz34_0
  try clear hcz34_1
  try clear hcz34_2
  try clear hcz34_3
  try clear hcz34_4
  try clear hcz37_0
  try clear hcz37_1
  try clear hcz37_2
  try clear hcz37_3
  try clear hcz37_4
  try clear hfz10_0
  try clear hfz10_1
  try clear hfz10_2
  try clear hfz15_0
  try clear hfz15_1
  try clear hfz15_2
  try clear hfz15_3
  try clear hfz15_4
  try clear hfz16_0
  try clear hfz16_1
  try clear hfz16_2
  try clear hfz22_0
  try clear hfz22_1
  try clear hfz22_2
  try clear hfz22_3
  try clear hfz22_4
  try clear hfz27_0
  try clear hfz27_1
  try clear hfz27_2
  try clear hfz27_3
  try clear hfz27_4
  try clear hfz30_0
  try clear hfz30_1
  try clear hfz30_2
  try clear hfz30_3
  try clear hfz30_4
  try clear hfz34_0
  try clear hfz34_1
  try clear hfz34_2
  try clear hfz34_3
  try clear hfz34_4
  try clear hfz37_0
  try clear hfz37_1
  try clear hfz37_2
  try clear hfz37_3
  try clear hfz37_4
  obtain ⟨kq, x39_5, rfl, HA, HJ5, BK295, BK296, BK303, BK310, HB⟩ := hcut
  cases kq with
  | zero => exact absurd HA.out (by simp [octroilaw38_SettleOf.j0])
  | succ kj5 =>
   have H := HA.out
   clear HA
   simp only [octroilaw38_SettleOf.j0] at H
   by_cases c38 : x39_5 = true
   ·subst c38
    have H1 : (some false) = some r := by rw [if_pos rfl] at H; exact H
    clear H
    have H := H1
    clear H1
    obtain rfl := Option.some.inj H
    go_wp2
    go_ret
    exact ⟨by first | rfl | (simp [errW_none, errW_some] <;> rfl) | (simp [*, errW_none, errW_some] <;> rfl), by repeat (first | (with_reducible first | exact HB.out | apply bA | apply bN | apply bD | refine bS ?_ GE295.out | refine bS ?_ GE296.out | refine bS ?_ GE303.out | refine bS ?_ GE310.out) | exact HB.out)⟩
   ·replace c38 := Bool.eq_false_iff.mpr c38
    subst c38
    have H1 : ((some (([(⟨t297, t298, t299, t300, t301⟩ : S41), (⟨a2_0, a2_1, a2_2, a2_3, a2_4⟩ : S41)] : List (S41)) : List (S41))).bind fun y311 => (octroilaw38_SettleOf.l0 kj5 y311 (y311.length : Int) 0)) = some r := by rw [if_neg (show ¬ (false = true) by decide)] at H; exact H
    clear H
    have H := H1
    clear H1
    obtain ⟨y311, hy311⟩ : ∃ y_ : List (S41), y_ = (([(⟨t297, t298, t299, t300, t301⟩ : S41), (⟨a2_0, a2_1, a2_2, a2_3, a2_4⟩ : S41)] : List (S41))) := ⟨_, rfl⟩
    replace H : (octroilaw38_SettleOf.l0 kj5 y311 (y311.length : Int) 0) = some r := by first | (rw [hy311]; with_reducible exact H) | (have H2_ := (Option.bind_some _ _).symm.trans H; rw [hy311]; with_reducible exact H2_) | (have H2_ := (Option.bind_some _ _).symm.trans H; with_reducible exact H2_) | with_reducible exact H | (rw [hy311]; exact H) | exact H
    have Ny311 := A0m hy311
    clear hy311
    have H' := A0m H
    clear H
    have hnb39 := NB303_295.out
    have hnc39 := NB295_303.out
    have hnb40 := NB303_296.out
    have hnc40 := NB296_303.out
    have hnb41 := NB303_310.out
    have hnc41 := NB310_303.out
    have hcz42_0 : wc.cell? ⟨gb303, 0, none⟩ = some (.int .i64 t297) := (blk_cell BK303.out 0).trans rfl
    have hcz42_1 : wc.cell? ⟨gb303, 1, none⟩ = some (.int .i64 t298) := (blk_cell BK303.out 1).trans rfl
    have hcz42_2 : wc.cell? ⟨gb303, 2, none⟩ = some (.int .i64 t299) := (blk_cell BK303.out 2).trans rfl
    have hcz42_3 : wc.cell? ⟨gb303, 3, none⟩ = some (.int .i64 t300) := (blk_cell BK303.out 3).trans rfl
    have hcz42_4 : wc.cell? ⟨gb303, 4, none⟩ = some (.int .i64 t301) := (blk_cell BK303.out 4).trans rfl
    have hfz42_0 := blk_frozen BK303.out 0
    have hfz42_1 := blk_frozen BK303.out 1
    have hfz42_2 := blk_frozen BK303.out 2
    have hfz42_3 := blk_frozen BK303.out 3
    have hfz42_4 := blk_frozen BK303.out 4
    have hnb43 := NB296_295.out
    have hnc43 := NB295_296.out
    have hnb44 := NB296_310.out
    have hnc44 := NB310_296.out
    have hcz45_0 : wc.cell? ⟨gb296, 0, none⟩ = some (.int .i64 a2_0) := (blk_cell BK296.out 0).trans rfl
    have hcz45_1 : wc.cell? ⟨gb296, 1, none⟩ = some (.int .i64 a2_1) := (blk_cell BK296.out 1).trans rfl
    have hcz45_2 : wc.cell? ⟨gb296, 2, none⟩ = some (.int .i64 a2_2) := (blk_cell BK296.out 2).trans rfl
    have hcz45_3 : wc.cell? ⟨gb296, 3, none⟩ = some (.int .i64 a2_3) := (blk_cell BK296.out 3).trans rfl
    have hcz45_4 : wc.cell? ⟨gb296, 4, none⟩ = some (.int .i64 a2_4) := (blk_cell BK296.out 4).trans rfl
    have hfz45_0 := blk_frozen BK296.out 0
    have hfz45_1 := blk_frozen BK296.out 1
    have hfz45_2 := blk_frozen BK296.out 2
    have hfz45_3 := blk_frozen BK296.out 3
    have hfz45_4 := blk_frozen BK296.out 4
    go_wp2_with (first | ((with_reducible refine gate_dst (N := 42) rfl ?_); refine Kd.R_lit k41 _ 41 ?hg (N := 42) ?hd (xs := ([(⟨t297, t298, t299, t300, t301⟩ : S41), (⟨a2_0, a2_1, a2_2, a2_3, a2_4⟩ : S41)] : List (S41))) (inner := [.int .i64 t297, .int .i64 t298, .int .i64 t299, .int .i64 t300, .int .i64 t301, .int .i64 a2_0, .int .i64 a2_1, .int .i64 a2_2, .int .i64 a2_3, .int .i64 a2_4]) (ok := fun _ => True) (okp := fun _ => True) ?hr ?hp (fun _ hk => hk) trivial (Below.refl _ _) (Nat.le_refl _) (by simp) ?_; (case hd => rfl); (case hg => rfl); (case hr => first | (go_simp; done) | (go_simp; rfl)); (case hp => exact (Reps.c5 (show Kd.M k41 _ _ _ (⟨t297, t298, t299, t300, t301⟩ : S41) [.int .i64 t297, .int .i64 t298, .int .i64 t299, .int .i64 t300, .int .i64 t301] from (k41_mkM _ _ _ (⟨t297, t298, t299, t300, t301⟩ : S41) )) (Reps.c5 (show Kd.M k41 _ _ _ (⟨a2_0, a2_1, a2_2, a2_3, a2_4⟩ : S41) [.int .i64 a2_0, .int .i64 a2_1, .int .i64 a2_2, .int .i64 a2_3, .int .i64 a2_4] from (k41_mkM _ _ _ (⟨a2_0, a2_1, a2_2, a2_3, a2_4⟩ : S41) )) (Reps.none _ _)))); intro v312 w46 ho47 hb hg_ hnew_; clear hg_ hnew_; (first | rw [← Ny311.out] at ho47 | (simp only [Int.reduceToNat] at ho47; rw [← Ny311.out] at ho47)); have n0_ := A0m (Kd.R_lower (Kd.R_newB (Kd.R_newB ho47 (g := gb296) (o := .cells #[.int .i64 a2_0, .int .i64 a2_1, .int .i64 a2_2, .int .i64 a2_3, .int .i64 a2_4] 41 (0, 0)) (by (with_reducible repeat (first | refine kN ?_ _ | refine kD ?_ | refine kA ?_ _)); exact BK296.out)) (g := gb303) (o := .cells #[.int .i64 t297, .int .i64 t298, .int .i64 t299, .int .i64 t300, .int .i64 t301] 41 (0, 0)) (by (with_reducible repeat (first | refine kN ?_ _ | refine kD ?_ | refine kA ?_ _)); exact BK303.out)) (below_size (by repeat (first | (with_reducible first | exact HB.out | apply bA | apply bN | apply bD | refine bS ?_ GE295.out | refine bS ?_ GE296.out | refine bS ?_ GE303.out | refine bS ?_ GE310.out) | exact HB.out)))); have n1_ := A0m (blk_below (g := gb295) (o := .cells #[.int .i64 a0_0, .int .i64 a0_1, .int .i64 a0_2] 36 (0, 0)) (by (with_reducible repeat (first | refine kN ?_ _ | refine kD ?_ | refine kA ?_ _)); exact BK295.out) hb); have n2_ := A0m (blk_below (g := gb296) (o := .cells #[.int .i64 a2_0, .int .i64 a2_1, .int .i64 a2_2, .int .i64 a2_3, .int .i64 a2_4] 41 (0, 0)) (by (with_reducible repeat (first | refine kN ?_ _ | refine kD ?_ | refine kA ?_ _)); exact BK296.out) hb); have n3_ := A0m (blk_below (g := gb303) (o := .cells #[.int .i64 t297, .int .i64 t298, .int .i64 t299, .int .i64 t300, .int .i64 t301] 41 (0, 0)) (by (with_reducible repeat (first | refine kN ?_ _ | refine kD ?_ | refine kA ?_ _)); exact BK303.out) hb); have n4_ := A0m (blk_below (g := gb310) (o := .cells #[.int .i64 t304, .int .i64 t305, .int .i64 t306, .int .i64 t307, .int .i64 t308] 38 (0, 0)) (by (with_reducible repeat (first | refine kN ?_ _ | refine kD ?_ | refine kA ?_ _)); exact BK310.out) hb); have n5_ := A0m (below_step (by repeat (first | (with_reducible first | exact HB.out | apply bA | apply bN | apply bD | refine bS ?_ GE295.out | refine bS ?_ GE296.out | refine bS ?_ GE303.out | refine bS ?_ GE310.out) | exact HB.out)) hb); clear BK295; clear BK296; clear BK303; clear BK310; clear HB; have HO313 := n0_; have BK295 := n1_; have BK296 := n2_; have BK303 := n3_; have BK310 := n4_; have HB := n5_; clear n0_ n1_ n2_ n3_ n4_ n5_; clear hb ho47; obtain ⟨Ao48, co48, eo48⟩ := Kd.R_slice HO313.out; subst eo48))
    go_loopg [44] kj5 (fun kq v44 w' => ∃ (x44_2 : Int), v44 = .int .i64 x44_2 ∧ Aside0 (octroilaw38_SettleOf.l0 kq y311 (y311.length : Int) x44_2 = some r) ∧ Aside0 (kq ≤ kj5) ∧ Aside0 (Kd.R k41 41 w' w.heap.size (fun k_ => k_ ≠ gb296 ∧ k_ ≠ gb303) (.slice Ao48 y311.length co48) y311) ∧ Aside0 (w'.heap[gb295]? = some (.cells #[.int .i64 a0_0, .int .i64 a0_1, .int .i64 a0_2] 36 (0, 0))) ∧ Aside0 (w'.heap[gb296]? = some (.cells #[.int .i64 a2_0, .int .i64 a2_1, .int .i64 a2_2, .int .i64 a2_3, .int .i64 a2_4] 41 (0, 0))) ∧ Aside0 (w'.heap[gb303]? = some (.cells #[.int .i64 t297, .int .i64 t298, .int .i64 t299, .int .i64 t300, .int .i64 t301] 41 (0, 0))) ∧ Aside0 (w'.heap[gb310]? = some (.cells #[.int .i64 t304, .int .i64 t305, .int .i64 t306, .int .i64 t307, .int .i64 t308] 38 (0, 0))) ∧ Aside0 (Below w.heap.size w w'))
    case atStart => exact ⟨(0), (by first | rfl | (simp; done) | (simp [*]; done)), H', ⟨Nat.le_refl _⟩, ⟨by (with_reducible repeat (first | apply rA | apply rN | apply rD)); exact Kd.R_mono HO313.out (fun _ hk => ⟨hk.1.2, hk.2⟩)⟩, ⟨by (with_reducible repeat (first | refine kN ?_ _ | refine kD ?_ | refine kA ?_ _)); exact BK295.out⟩, ⟨by (with_reducible repeat (first | refine kN ?_ _ | refine kD ?_ | refine kA ?_ _)); exact BK296.out⟩, ⟨by (with_reducible repeat (first | refine kN ?_ _ | refine kD ?_ | refine kA ?_ _)); exact BK303.out⟩, ⟨by (with_reducible repeat (first | refine kN ?_ _ | refine kD ?_ | refine kA ?_ _)); exact BK310.out⟩, ⟨by repeat (first | (with_reducible first | exact HB.out | apply bA | apply bN | apply bD | refine bS ?_ GE295.out | refine bS ?_ GE296.out | refine bS ?_ GE303.out | refine bS ?_ GE310.out) | exact HB.out)⟩⟩
    case round =>
     clear H'
     try clear c1
     try clear c2
     try clear p2
     try clear c3
     try clear c4
     try clear c5
     try clear c9
     try clear c13
     try clear c14
     try clear c17
     try clear c19
     try clear c20
     try clear c21
     try clear c23
     try clear c23b0
     try clear c24
     try clear c25
     try clear c26
     try clear c28
     try clear c29
     try clear c31
     try clear c32
     try clear c33
     try clear c35
     try clear c36
     try clear c38
     try clear c39
     try clear c40
     try clear c41
     try clear c43
     try clear c44
     try clear hcz10_0
     try clear hcz10_1
     try clear hcz10_2
     try clear hcz15_0
     try clear hcz15_1
     try clear hcz15_2
     try clear hcz15_3
     try clear hcz15_4
     try clear hcz16_0
     try clear hcz16_1
     try clear hcz16_2
     try clear hcz22_0
     try clear hcz22_1
     try clear hcz22_2
     try clear hcz22_3
     try clear hcz22_4
     try clear hcz27_0
     try clear hcz27_1
     try clear hcz27_2
     try clear hcz27_3
     try clear hcz27_4
     try clear hcz30_0
     try clear hcz30_1
     try clear hcz30_2
     try clear hcz30_3
     try clear hcz30_4
     try clear hcz34_0
     try clear hcz34_1
     try clear hcz34_2
     try clear hcz34_3
     try clear hcz34_4
     try clear hcz37_0
     try clear hcz37_1
     try clear hcz37_2
     try clear hcz37_3
     try clear hcz37_4
     try clear hcz42_0
     try clear hcz42_1
     try clear hcz42_2
     try clear hcz42_3
     try clear hcz42_4
     try clear hcz45_0
     try clear hcz45_1
     try clear hcz45_2
     try clear hcz45_3
     try clear hcz45_4
     try clear hfz10_0
     try clear hfz10_1
     try clear hfz10_2
     try clear hfz15_0
     try clear hfz15_1
     try clear hfz15_2
     try clear hfz15_3
     try clear hfz15_4
     try clear hfz16_0
     try clear hfz16_1
     try clear hfz16_2
     try clear hfz22_0
     try clear hfz22_1
     try clear hfz22_2
     try clear hfz22_3
     try clear hfz22_4
     try clear hfz27_0
     try clear hfz27_1
     try clear hfz27_2
     try clear hfz27_3
     try clear hfz27_4
     try clear hfz30_0
     try clear hfz30_1
     try clear hfz30_2
     try clear hfz30_3
     try clear hfz30_4
     try clear hfz34_0
     try clear hfz34_1
     try clear hfz34_2
     try clear hfz34_3
     try clear hfz34_4
     try clear hfz37_0
     try clear hfz37_1
     try clear hfz37_2
     try clear hfz37_3
     try clear hfz37_4
     try clear hfz42_0
     try clear hfz42_1
     try clear hfz42_2
     try clear hfz42_3
     try clear hfz42_4
     try clear hfz45_0
     try clear hfz45_1
     try clear hfz45_2
     try clear hfz45_3
     try clear hfz45_4
     try clear p2
     obtain ⟨x44_2, rfl, HA, HK2, HO_42, BK295, BK296, BK303, BK310, HB⟩ := hrel
     cases gk with
     | zero => exact absurd HA.out (by simp [octroilaw38_SettleOf.l0])
     | succ k2 =>
      have H := HA.out
      clear HA
      simp only [octroilaw38_SettleOf.l0] at H
      by_cases c49 : x44_2 < (y311.length : Int)
      ·rw [if_pos c49] at H
       have c49b0 : decide (x44_2 < (y311.length : Int)) = true := decide_eq_true c49
       clear c49
       by_cases c50 : 0 ≤ x44_2
       ·rw [if_pos c50] at H
        have c50b0 : decide (0 ≤ x44_2) = true := decide_eq_true c50
        clear c50
        by_cases c51 : x44_2 < (y311.length : Int)
        ·rw [if_pos c51] at H
         have c51b0 : decide (x44_2 < (y311.length : Int)) = true := decide_eq_true c51
         clear c51
         replace H := Option.bind_eq_some_iff.mp H
         obtain ⟨⟨t317, t320⟩, A520, H⟩ := H
         replace H : ((octroiref38_Posts.f k2 ((rd_T41 y311 x44_2).f0) ((rd_T41 y311 x44_2).f1) ((rd_T41 y311 x44_2).f2) ((rd_T41 y311 x44_2).f3) ((rd_T41 y311 x44_2).f4)).bind fun bt321 => ((octroilaw38_same.f k2 t317 bt321.1).bind fun t325 => (if t325 = true then (if t320 = bt321.2 then ((settle_Good.f k2 ((rd_T41 y311 x44_2).f0) ((rd_T41 y311 x44_2).f1) ((rd_T41 y311 x44_2).f2) ((rd_T41 y311 x44_2).f3) ((rd_T41 y311 x44_2).f4)).bind fun t326 => ((octroiref38_Good.f k2 ((rd_T41 y311 x44_2).f0) ((rd_T41 y311 x44_2).f1) ((rd_T41 y311 x44_2).f2) ((rd_T41 y311 x44_2).f3) ((rd_T41 y311 x44_2).f4)).bind fun t327 => (if (t326 != t327) = true then (some false) else ((settle_Text.f ((rd_T41 y311 x44_2).f0) ((rd_T41 y311 x44_2).f1) ((rd_T41 y311 x44_2).f2) ((rd_T41 y311 x44_2).f3) ((rd_T41 y311 x44_2).f4)).bind fun t328 => ((octroiref38_Text.f k2 ((rd_T41 y311 x44_2).f0) ((rd_T41 y311 x44_2).f1) ((rd_T41 y311 x44_2).f2) ((rd_T41 y311 x44_2).f3) ((rd_T41 y311 x44_2).f4)).bind fun t329 => (if t328.toList = t329.toList then (octroilaw38_SettleOf.l0 k2 y311 (y311.length : Int) (wrap64 (x44_2 + 1))) else (some false))))))) else (some false)) else (some false)))) = some r := H
         have A52 := A0m A520
         clear A520
         replace H := Option.bind_eq_some_iff.mp H
         obtain ⟨⟨t321, t324⟩, A530, H⟩ := H
         replace H : ((octroilaw38_same.f k2 t317 t321).bind fun t325 => (if t325 = true then (if t320 = t324 then ((settle_Good.f k2 ((rd_T41 y311 x44_2).f0) ((rd_T41 y311 x44_2).f1) ((rd_T41 y311 x44_2).f2) ((rd_T41 y311 x44_2).f3) ((rd_T41 y311 x44_2).f4)).bind fun t326 => ((octroiref38_Good.f k2 ((rd_T41 y311 x44_2).f0) ((rd_T41 y311 x44_2).f1) ((rd_T41 y311 x44_2).f2) ((rd_T41 y311 x44_2).f3) ((rd_T41 y311 x44_2).f4)).bind fun t327 => (if (t326 != t327) = true then (some false) else ((settle_Text.f ((rd_T41 y311 x44_2).f0) ((rd_T41 y311 x44_2).f1) ((rd_T41 y311 x44_2).f2) ((rd_T41 y311 x44_2).f3) ((rd_T41 y311 x44_2).f4)).bind fun t328 => ((octroiref38_Text.f k2 ((rd_T41 y311 x44_2).f0) ((rd_T41 y311 x44_2).f1) ((rd_T41 y311 x44_2).f2) ((rd_T41 y311 x44_2).f3) ((rd_T41 y311 x44_2).f4)).bind fun t329 => (if t328.toList = t329.toList then (octroilaw38_SettleOf.l0 k2 y311 (y311.length : Int) (wrap64 (x44_2 + 1))) else (some false))))))) else (some false)) else (some false))) = some r := H
         have A53 := A0m A530
         clear A530
         replace H := Option.bind_eq_some_iff.mp H
         obtain ⟨t325, A540, H⟩ := H
         replace H : (if t325 = true then (if t320 = t324 then ((settle_Good.f k2 ((rd_T41 y311 x44_2).f0) ((rd_T41 y311 x44_2).f1) ((rd_T41 y311 x44_2).f2) ((rd_T41 y311 x44_2).f3) ((rd_T41 y311 x44_2).f4)).bind fun t326 => ((octroiref38_Good.f k2 ((rd_T41 y311 x44_2).f0) ((rd_T41 y311 x44_2).f1) ((rd_T41 y311 x44_2).f2) ((rd_T41 y311 x44_2).f3) ((rd_T41 y311 x44_2).f4)).bind fun t327 => (if (t326 != t327) = true then (some false) else ((settle_Text.f ((rd_T41 y311 x44_2).f0) ((rd_T41 y311 x44_2).f1) ((rd_T41 y311 x44_2).f2) ((rd_T41 y311 x44_2).f3) ((rd_T41 y311 x44_2).f4)).bind fun t328 => ((octroiref38_Text.f k2 ((rd_T41 y311 x44_2).f0) ((rd_T41 y311 x44_2).f1) ((rd_T41 y311 x44_2).f2) ((rd_T41 y311 x44_2).f3) ((rd_T41 y311 x44_2).f4)).bind fun t329 => (if t328.toList = t329.toList then (octroilaw38_SettleOf.l0 k2 y311 (y311.length : Int) (wrap64 (x44_2 + 1))) else (some false))))))) else (some false)) else (some false)) = some r := H
         have A54 := A0m A540
         clear A540
         by_cases c55 : t325 = true
         ·subst c55
          have H1 : (if t320 = t324 then ((settle_Good.f k2 ((rd_T41 y311 x44_2).f0) ((rd_T41 y311 x44_2).f1) ((rd_T41 y311 x44_2).f2) ((rd_T41 y311 x44_2).f3) ((rd_T41 y311 x44_2).f4)).bind fun t326 => ((octroiref38_Good.f k2 ((rd_T41 y311 x44_2).f0) ((rd_T41 y311 x44_2).f1) ((rd_T41 y311 x44_2).f2) ((rd_T41 y311 x44_2).f3) ((rd_T41 y311 x44_2).f4)).bind fun t327 => (if (t326 != t327) = true then (some false) else ((settle_Text.f ((rd_T41 y311 x44_2).f0) ((rd_T41 y311 x44_2).f1) ((rd_T41 y311 x44_2).f2) ((rd_T41 y311 x44_2).f3) ((rd_T41 y311 x44_2).f4)).bind fun t328 => ((octroiref38_Text.f k2 ((rd_T41 y311 x44_2).f0) ((rd_T41 y311 x44_2).f1) ((rd_T41 y311 x44_2).f2) ((rd_T41 y311 x44_2).f3) ((rd_T41 y311 x44_2).f4)).bind fun t329 => (if t328.toList = t329.toList then (octroilaw38_SettleOf.l0 k2 y311 (y311.length : Int) (wrap64 (x44_2 + 1))) else (some false))))))) else (some false)) = some r := by rw [if_pos rfl] at H; exact H
          clear H
          have H := H1
          clear H1
          by_cases c56 : t320 = t324
          ·rw [if_pos c56] at H
           have c56b0 : (t320 == t324) = true := beq_iff_eq.mpr c56
           have c56b1 : (t320 != t324) = false := bne_eq_false_iff_eq.mpr c56
           clear c56
           replace H := Option.bind_eq_some_iff.mp H
           obtain ⟨t326, A570, H⟩ := H
           replace H : ((octroiref38_Good.f k2 ((rd_T41 y311 x44_2).f0) ((rd_T41 y311 x44_2).f1) ((rd_T41 y311 x44_2).f2) ((rd_T41 y311 x44_2).f3) ((rd_T41 y311 x44_2).f4)).bind fun t327 => (if (t326 != t327) = true then (some false) else ((settle_Text.f ((rd_T41 y311 x44_2).f0) ((rd_T41 y311 x44_2).f1) ((rd_T41 y311 x44_2).f2) ((rd_T41 y311 x44_2).f3) ((rd_T41 y311 x44_2).f4)).bind fun t328 => ((octroiref38_Text.f k2 ((rd_T41 y311 x44_2).f0) ((rd_T41 y311 x44_2).f1) ((rd_T41 y311 x44_2).f2) ((rd_T41 y311 x44_2).f3) ((rd_T41 y311 x44_2).f4)).bind fun t329 => (if t328.toList = t329.toList then (octroilaw38_SettleOf.l0 k2 y311 (y311.length : Int) (wrap64 (x44_2 + 1))) else (some false)))))) = some r := H
           have A57 := A0m A570
           clear A570
           replace H := Option.bind_eq_some_iff.mp H
           obtain ⟨t327, A580, H⟩ := H
           replace H : (if (t326 != t327) = true then (some false) else ((settle_Text.f ((rd_T41 y311 x44_2).f0) ((rd_T41 y311 x44_2).f1) ((rd_T41 y311 x44_2).f2) ((rd_T41 y311 x44_2).f3) ((rd_T41 y311 x44_2).f4)).bind fun t328 => ((octroiref38_Text.f k2 ((rd_T41 y311 x44_2).f0) ((rd_T41 y311 x44_2).f1) ((rd_T41 y311 x44_2).f2) ((rd_T41 y311 x44_2).f3) ((rd_T41 y311 x44_2).f4)).bind fun t329 => (if t328.toList = t329.toList then (octroilaw38_SettleOf.l0 k2 y311 (y311.length : Int) (wrap64 (x44_2 + 1))) else (some false))))) = some r := H
           have A58 := A0m A580
           clear A580
           by_cases c59 : (t326 != t327) = true
           ·rw [if_pos c59] at H
            have c59b0 : (t326 != t327) = true := c59
            (try (have c59b1 : decide (t326 = t327) = false := by simpa using c59))
            (try (have c59b2 : (t326 == t327) = false := by simpa using c59))
            (try (have c59b3 : ¬ (t326 = t327) := by simpa using c59))
            clear c59
            obtain rfl := Option.some.inj H
            have p315 : 0 ≤ (x44_2 : Int) := of_decide_eq_true (by first | (with_reducible assumption) | assumption)
            have q315 : x44_2 < (y311.length : Int) := of_decide_eq_true (by first | (with_reducible assumption) | assumption)
            obtain ⟨ad315, e315, hx315_0, hx315_1, hx315_2, hx315_3, hx315_4⟩ := at_T41 (Kd.R_reads' HO_42.out).2.2 x44_2 p315 q315
            cases e315
            replace p315 := eq_true p315
            replace q315 := eq_true q315
            try go_wp2_with (first | ((with_reducible refine gate_dst (N := 12) rfl ?_); refine box_event ?hg (N := 12) ?hd (cs := #[.int .i64 0, .int .i64 0, .int .i64 0, .int .i64 0, .int .i64 0]) (t := 41) ?hr ?_; (case hd => rfl); (case hg => rfl); (case hr => first | (go_simp; done) | (go_simp; rfl)); intro gb316 hg w60 hbox hb; have n0_ := A0m (Kd.R_below (Kd.R_elderB (by (with_reducible repeat (first | apply rA | apply rN | apply rD)); exact HO_42.out) gb316 (Nat.le_of_eq hg.symm)) hb); have n1_ := A0m (blk_below (g := gb295) (o := .cells #[.int .i64 a0_0, .int .i64 a0_1, .int .i64 a0_2] 36 (0, 0)) (by (with_reducible repeat (first | refine kN ?_ _ | refine kD ?_ | refine kA ?_ _)); exact BK295.out) hb); have n2_ := A0m (blk_below (g := gb296) (o := .cells #[.int .i64 a2_0, .int .i64 a2_1, .int .i64 a2_2, .int .i64 a2_3, .int .i64 a2_4] 41 (0, 0)) (by (with_reducible repeat (first | refine kN ?_ _ | refine kD ?_ | refine kA ?_ _)); exact BK296.out) hb); have n3_ := A0m (blk_below (g := gb303) (o := .cells #[.int .i64 t297, .int .i64 t298, .int .i64 t299, .int .i64 t300, .int .i64 t301] 41 (0, 0)) (by (with_reducible repeat (first | refine kN ?_ _ | refine kD ?_ | refine kA ?_ _)); exact BK303.out) hb); have n4_ := A0m (blk_below (g := gb310) (o := .cells #[.int .i64 t304, .int .i64 t305, .int .i64 t306, .int .i64 t307, .int .i64 t308] 38 (0, 0)) (by (with_reducible repeat (first | refine kN ?_ _ | refine kD ?_ | refine kA ?_ _)); exact BK310.out) hb); have n5_ := A0m (below_step (by repeat (first | (with_reducible first | exact HB.out | apply bA | apply bN | apply bD | refine bS ?_ GE295.out | refine bS ?_ GE296.out | refine bS ?_ GE303.out | refine bS ?_ GE310.out) | exact HB.out)) hb); have n6_ := A0m (hbox); have n7_ := A0m ((by rw [hg]; exact (below_size (by repeat (first | (with_reducible first | exact HB.out | apply bA | apply bN | apply bD | refine bS ?_ GE295.out | refine bS ?_ GE296.out | refine bS ?_ GE303.out | refine bS ?_ GE310.out) | exact HB.out))) : w.heap.size ≤ gb316)); have n8_ := A0m ((by rw [hg]; exact (below_size (by repeat (first | (with_reducible first | exact HB.out | apply bA | apply bN | apply bD | refine bS ?_ GE295.out | refine bS ?_ GE296.out | refine bS ?_ GE303.out | refine bS ?_ GE310.out) | exact HB.out))) : w.heap.size ≤ gb316)); have n9_ := A0m ((by rw [hg]; exact Nat.ne_of_lt (blk_lt (g := gb295) (o := .cells #[.int .i64 a0_0, .int .i64 a0_1, .int .i64 a0_2] 36 (0, 0)) (by (with_reducible repeat (first | refine kN ?_ _ | refine kD ?_ | refine kA ?_ _)); exact BK295.out)) : gb295 ≠ gb316)); have n10_ := A0m ((by rw [hg]; exact Nat.ne_of_gt (blk_lt (g := gb295) (o := .cells #[.int .i64 a0_0, .int .i64 a0_1, .int .i64 a0_2] 36 (0, 0)) (by (with_reducible repeat (first | refine kN ?_ _ | refine kD ?_ | refine kA ?_ _)); exact BK295.out)) : gb316 ≠ gb295)); have n11_ := A0m ((by rw [hg]; exact Nat.ne_of_lt (blk_lt (g := gb296) (o := .cells #[.int .i64 a2_0, .int .i64 a2_1, .int .i64 a2_2, .int .i64 a2_3, .int .i64 a2_4] 41 (0, 0)) (by (with_reducible repeat (first | refine kN ?_ _ | refine kD ?_ | refine kA ?_ _)); exact BK296.out)) : gb296 ≠ gb316)); have n12_ := A0m ((by rw [hg]; exact Nat.ne_of_gt (blk_lt (g := gb296) (o := .cells #[.int .i64 a2_0, .int .i64 a2_1, .int .i64 a2_2, .int .i64 a2_3, .int .i64 a2_4] 41 (0, 0)) (by (with_reducible repeat (first | refine kN ?_ _ | refine kD ?_ | refine kA ?_ _)); exact BK296.out)) : gb316 ≠ gb296)); have n13_ := A0m ((by rw [hg]; exact Nat.ne_of_lt (blk_lt (g := gb303) (o := .cells #[.int .i64 t297, .int .i64 t298, .int .i64 t299, .int .i64 t300, .int .i64 t301] 41 (0, 0)) (by (with_reducible repeat (first | refine kN ?_ _ | refine kD ?_ | refine kA ?_ _)); exact BK303.out)) : gb303 ≠ gb316)); have n14_ := A0m ((by rw [hg]; exact Nat.ne_of_gt (blk_lt (g := gb303) (o := .cells #[.int .i64 t297, .int .i64 t298, .int .i64 t299, .int .i64 t300, .int .i64 t301] 41 (0, 0)) (by (with_reducible repeat (first | refine kN ?_ _ | refine kD ?_ | refine kA ?_ _)); exact BK303.out)) : gb316 ≠ gb303)); have n15_ := A0m ((by rw [hg]; exact Nat.ne_of_lt (blk_lt (g := gb310) (o := .cells #[.int .i64 t304, .int .i64 t305, .int .i64 t306, .int .i64 t307, .int .i64 t308] 38 (0, 0)) (by (with_reducible repeat (first | refine kN ?_ _ | refine kD ?_ | refine kA ?_ _)); exact BK310.out)) : gb310 ≠ gb316)); have n16_ := A0m ((by rw [hg]; exact Nat.ne_of_gt (blk_lt (g := gb310) (o := .cells #[.int .i64 t304, .int .i64 t305, .int .i64 t306, .int .i64 t307, .int .i64 t308] 38 (0, 0)) (by (with_reducible repeat (first | refine kN ?_ _ | refine kD ?_ | refine kA ?_ _)); exact BK310.out)) : gb316 ≠ gb310)); clear HO_42; clear BK295; clear BK296; clear BK303; clear BK310; clear HB; have HO_42 := n0_; have BK295 := n1_; have BK296 := n2_; have BK303 := n3_; have BK310 := n4_; have HB := n5_; have BK316 := n6_; have GW316 := n7_; have GE316 := n8_; have NB295_316 := n9_; have NB316_295 := n10_; have NB296_316 := n11_; have NB316_296 := n12_; have NB303_316 := n13_; have NB316_303 := n14_; have NB310_316 := n15_; have NB316_310 := n16_; clear n0_ n1_ n2_ n3_ n4_ n5_ n6_ n7_ n8_ n9_ n10_ n11_ n12_ n13_ n14_ n15_ n16_; clear hb hbox hg; have hnb61 := NB316_295.out; have hnc61 := NB295_316.out; have hnb62 := NB316_296.out; have hnc62 := NB296_316.out; have hnb63 := NB316_303.out; have hnc63 := NB303_316.out; have hnb64 := NB316_310.out; have hnc64 := NB310_316.out; have hcz65_0 : w60.cell? ⟨gb316, 0, none⟩ = some (.int .i64 0) := (blk_cell BK316.out 0).trans rfl; have hcz65_1 : w60.cell? ⟨gb316, 1, none⟩ = some (.int .i64 0) := (blk_cell BK316.out 1).trans rfl; have hcz65_2 : w60.cell? ⟨gb316, 2, none⟩ = some (.int .i64 0) := (blk_cell BK316.out 2).trans rfl; have hcz65_3 : w60.cell? ⟨gb316, 3, none⟩ = some (.int .i64 0) := (blk_cell BK316.out 3).trans rfl; have hcz65_4 : w60.cell? ⟨gb316, 4, none⟩ = some (.int .i64 0) := (blk_cell BK316.out 4).trans rfl; have hfz65_0 := blk_frozen BK316.out 0; have hfz65_1 := blk_frozen BK316.out 1; have hfz65_2 := blk_frozen BK316.out 2; have hfz65_3 := blk_frozen BK316.out 3; have hfz65_4 := blk_frozen BK316.out 4) | ((with_reducible refine gate_callee (f := 20) rfl ?_); refine goesL_ (some 50) rfl rfl Tryd.func20 (by kernel_rfl) rfl #[.agg #[.int .i64 ((rd_T41 y311 x44_2).f0), .int .i64 ((rd_T41 y311 x44_2).f1), .int .i64 ((rd_T41 y311 x44_2).f2), .int .i64 ((rd_T41 y311 x44_2).f3), .int .i64 ((rd_T41 y311 x44_2).f4)]] rfl (by (try simp only [List.map_toArray, List.map_cons, List.map_nil]); first | done | rfl | (simp only [List.length_drop, List.length_take]; rfl)) ?_; (with_reducible refine (settle_Posts.calls k2 ((rd_T41 y311 x44_2).f0) ((rd_T41 y311 x44_2).f1) ((rd_T41 y311 x44_2).f2) ((rd_T41 y311 x44_2).f3) ((rd_T41 y311 x44_2).f4) t317 t320 _ A52.out).mono ?_); rintro e w66 ⟨v318, rfl, ho0, hb⟩; refine ⟨_, rfl, ?_⟩; have n0_ := A0m (Kd.R_below (by (with_reducible repeat (first | apply rA | apply rN | apply rD)); exact (Kd.R_mono (Kd.R_far (p := ⟨gb316, 4, none⟩) (Kd.R_far (p := ⟨gb316, 3, none⟩) (Kd.R_far (p := ⟨gb316, 2, none⟩) (Kd.R_far (p := ⟨gb316, 1, none⟩) (Kd.R_far (p := ⟨gb316, 0, none⟩) (Kd.R_mono HO_42.out (fun k_ hk => (⟨hk, hk.2⟩ : _ ∧ k_ ≠ gb316))) (fun _ hk => hk.2) (.int .i64 ((rd_T41 y311 x44_2).f0))) (fun _ hk => hk.2) (.int .i64 ((rd_T41 y311 x44_2).f1))) (fun _ hk => hk.2) (.int .i64 ((rd_T41 y311 x44_2).f2))) (fun _ hk => hk.2) (.int .i64 ((rd_T41 y311 x44_2).f3))) (fun _ hk => hk.2) (.int .i64 ((rd_T41 y311 x44_2).f4))) (fun _ h_ => h_.1))) hb); have n1_ := A0m (Kd.R_lower ho0 (below_size (by repeat (first | (with_reducible first | exact HB.out | apply bA | apply bN | apply bD | refine bS ?_ GE295.out | refine bS ?_ GE296.out | refine bS ?_ GE303.out | refine bS ?_ GE310.out | refine bS ?_ GE316.out) | exact HB.out)))); have n2_ := A0m (blk_below (g := gb295) (o := .cells #[.int .i64 a0_0, .int .i64 a0_1, .int .i64 a0_2] 36 (0, 0)) (by (with_reducible repeat (first | refine kN ?_ _ | refine kD ?_ | refine kA ?_ _)); refine blk_far ?_ NB295_316.out _; (with_reducible repeat (first | refine kN ?_ _ | refine kD ?_ | refine kA ?_ _)); refine blk_far ?_ NB295_316.out _; (with_reducible repeat (first | refine kN ?_ _ | refine kD ?_ | refine kA ?_ _)); refine blk_far ?_ NB295_316.out _; (with_reducible repeat (first | refine kN ?_ _ | refine kD ?_ | refine kA ?_ _)); refine blk_far ?_ NB295_316.out _; (with_reducible repeat (first | refine kN ?_ _ | refine kD ?_ | refine kA ?_ _)); refine blk_far ?_ NB295_316.out _; (with_reducible repeat (first | refine kN ?_ _ | refine kD ?_ | refine kA ?_ _)); exact BK295.out) hb); have n3_ := A0m (blk_below (g := gb296) (o := .cells #[.int .i64 a2_0, .int .i64 a2_1, .int .i64 a2_2, .int .i64 a2_3, .int .i64 a2_4] 41 (0, 0)) (by (with_reducible repeat (first | refine kN ?_ _ | refine kD ?_ | refine kA ?_ _)); refine blk_far ?_ NB296_316.out _; (with_reducible repeat (first | refine kN ?_ _ | refine kD ?_ | refine kA ?_ _)); refine blk_far ?_ NB296_316.out _; (with_reducible repeat (first | refine kN ?_ _ | refine kD ?_ | refine kA ?_ _)); refine blk_far ?_ NB296_316.out _; (with_reducible repeat (first | refine kN ?_ _ | refine kD ?_ | refine kA ?_ _)); refine blk_far ?_ NB296_316.out _; (with_reducible repeat (first | refine kN ?_ _ | refine kD ?_ | refine kA ?_ _)); refine blk_far ?_ NB296_316.out _; (with_reducible repeat (first | refine kN ?_ _ | refine kD ?_ | refine kA ?_ _)); exact BK296.out) hb); have n4_ := A0m (blk_below (g := gb303) (o := .cells #[.int .i64 t297, .int .i64 t298, .int .i64 t299, .int .i64 t300, .int .i64 t301] 41 (0, 0)) (by (with_reducible repeat (first | refine kN ?_ _ | refine kD ?_ | refine kA ?_ _)); refine blk_far ?_ NB303_316.out _; (with_reducible repeat (first | refine kN ?_ _ | refine kD ?_ | refine kA ?_ _)); refine blk_far ?_ NB303_316.out _; (with_reducible repeat (first | refine kN ?_ _ | refine kD ?_ | refine kA ?_ _)); refine blk_far ?_ NB303_316.out _; (with_reducible repeat (first | refine kN ?_ _ | refine kD ?_ | refine kA ?_ _)); refine blk_far ?_ NB303_316.out _; (with_reducible repeat (first | refine kN ?_ _ | refine kD ?_ | refine kA ?_ _)); refine blk_far ?_ NB303_316.out _; (with_reducible repeat (first | refine kN ?_ _ | refine kD ?_ | refine kA ?_ _)); exact BK303.out) hb); have n5_ := A0m (blk_below (g := gb310) (o := .cells #[.int .i64 t304, .int .i64 t305, .int .i64 t306, .int .i64 t307, .int .i64 t308] 38 (0, 0)) (by (with_reducible repeat (first | refine kN ?_ _ | refine kD ?_ | refine kA ?_ _)); refine blk_far ?_ NB310_316.out _; (with_reducible repeat (first | refine kN ?_ _ | refine kD ?_ | refine kA ?_ _)); refine blk_far ?_ NB310_316.out _; (with_reducible repeat (first | refine kN ?_ _ | refine kD ?_ | refine kA ?_ _)); refine blk_far ?_ NB310_316.out _; (with_reducible repeat (first | refine kN ?_ _ | refine kD ?_ | refine kA ?_ _)); refine blk_far ?_ NB310_316.out _; (with_reducible repeat (first | refine kN ?_ _ | refine kD ?_ | refine kA ?_ _)); refine blk_far ?_ NB310_316.out _; (with_reducible repeat (first | refine kN ?_ _ | refine kD ?_ | refine kA ?_ _)); exact BK310.out) hb); have n6_ := A0m (blk_below (g := gb316) (o := .cells #[.int .i64 ((rd_T41 y311 x44_2).f0), .int .i64 ((rd_T41 y311 x44_2).f1), .int .i64 ((rd_T41 y311 x44_2).f2), .int .i64 ((rd_T41 y311 x44_2).f3), .int .i64 ((rd_T41 y311 x44_2).f4)] 41 (0, 0)) (by (with_reducible repeat (first | refine kN ?_ _ | refine kD ?_ | refine kA ?_ _)); refine blk_put (cs := #[.int .i64 ((rd_T41 y311 x44_2).f0), .int .i64 ((rd_T41 y311 x44_2).f1), .int .i64 ((rd_T41 y311 x44_2).f2), .int .i64 ((rd_T41 y311 x44_2).f3), .int .i64 0]) ?_ 4 _ rfl; (with_reducible repeat (first | refine kN ?_ _ | refine kD ?_ | refine kA ?_ _)); refine blk_put (cs := #[.int .i64 ((rd_T41 y311 x44_2).f0), .int .i64 ((rd_T41 y311 x44_2).f1), .int .i64 ((rd_T41 y311 x44_2).f2), .int .i64 0, .int .i64 0]) ?_ 3 _ rfl; (with_reducible repeat (first | refine kN ?_ _ | refine kD ?_ | refine kA ?_ _)); refine blk_put (cs := #[.int .i64 ((rd_T41 y311 x44_2).f0), .int .i64 ((rd_T41 y311 x44_2).f1), .int .i64 0, .int .i64 0, .int .i64 0]) ?_ 2 _ rfl; (with_reducible repeat (first | refine kN ?_ _ | refine kD ?_ | refine kA ?_ _)); refine blk_put (cs := #[.int .i64 ((rd_T41 y311 x44_2).f0), .int .i64 0, .int .i64 0, .int .i64 0, .int .i64 0]) ?_ 1 _ rfl; (with_reducible repeat (first | refine kN ?_ _ | refine kD ?_ | refine kA ?_ _)); refine blk_put (cs := #[.int .i64 0, .int .i64 0, .int .i64 0, .int .i64 0, .int .i64 0]) ?_ 0 _ rfl; (with_reducible repeat (first | refine kN ?_ _ | refine kD ?_ | refine kA ?_ _)); exact BK316.out) hb); have n7_ := A0m (below_step (by repeat (first | (with_reducible first | exact HB.out | apply bA | apply bN | apply bD | refine bS ?_ GE295.out | refine bS ?_ GE296.out | refine bS ?_ GE303.out | refine bS ?_ GE310.out | refine bS ?_ GE316.out) | exact HB.out)) hb); clear HO_42; clear BK295; clear BK296; clear BK303; clear BK310; clear BK316; clear HB; have HO_42 := n0_; have HO319 := n1_; have BK295 := n2_; have BK296 := n3_; have BK303 := n4_; have BK310 := n5_; have BK316 := n6_; have HB := n7_; clear n0_ n1_ n2_ n3_ n4_ n5_ n6_ n7_; (try clear hb); (try clear hb2); (try clear hk); (try clear hi); (try clear ho0); have hcz67_0 : w66.cell? ⟨gb316, 0, none⟩ = some (.int .i64 ((rd_T41 y311 x44_2).f0)) := (blk_cell BK316.out 0).trans rfl; have hcz67_1 : w66.cell? ⟨gb316, 1, none⟩ = some (.int .i64 ((rd_T41 y311 x44_2).f1)) := (blk_cell BK316.out 1).trans rfl; have hcz67_2 : w66.cell? ⟨gb316, 2, none⟩ = some (.int .i64 ((rd_T41 y311 x44_2).f2)) := (blk_cell BK316.out 2).trans rfl; have hcz67_3 : w66.cell? ⟨gb316, 3, none⟩ = some (.int .i64 ((rd_T41 y311 x44_2).f3)) := (blk_cell BK316.out 3).trans rfl; have hcz67_4 : w66.cell? ⟨gb316, 4, none⟩ = some (.int .i64 ((rd_T41 y311 x44_2).f4)) := (blk_cell BK316.out 4).trans rfl; have hfz67_0 := blk_frozen BK316.out 0; have hfz67_1 := blk_frozen BK316.out 1; have hfz67_2 := blk_frozen BK316.out 2; have hfz67_3 := blk_frozen BK316.out 3; have hfz67_4 := blk_frozen BK316.out 4) | ((with_reducible refine gate_callee (f := 21) rfl ?_); refine goesL_ (some 55) rfl rfl Tryd.func21 (by kernel_rfl) rfl #[.agg #[.int .i64 ((rd_T41 y311 x44_2).f0), .int .i64 ((rd_T41 y311 x44_2).f1), .int .i64 ((rd_T41 y311 x44_2).f2), .int .i64 ((rd_T41 y311 x44_2).f3), .int .i64 ((rd_T41 y311 x44_2).f4)]] rfl (by (try simp only [List.map_toArray, List.map_cons, List.map_nil]); first | done | rfl | (simp only [List.length_drop, List.length_take]; rfl)) ?_; (with_reducible refine (octroiref38_Posts.calls k2 ((rd_T41 y311 x44_2).f0) ((rd_T41 y311 x44_2).f1) ((rd_T41 y311 x44_2).f2) ((rd_T41 y311 x44_2).f3) ((rd_T41 y311 x44_2).f4) t321 t324 _ A53.out).mono ?_); rintro e w68 ⟨v322, rfl, ho0, hb⟩; refine ⟨_, rfl, ?_⟩; have n0_ := A0m (Kd.R_below (by (with_reducible repeat (first | apply rA | apply rN | apply rD)); exact HO_42.out) hb); have n1_ := A0m (Kd.R_elder' (by (with_reducible repeat (first | apply rA | apply rN | apply rD)); exact HO319.out) (Kd.R_base ho0) hb); have n2_ := A0m (Kd.R_lower (Kd.R_new' ho0 (Kd.R_lt (by (with_reducible repeat (first | apply rA | apply rN | apply rD)); exact HO319.out))) (below_size (by repeat (first | (with_reducible first | exact HB.out | apply bA | apply bN | apply bD | refine bS ?_ GE295.out | refine bS ?_ GE296.out | refine bS ?_ GE303.out | refine bS ?_ GE310.out | refine bS ?_ GE316.out) | exact HB.out)))); have n3_ := A0m (blk_below (g := gb295) (o := .cells #[.int .i64 a0_0, .int .i64 a0_1, .int .i64 a0_2] 36 (0, 0)) (by (with_reducible repeat (first | refine kN ?_ _ | refine kD ?_ | refine kA ?_ _)); exact BK295.out) hb); have n4_ := A0m (blk_below (g := gb296) (o := .cells #[.int .i64 a2_0, .int .i64 a2_1, .int .i64 a2_2, .int .i64 a2_3, .int .i64 a2_4] 41 (0, 0)) (by (with_reducible repeat (first | refine kN ?_ _ | refine kD ?_ | refine kA ?_ _)); exact BK296.out) hb); have n5_ := A0m (blk_below (g := gb303) (o := .cells #[.int .i64 t297, .int .i64 t298, .int .i64 t299, .int .i64 t300, .int .i64 t301] 41 (0, 0)) (by (with_reducible repeat (first | refine kN ?_ _ | refine kD ?_ | refine kA ?_ _)); exact BK303.out) hb); have n6_ := A0m (blk_below (g := gb310) (o := .cells #[.int .i64 t304, .int .i64 t305, .int .i64 t306, .int .i64 t307, .int .i64 t308] 38 (0, 0)) (by (with_reducible repeat (first | refine kN ?_ _ | refine kD ?_ | refine kA ?_ _)); exact BK310.out) hb); have n7_ := A0m (blk_below (g := gb316) (o := .cells #[.int .i64 ((rd_T41 y311 x44_2).f0), .int .i64 ((rd_T41 y311 x44_2).f1), .int .i64 ((rd_T41 y311 x44_2).f2), .int .i64 ((rd_T41 y311 x44_2).f3), .int .i64 ((rd_T41 y311 x44_2).f4)] 41 (0, 0)) (by (with_reducible repeat (first | refine kN ?_ _ | refine kD ?_ | refine kA ?_ _)); exact BK316.out) hb); have n8_ := A0m (below_step (by repeat (first | (with_reducible first | exact HB.out | apply bA | apply bN | apply bD | refine bS ?_ GE295.out | refine bS ?_ GE296.out | refine bS ?_ GE303.out | refine bS ?_ GE310.out | refine bS ?_ GE316.out) | exact HB.out)) hb); clear HO_42; clear HO319; clear BK295; clear BK296; clear BK303; clear BK310; clear BK316; clear HB; have HO_42 := n0_; have HO319 := n1_; have HO323 := n2_; have BK295 := n3_; have BK296 := n4_; have BK303 := n5_; have BK310 := n6_; have BK316 := n7_; have HB := n8_; clear n0_ n1_ n2_ n3_ n4_ n5_ n6_ n7_ n8_; (try clear hb); (try clear hb2); (try clear hk); (try clear hi); (try clear ho0)))
            have n0_ := A0m (rD HO_42.out)
            have n1_ := A0m (rD HO319.out)
            have n2_ := A0m (rD HO323.out)
            have n3_ := A0m (kD BK295.out)
            have n4_ := A0m (kD BK296.out)
            have n5_ := A0m (kD BK303.out)
            have n6_ := A0m (kD BK310.out)
            have n7_ := A0m (kD BK316.out)
            have n8_ := A0m (bD HB.out)
            clear HO_42
            clear HO319
            clear HO323
            clear BK295
            clear BK296
            clear BK303
            clear BK310
            clear BK316
            clear HB
            have HO_42 := n0_
            have HO319 := n1_
            have HO323 := n2_
            have BK295 := n3_
            have BK296 := n4_
            have BK303 := n5_
            have BK310 := n6_
            have BK316 := n7_
            have HB := n8_
            clear n0_ n1_ n2_ n3_ n4_ n5_ n6_ n7_ n8_
            obtain ⟨Ao70, co70, eo70⟩ := Kd.R_slice HO319.out
            (first | subst eo70 | (injection eo70 with f1_ f2_ f3_; have f4_ := f1_.symm; have f5_ := f3_.symm; clear f1_ f2_ f3_; subst f4_; subst f5_))
            obtain ⟨Ao71, co71, eo71⟩ := Kd.R_slice HO323.out
            (first | subst eo71 | (injection eo71 with f1_ f2_ f3_; have f4_ := f1_.symm; have f5_ := f3_.symm; clear f1_ f2_ f3_; subst f4_; subst f5_))
            refine start_ (n := 23) (S := fun w' => w'.cell? ⟨gb316, 0, none⟩ = some (.int .i64 ((rd_T41 y311 x44_2).f0)) ∧ w'.cell? ⟨gb316, 1, none⟩ = some (.int .i64 ((rd_T41 y311 x44_2).f1)) ∧ w'.cell? ⟨gb316, 2, none⟩ = some (.int .i64 ((rd_T41 y311 x44_2).f2)) ∧ w'.cell? ⟨gb316, 3, none⟩ = some (.int .i64 ((rd_T41 y311 x44_2).f3)) ∧ w'.cell? ⟨gb316, 4, none⟩ = some (.int .i64 ((rd_T41 y311 x44_2).f4))) (ds := []) #[false, false, false, false, false, false, false, false, false, false, false, false, false, false, false, false, false, false, false, false, false, false, false] (by kernel_rfl) rfl rfl ⟨(blk_cell BK316.out 0).trans rfl, (blk_cell BK316.out 1).trans rfl, (blk_cell BK316.out 2).trans rfl, (blk_cell BK316.out 3).trans rfl, (blk_cell BK316.out 4).trans rfl⟩ (fun hHeld => ?_); refine with_tabW octroilaw38_SettleOf.tab10 octroilaw38_SettleOf.bits10 (fun HT_ HW_ => ?_)
            generalize w68.drew = w69 at HO_42 HO319 HO323 BK295 BK296 BK303 BK310 BK316 HB hHeld ⊢
            refine pure_ (i := 0) (N := some 58) (v := ?_) (a' := ?_) #[true, false, false, false, false, false, false, false, false, false, false, false, false, false, false, false, false, false, false, false, false, false, false] rfl rfl (any_of HT_.out (by kernel_rfl)) (fun _ _ _ h => h) (Or.inl ⟨by rfl, ?_⟩) ?_ ?_
            rotate_left
            ·intro w'
             go_simp
             with_reducible rfl
            rotate_left
            ·simp only [Act.put, List.setIfInBounds_toArray, List.set_cons_zero, List.set_cons_succ, i64_w, i32_w]
             rfl
            refine pure_ (i := 1) (N := some 59) (v := ?_) (a' := ?_) #[true, true, false, false, false, false, false, false, false, false, false, false, false, false, false, false, false, false, false, false, false, false, false] rfl rfl (any_of HT_.out (by kernel_rfl)) (fun _ _ _ h => h) (Or.inl ⟨by rfl, ?_⟩) ?_ ?_
            rotate_left
            ·intro w'
             go_simp
             with_reducible rfl
            rotate_left
            ·simp only [Act.put, List.setIfInBounds_toArray, List.set_cons_zero, List.set_cons_succ, i64_w, i32_w]
             rfl
            refine one_ (i := 2) (N := some 60) #[true, true, true, false, false, false, false, false, false, false, false, false, false, false, false, false, false, false, false, false, false, false, false] rfl rfl (one_of HT_.out (by kernel_rfl)) (by decide) (fun K hK => ?_)
            refine goes_ Tryd.func22 (by kernel_rfl) rfl #[.slice Ao70 t317.length co70, .slice Ao71 t321.length co71] (by rfl) rfl rfl (by (try simp only [List.map_toArray, List.map_cons, List.map_nil]); first | done | rfl | (simp only [List.length_drop, List.length_take]; rfl)) ?_
            with_reducible refine (octroilaw38_same.calls k2 _ _ t317 _ _ t321 true _ ?side1 ?side2 ?side3 ?side4 A54.out).mono ?_
            (case side1 => repeat (first | exact (Kd.R_reads' HO319.out).2.2 | (with_reducible refine Kd.C_alloc ?_ _) | (with_reducible refine Kd.C_drewN ?_ _) | (with_reducible refine Kd.C_drew ?_)))
            (case side2 => exact (Kd.R_reads' HO319.out).2.1)
            (case side3 => repeat (first | exact (Kd.R_reads' HO323.out).2.2 | (with_reducible refine Kd.C_alloc ?_ _) | (with_reducible refine Kd.C_drewN ?_ _) | (with_reducible refine Kd.C_drew ?_)))
            (case side4 => exact (Kd.R_reads' HO323.out).2.1)
            rintro e w' ⟨rfl, ⟨nd, rfl⟩⟩
            refine ⟨_, rfl, ?_⟩
            refine hK.out _ _ ⟨(blk_cell BK316.out 0).trans rfl, (blk_cell BK316.out 1).trans rfl, (blk_cell BK316.out 2).trans rfl, (blk_cell BK316.out 3).trans rfl, (blk_cell BK316.out 4).trans rfl⟩ (fun hHeld => ?_)
            clear hK K
            refine norm_ (a' := ?_) ?_ ?_
            rotate_left
            ·show Act.put _ (some 60) _ = _
             simp only [Act.put, List.setIfInBounds_toArray, List.set_cons_zero, List.set_cons_succ, i64_w, i32_w]
             rfl
            refine pure_ (i := 3) (N := some 61) (v := ?_) (a' := ?_) #[true, true, true, true, false, false, false, false, false, false, false, false, false, false, false, false, false, false, false, false, false, false, false] rfl rfl (any_of HT_.out (by kernel_rfl)) (fun _ _ _ h => h) (Or.inl ⟨by rfl, ?_⟩) ?_ ?_
            rotate_left
            ·intro w'
             go_simp
             with_reducible rfl
            rotate_left
            ·simp only [Act.put, List.setIfInBounds_toArray, List.set_cons_zero, List.set_cons_succ, i64_w, i32_w]
             rfl
            refine pure_ (i := 4) (N := some 62) (v := ?_) (a' := ?_) #[true, true, true, true, true, false, false, false, false, false, false, false, false, false, false, false, false, false, false, false, false, false, false] rfl rfl (any_of HT_.out (by kernel_rfl)) (fun _ _ _ h => h) (Or.inl ⟨by rfl, ?_⟩) ?_ ?_
            rotate_left
            ·intro w'
             go_simp
             with_reducible rfl
            rotate_left
            ·simp only [Act.put, List.setIfInBounds_toArray, List.set_cons_zero, List.set_cons_succ, i64_w, i32_w]
             rfl
            refine pure_ (i := 5) (N := some 63) (v := ?_) (a' := ?_) #[true, true, true, true, true, true, false, false, false, false, false, false, false, false, false, false, false, false, false, false, false, false, false] rfl rfl (any_of HT_.out (by kernel_rfl)) (fun _ _ _ h => h) (Or.inl ⟨by rfl, ?_⟩) ?_ ?_
            rotate_left
            ·intro w'
             go_simp
             with_reducible rfl
            rotate_left
            ·simp only [Act.put, List.setIfInBounds_toArray, List.set_cons_zero, List.set_cons_succ, i64_w, i32_w]
             rfl
            refine pure_ (i := 6) (N := some 64) (v := ?_) (a' := ?_) #[true, true, true, true, true, true, true, false, false, false, false, false, false, false, false, false, false, false, false, false, false, false, false] rfl rfl (any_of HT_.out (by kernel_rfl)) (fun _ _ _ h => h) (Or.inl ⟨by rfl, ?_⟩) ?_ ?_
            rotate_left
            ·intro w'
             go_simp
             with_reducible rfl
            rotate_left
            ·simp only [Act.put, List.setIfInBounds_toArray, List.set_cons_zero, List.set_cons_succ, i64_w, i32_w]
             rfl
            refine pure_ (i := 7) (N := some 65) (v := ?_) (a' := ?_) #[true, true, true, true, true, true, true, true, false, false, false, false, false, false, false, false, false, false, false, false, false, false, false] rfl rfl (any_of HT_.out (by kernel_rfl)) (fun _ _ _ h => h) (Or.inl ⟨by rfl, ?_⟩) ?_ ?_
            rotate_left
            ·intro w'
             go_simp
             with_reducible rfl
            rotate_left
            ·simp only [Act.put, List.setIfInBounds_toArray, List.set_cons_zero, List.set_cons_succ, i64_w, i32_w]
             rfl
            refine pure_ (i := 8) (N := some 66) (v := ?_) (a' := ?_) #[true, true, true, true, true, true, true, true, true, false, false, false, false, false, false, false, false, false, false, false, false, false, false] rfl rfl (any_of HT_.out (by kernel_rfl)) (fun _ _ _ h => h) (Or.inl ⟨by rfl, ?_⟩) ?_ ?_
            rotate_left
            ·intro w'
             go_simp
             with_reducible rfl
            rotate_left
            ·simp only [Act.put, List.setIfInBounds_toArray, List.set_cons_zero, List.set_cons_succ, i64_w, i32_w]
             rfl
            refine pure_ (i := 9) (N := some 67) (v := ?_) (a' := ?_) #[true, true, true, true, true, true, true, true, true, true, false, false, false, false, false, false, false, false, false, false, false, false, false] rfl rfl (any_of HT_.out (by kernel_rfl)) (fun _ _ _ h => h) (Or.inl ⟨by rfl, ?_⟩) ?_ ?_
            rotate_left
            ·intro w'
             go_simp
             with_reducible rfl
            rotate_left
            ·simp only [Act.put, List.setIfInBounds_toArray, List.set_cons_zero, List.set_cons_succ, i64_w, i32_w]
             rfl
            refine take_ (i := 10) (N := some 68) (v := ?_) (a' := ?_) #[true, true, true, true, true, true, true, true, true, true, true, false, false, false, false, false, false, false, false, false, false, false, false] rfl rfl (take_ofW HT_.out HW_.out (by kernel_rfl)) (fun _ _ _ h => h) (Or.inl ⟨by rfl, ?_⟩) hHeld ?_ ?_
            rotate_left
            ·rintro w' ⟨s0, s1, s2, s3, s4⟩
             go_simp
             with_reducible rfl
            rotate_left
            ·simp only [Act.put, List.setIfInBounds_toArray, List.set_cons_zero, List.set_cons_succ, i64_w, i32_w]
             rfl
            refine take_ (i := 12) (N := some 70) (v := ?_) (a' := ?_) #[true, true, true, true, true, true, true, true, true, true, true, false, true, false, false, false, false, false, false, false, false, false, false] rfl rfl (take_ofW HT_.out HW_.out (by kernel_rfl)) (fun _ _ _ h => h) (Or.inl ⟨by rfl, ?_⟩) hHeld ?_ ?_
            rotate_left
            ·rintro w' ⟨s0, s1, s2, s3, s4⟩
             go_simp
             with_reducible rfl
            rotate_left
            ·simp only [Act.put, List.setIfInBounds_toArray, List.set_cons_zero, List.set_cons_succ, i64_w, i32_w]
             rfl
            refine one_ (i := 11) (N := some 69) #[true, true, true, true, true, true, true, true, true, true, true, true, true, false, false, false, false, false, false, false, false, false, false] rfl rfl (one_of HT_.out (by kernel_rfl)) (by decide) (fun K hK => ?_)
            refine goes_ Tryd.func23 (by kernel_rfl) rfl #[.agg #[.int .i64 ((rd_T41 y311 x44_2).f0), .int .i64 ((rd_T41 y311 x44_2).f1), .int .i64 ((rd_T41 y311 x44_2).f2), .int .i64 ((rd_T41 y311 x44_2).f3), .int .i64 ((rd_T41 y311 x44_2).f4)]] (by rfl) rfl rfl (by (try simp only [List.map_toArray, List.map_cons, List.map_nil]); first | done | rfl | (simp only [List.length_drop, List.length_take]; rfl)) ?_
            with_reducible refine (settle_Good.calls k2 ((rd_T41 y311 x44_2).f0) ((rd_T41 y311 x44_2).f1) ((rd_T41 y311 x44_2).f2) ((rd_T41 y311 x44_2).f3) ((rd_T41 y311 x44_2).f4) t326 _ A57.out).mono ?_
            rintro e w72 ⟨rfl, hb⟩
            refine ⟨_, rfl, ?_⟩
            have n0_ := A0m (Kd.R_below (by (with_reducible repeat (first | apply rA | apply rN | apply rD)); exact HO_42.out) hb)
            have n1_ := A0m (Kd.R_below (by (with_reducible repeat (first | apply rA | apply rN | apply rD)); exact HO319.out) hb)
            have n2_ := A0m (Kd.R_below (by (with_reducible repeat (first | apply rA | apply rN | apply rD)); exact HO323.out) hb)
            have n3_ := A0m (blk_below (g := gb295) (o := .cells #[.int .i64 a0_0, .int .i64 a0_1, .int .i64 a0_2] 36 (0, 0)) (by (with_reducible repeat (first | refine kN ?_ _ | refine kD ?_ | refine kA ?_ _)); exact BK295.out) hb)
            have n4_ := A0m (blk_below (g := gb296) (o := .cells #[.int .i64 a2_0, .int .i64 a2_1, .int .i64 a2_2, .int .i64 a2_3, .int .i64 a2_4] 41 (0, 0)) (by (with_reducible repeat (first | refine kN ?_ _ | refine kD ?_ | refine kA ?_ _)); exact BK296.out) hb)
            have n5_ := A0m (blk_below (g := gb303) (o := .cells #[.int .i64 t297, .int .i64 t298, .int .i64 t299, .int .i64 t300, .int .i64 t301] 41 (0, 0)) (by (with_reducible repeat (first | refine kN ?_ _ | refine kD ?_ | refine kA ?_ _)); exact BK303.out) hb)
            have n6_ := A0m (blk_below (g := gb310) (o := .cells #[.int .i64 t304, .int .i64 t305, .int .i64 t306, .int .i64 t307, .int .i64 t308] 38 (0, 0)) (by (with_reducible repeat (first | refine kN ?_ _ | refine kD ?_ | refine kA ?_ _)); exact BK310.out) hb)
            have n7_ := A0m (blk_below (g := gb316) (o := .cells #[.int .i64 ((rd_T41 y311 x44_2).f0), .int .i64 ((rd_T41 y311 x44_2).f1), .int .i64 ((rd_T41 y311 x44_2).f2), .int .i64 ((rd_T41 y311 x44_2).f3), .int .i64 ((rd_T41 y311 x44_2).f4)] 41 (0, 0)) (by (with_reducible repeat (first | refine kN ?_ _ | refine kD ?_ | refine kA ?_ _)); exact BK316.out) hb)
            have n8_ := A0m (below_step (by repeat (first | (with_reducible first | exact HB.out | apply bA | apply bN | apply bD | refine bS ?_ GE295.out | refine bS ?_ GE296.out | refine bS ?_ GE303.out | refine bS ?_ GE310.out | refine bS ?_ GE316.out) | exact HB.out)) hb)
            clear HO_42
            clear HO319
            clear HO323
            clear BK295
            clear BK296
            clear BK303
            clear BK310
            clear BK316
            clear HB
            have HO_42 := n0_
            have HO319 := n1_
            have HO323 := n2_
            have BK295 := n3_
            have BK296 := n4_
            have BK303 := n5_
            have BK310 := n6_
            have BK316 := n7_
            have HB := n8_
            clear n0_ n1_ n2_ n3_ n4_ n5_ n6_ n7_ n8_
            (try clear hb)
            (try clear hb2)
            (try clear hk)
            (try clear hi)
            refine hK.out _ _ ⟨(blk_cell BK316.out 0).trans rfl, (blk_cell BK316.out 1).trans rfl, (blk_cell BK316.out 2).trans rfl, (blk_cell BK316.out 3).trans rfl, (blk_cell BK316.out 4).trans rfl⟩ (fun hHeld => ?_)
            clear hK K
            refine norm_ (a' := ?_) ?_ ?_
            rotate_left
            ·show Act.put _ (some 69) _ = _
             simp only [Act.put, List.setIfInBounds_toArray, List.set_cons_zero, List.set_cons_succ, i64_w, i32_w]
             rfl
            refine one_ (i := 13) (N := some 71) #[true, true, true, true, true, true, true, true, true, true, true, true, true, true, false, false, false, false, false, false, false, false, false] rfl rfl (one_of HT_.out (by kernel_rfl)) (by decide) (fun K hK => ?_)
            refine goes_ Tryd.func24 (by kernel_rfl) rfl #[.agg #[.int .i64 ((rd_T41 y311 x44_2).f0), .int .i64 ((rd_T41 y311 x44_2).f1), .int .i64 ((rd_T41 y311 x44_2).f2), .int .i64 ((rd_T41 y311 x44_2).f3), .int .i64 ((rd_T41 y311 x44_2).f4)]] (by rfl) rfl rfl (by (try simp only [List.map_toArray, List.map_cons, List.map_nil]); first | done | rfl | (simp only [List.length_drop, List.length_take]; rfl)) ?_
            with_reducible refine (octroiref38_Good.calls k2 ((rd_T41 y311 x44_2).f0) ((rd_T41 y311 x44_2).f1) ((rd_T41 y311 x44_2).f2) ((rd_T41 y311 x44_2).f3) ((rd_T41 y311 x44_2).f4) t327 _ A58.out).mono ?_
            rintro e w73 ⟨rfl, hb⟩
            refine ⟨_, rfl, ?_⟩
            have n0_ := A0m (Kd.R_below (by (with_reducible repeat (first | apply rA | apply rN | apply rD)); exact HO_42.out) hb)
            have n1_ := A0m (Kd.R_below (by (with_reducible repeat (first | apply rA | apply rN | apply rD)); exact HO319.out) hb)
            have n2_ := A0m (Kd.R_below (by (with_reducible repeat (first | apply rA | apply rN | apply rD)); exact HO323.out) hb)
            have n3_ := A0m (blk_below (g := gb295) (o := .cells #[.int .i64 a0_0, .int .i64 a0_1, .int .i64 a0_2] 36 (0, 0)) (by (with_reducible repeat (first | refine kN ?_ _ | refine kD ?_ | refine kA ?_ _)); exact BK295.out) hb)
            have n4_ := A0m (blk_below (g := gb296) (o := .cells #[.int .i64 a2_0, .int .i64 a2_1, .int .i64 a2_2, .int .i64 a2_3, .int .i64 a2_4] 41 (0, 0)) (by (with_reducible repeat (first | refine kN ?_ _ | refine kD ?_ | refine kA ?_ _)); exact BK296.out) hb)
            have n5_ := A0m (blk_below (g := gb303) (o := .cells #[.int .i64 t297, .int .i64 t298, .int .i64 t299, .int .i64 t300, .int .i64 t301] 41 (0, 0)) (by (with_reducible repeat (first | refine kN ?_ _ | refine kD ?_ | refine kA ?_ _)); exact BK303.out) hb)
            have n6_ := A0m (blk_below (g := gb310) (o := .cells #[.int .i64 t304, .int .i64 t305, .int .i64 t306, .int .i64 t307, .int .i64 t308] 38 (0, 0)) (by (with_reducible repeat (first | refine kN ?_ _ | refine kD ?_ | refine kA ?_ _)); exact BK310.out) hb)
            have n7_ := A0m (blk_below (g := gb316) (o := .cells #[.int .i64 ((rd_T41 y311 x44_2).f0), .int .i64 ((rd_T41 y311 x44_2).f1), .int .i64 ((rd_T41 y311 x44_2).f2), .int .i64 ((rd_T41 y311 x44_2).f3), .int .i64 ((rd_T41 y311 x44_2).f4)] 41 (0, 0)) (by (with_reducible repeat (first | refine kN ?_ _ | refine kD ?_ | refine kA ?_ _)); exact BK316.out) hb)
            have n8_ := A0m (below_step (by repeat (first | (with_reducible first | exact HB.out | apply bA | apply bN | apply bD | refine bS ?_ GE295.out | refine bS ?_ GE296.out | refine bS ?_ GE303.out | refine bS ?_ GE310.out | refine bS ?_ GE316.out) | exact HB.out)) hb)
            clear HO_42
            clear HO319
            clear HO323
            clear BK295
            clear BK296
            clear BK303
            clear BK310
            clear BK316
            clear HB
            have HO_42 := n0_
            have HO319 := n1_
            have HO323 := n2_
            have BK295 := n3_
            have BK296 := n4_
            have BK303 := n5_
            have BK310 := n6_
            have BK316 := n7_
            have HB := n8_
            clear n0_ n1_ n2_ n3_ n4_ n5_ n6_ n7_ n8_
            (try clear hb)
            (try clear hb2)
            (try clear hk)
            (try clear hi)
            refine hK.out _ _ ⟨(blk_cell BK316.out 0).trans rfl, (blk_cell BK316.out 1).trans rfl, (blk_cell BK316.out 2).trans rfl, (blk_cell BK316.out 3).trans rfl, (blk_cell BK316.out 4).trans rfl⟩ (fun hHeld => ?_)
            clear hK K
            refine norm_ (a' := ?_) ?_ ?_
            rotate_left
            ·show Act.put _ (some 71) _ = _
             simp only [Act.put, List.setIfInBounds_toArray, List.set_cons_zero, List.set_cons_succ, i64_w, i32_w]
             rfl
            refine pure_ (i := 14) (N := some 72) (v := ?_) (a' := ?_) #[true, true, true, true, true, true, true, true, true, true, true, true, true, true, true, false, false, false, false, false, false, false, false] rfl rfl (any_of HT_.out (by kernel_rfl)) (fun _ _ _ h => h) (Or.inl ⟨by rfl, ?_⟩) ?_ ?_
            rotate_left
            ·intro w'
             go_simp
             with_reducible rfl
            rotate_left
            ·simp only [Act.put, List.setIfInBounds_toArray, List.set_cons_zero, List.set_cons_succ, i64_w, i32_w]
             rfl
            refine pure_ (i := 15) (N := some 73) (v := ?_) (a' := ?_) #[true, true, true, true, true, true, true, true, true, true, true, true, true, true, true, true, false, false, false, false, false, false, false] rfl rfl (any_of HT_.out (by kernel_rfl)) (fun _ _ _ h => h) (Or.inl ⟨by rfl, ?_⟩) ?_ ?_
            rotate_left
            ·intro w'
             go_simp
             with_reducible rfl
            rotate_left
            ·simp only [Act.put, List.setIfInBounds_toArray, List.set_cons_zero, List.set_cons_succ, i64_w, i32_w]
             rfl
            refine pure_ (i := 16) (N := some 74) (v := ?_) (a' := ?_) #[true, true, true, true, true, true, true, true, true, true, true, true, true, true, true, true, true, false, false, false, false, false, false] rfl rfl (any_of HT_.out (by kernel_rfl)) (fun _ _ _ h => h) (Or.inl ⟨by rfl, ?_⟩) ?_ ?_
            rotate_left
            ·intro w'
             go_simp
             with_reducible rfl
            rotate_left
            ·simp only [Act.put, List.setIfInBounds_toArray, List.set_cons_zero, List.set_cons_succ, i64_w, i32_w]
             rfl
            refine pure_ (i := 17) (N := some 75) (v := undef) (a' := ?_) #[true, true, true, true, true, true, true, true, true, true, true, true, true, true, true, true, true, true, false, false, false, false, false] rfl rfl (any_of HT_.out (by kernel_rfl)) (fun _ _ _ h => h) (Or.inr ⟨by rfl, rfl⟩) ?_ ?_
            rotate_left
            ·simp only [Act.put, List.setIfInBounds_toArray, List.set_cons_zero, List.set_cons_succ, i64_w, i32_w]
             rfl
            refine pure_ (i := 18) (N := some 76) (v := undef) (a' := ?_) #[true, true, true, true, true, true, true, true, true, true, true, true, true, true, true, true, true, true, true, false, false, false, false] rfl rfl (any_of HT_.out (by kernel_rfl)) (fun _ _ _ h => h) (Or.inr ⟨by rfl, rfl⟩) ?_ ?_
            rotate_left
            ·simp only [Act.put, List.setIfInBounds_toArray, List.set_cons_zero, List.set_cons_succ, i64_w, i32_w]
             rfl
            refine pure_ (i := 19) (N := some 77) (v := undef) (a' := ?_) #[true, true, true, true, true, true, true, true, true, true, true, true, true, true, true, true, true, true, true, true, false, false, false] rfl rfl (any_of HT_.out (by kernel_rfl)) (fun _ _ _ h => h) (Or.inr ⟨by rfl, rfl⟩) ?_ ?_
            rotate_left
            ·simp only [Act.put, List.setIfInBounds_toArray, List.set_cons_zero, List.set_cons_succ, i64_w, i32_w]
             rfl
            refine pure_ (i := 20) (N := some 78) (v := undef) (a' := ?_) #[true, true, true, true, true, true, true, true, true, true, true, true, true, true, true, true, true, true, true, true, true, false, false] rfl rfl (any_of HT_.out (by kernel_rfl)) (fun _ _ _ h => h) (Or.inr ⟨by rfl, rfl⟩) ?_ ?_
            rotate_left
            ·simp only [Act.put, List.setIfInBounds_toArray, List.set_cons_zero, List.set_cons_succ, i64_w, i32_w]
             rfl
            refine pure_ (i := 21) (N := some 79) (v := undef) (a' := ?_) #[true, true, true, true, true, true, true, true, true, true, true, true, true, true, true, true, true, true, true, true, true, true, false] rfl rfl (any_of HT_.out (by kernel_rfl)) (fun _ _ _ h => h) (Or.inr ⟨by rfl, rfl⟩) ?_ ?_
            rotate_left
            ·simp only [Act.put, List.setIfInBounds_toArray, List.set_cons_zero, List.set_cons_succ, i64_w, i32_w]
             rfl
            refine pure_ (i := 22) (N := some 80) (v := ?_) (a' := ?_) #[true, true, true, true, true, true, true, true, true, true, true, true, true, true, true, true, true, true, true, true, true, true, true] rfl rfl (any_of HT_.out (by kernel_rfl)) (fun _ _ _ h => h) (Or.inl ⟨by rfl, ?_⟩) ?_ ?_
            rotate_left
            ·intro w'
             go_simp
             with_reducible rfl
            rotate_left
            ·simp only [Act.put, List.setIfInBounds_toArray, List.set_cons_zero, List.set_cons_succ, i64_w, i32_w]
             rfl
            refine done_ (done_of HT_.out (by kernel_rfl)) ?_
            try go_wp2
            go_ret
            exact ⟨by first | rfl | (simp [errW_none, errW_some] <;> rfl) | (simp [*, errW_none, errW_some] <;> rfl), by repeat (first | (with_reducible first | exact HB.out | apply bA | apply bN | apply bD | refine bS ?_ GE295.out | refine bS ?_ GE296.out | refine bS ?_ GE303.out | refine bS ?_ GE310.out | refine bS ?_ GE316.out) | exact HB.out)⟩
           ·rw [if_neg c59] at H
            have c59b0 : (t326 != t327) = false := by simpa using c59
            (try (have c59b1 : decide (t326 = t327) = true := by simpa using c59))
            (try (have c59b2 : (t326 == t327) = true := by simpa using c59))
            clear c59
            replace H := Option.bind_eq_some_iff.mp H
            obtain ⟨t328, A740, H⟩ := H
            replace H : ((octroiref38_Text.f k2 ((rd_T41 y311 x44_2).f0) ((rd_T41 y311 x44_2).f1) ((rd_T41 y311 x44_2).f2) ((rd_T41 y311 x44_2).f3) ((rd_T41 y311 x44_2).f4)).bind fun t329 => (if t328.toList = t329.toList then (octroilaw38_SettleOf.l0 k2 y311 (y311.length : Int) (wrap64 (x44_2 + 1))) else (some false))) = some r := H
            have A74 := A0m A740
            clear A740
            replace H := Option.bind_eq_some_iff.mp H
            obtain ⟨t329, A750, H⟩ := H
            replace H : (if t328.toList = t329.toList then (octroilaw38_SettleOf.l0 k2 y311 (y311.length : Int) (wrap64 (x44_2 + 1))) else (some false)) = some r := H
            have A75 := A0m A750
            clear A750
            by_cases c76 : t328.toList = t329.toList
            ·rw [if_pos c76] at H
             have c76b0 : (t328.toList == t329.toList) = true := beq_iff_eq.mpr c76
             have c76b1 : (t328.toList != t329.toList) = false := bne_eq_false_iff_eq.mpr c76
             clear c76
             have H' := A0m H
             clear H
             have p315 : 0 ≤ (x44_2 : Int) := of_decide_eq_true (by first | (with_reducible assumption) | assumption)
             have q315 : x44_2 < (y311.length : Int) := of_decide_eq_true (by first | (with_reducible assumption) | assumption)
             obtain ⟨ad315, e315, hx315_0, hx315_1, hx315_2, hx315_3, hx315_4⟩ := at_T41 (Kd.R_reads' HO_42.out).2.2 x44_2 p315 q315
             cases e315
             replace p315 := eq_true p315
             replace q315 := eq_true q315
             try go_wp2_with (first | ((with_reducible refine gate_dst (N := 12) rfl ?_); refine box_event ?hg (N := 12) ?hd (cs := #[.int .i64 0, .int .i64 0, .int .i64 0, .int .i64 0, .int .i64 0]) (t := 41) ?hr ?_; (case hd => rfl); (case hg => rfl); (case hr => first | (go_simp; done) | (go_simp; rfl)); intro gb316 hg w77 hbox hb; have n0_ := A0m (Kd.R_below (Kd.R_elderB (by (with_reducible repeat (first | apply rA | apply rN | apply rD)); exact HO_42.out) gb316 (Nat.le_of_eq hg.symm)) hb); have n1_ := A0m (blk_below (g := gb295) (o := .cells #[.int .i64 a0_0, .int .i64 a0_1, .int .i64 a0_2] 36 (0, 0)) (by (with_reducible repeat (first | refine kN ?_ _ | refine kD ?_ | refine kA ?_ _)); exact BK295.out) hb); have n2_ := A0m (blk_below (g := gb296) (o := .cells #[.int .i64 a2_0, .int .i64 a2_1, .int .i64 a2_2, .int .i64 a2_3, .int .i64 a2_4] 41 (0, 0)) (by (with_reducible repeat (first | refine kN ?_ _ | refine kD ?_ | refine kA ?_ _)); exact BK296.out) hb); have n3_ := A0m (blk_below (g := gb303) (o := .cells #[.int .i64 t297, .int .i64 t298, .int .i64 t299, .int .i64 t300, .int .i64 t301] 41 (0, 0)) (by (with_reducible repeat (first | refine kN ?_ _ | refine kD ?_ | refine kA ?_ _)); exact BK303.out) hb); have n4_ := A0m (blk_below (g := gb310) (o := .cells #[.int .i64 t304, .int .i64 t305, .int .i64 t306, .int .i64 t307, .int .i64 t308] 38 (0, 0)) (by (with_reducible repeat (first | refine kN ?_ _ | refine kD ?_ | refine kA ?_ _)); exact BK310.out) hb); have n5_ := A0m (below_step (by repeat (first | (with_reducible first | exact HB.out | apply bA | apply bN | apply bD | refine bS ?_ GE295.out | refine bS ?_ GE296.out | refine bS ?_ GE303.out | refine bS ?_ GE310.out) | exact HB.out)) hb); have n6_ := A0m (hbox); have n7_ := A0m ((by rw [hg]; exact (below_size (by repeat (first | (with_reducible first | exact HB.out | apply bA | apply bN | apply bD | refine bS ?_ GE295.out | refine bS ?_ GE296.out | refine bS ?_ GE303.out | refine bS ?_ GE310.out) | exact HB.out))) : w.heap.size ≤ gb316)); have n8_ := A0m ((by rw [hg]; exact (below_size (by repeat (first | (with_reducible first | exact HB.out | apply bA | apply bN | apply bD | refine bS ?_ GE295.out | refine bS ?_ GE296.out | refine bS ?_ GE303.out | refine bS ?_ GE310.out) | exact HB.out))) : w.heap.size ≤ gb316)); have n9_ := A0m ((by rw [hg]; exact Nat.ne_of_lt (blk_lt (g := gb295) (o := .cells #[.int .i64 a0_0, .int .i64 a0_1, .int .i64 a0_2] 36 (0, 0)) (by (with_reducible repeat (first | refine kN ?_ _ | refine kD ?_ | refine kA ?_ _)); exact BK295.out)) : gb295 ≠ gb316)); have n10_ := A0m ((by rw [hg]; exact Nat.ne_of_gt (blk_lt (g := gb295) (o := .cells #[.int .i64 a0_0, .int .i64 a0_1, .int .i64 a0_2] 36 (0, 0)) (by (with_reducible repeat (first | refine kN ?_ _ | refine kD ?_ | refine kA ?_ _)); exact BK295.out)) : gb316 ≠ gb295)); have n11_ := A0m ((by rw [hg]; exact Nat.ne_of_lt (blk_lt (g := gb296) (o := .cells #[.int .i64 a2_0, .int .i64 a2_1, .int .i64 a2_2, .int .i64 a2_3, .int .i64 a2_4] 41 (0, 0)) (by (with_reducible repeat (first | refine kN ?_ _ | refine kD ?_ | refine kA ?_ _)); exact BK296.out)) : gb296 ≠ gb316)); have n12_ := A0m ((by rw [hg]; exact Nat.ne_of_gt (blk_lt (g := gb296) (o := .cells #[.int .i64 a2_0, .int .i64 a2_1, .int .i64 a2_2, .int .i64 a2_3, .int .i64 a2_4] 41 (0, 0)) (by (with_reducible repeat (first | refine kN ?_ _ | refine kD ?_ | refine kA ?_ _)); exact BK296.out)) : gb316 ≠ gb296)); have n13_ := A0m ((by rw [hg]; exact Nat.ne_of_lt (blk_lt (g := gb303) (o := .cells #[.int .i64 t297, .int .i64 t298, .int .i64 t299, .int .i64 t300, .int .i64 t301] 41 (0, 0)) (by (with_reducible repeat (first | refine kN ?_ _ | refine kD ?_ | refine kA ?_ _)); exact BK303.out)) : gb303 ≠ gb316)); have n14_ := A0m ((by rw [hg]; exact Nat.ne_of_gt (blk_lt (g := gb303) (o := .cells #[.int .i64 t297, .int .i64 t298, .int .i64 t299, .int .i64 t300, .int .i64 t301] 41 (0, 0)) (by (with_reducible repeat (first | refine kN ?_ _ | refine kD ?_ | refine kA ?_ _)); exact BK303.out)) : gb316 ≠ gb303)); have n15_ := A0m ((by rw [hg]; exact Nat.ne_of_lt (blk_lt (g := gb310) (o := .cells #[.int .i64 t304, .int .i64 t305, .int .i64 t306, .int .i64 t307, .int .i64 t308] 38 (0, 0)) (by (with_reducible repeat (first | refine kN ?_ _ | refine kD ?_ | refine kA ?_ _)); exact BK310.out)) : gb310 ≠ gb316)); have n16_ := A0m ((by rw [hg]; exact Nat.ne_of_gt (blk_lt (g := gb310) (o := .cells #[.int .i64 t304, .int .i64 t305, .int .i64 t306, .int .i64 t307, .int .i64 t308] 38 (0, 0)) (by (with_reducible repeat (first | refine kN ?_ _ | refine kD ?_ | refine kA ?_ _)); exact BK310.out)) : gb316 ≠ gb310)); clear HO_42; clear BK295; clear BK296; clear BK303; clear BK310; clear HB; have HO_42 := n0_; have BK295 := n1_; have BK296 := n2_; have BK303 := n3_; have BK310 := n4_; have HB := n5_; have BK316 := n6_; have GW316 := n7_; have GE316 := n8_; have NB295_316 := n9_; have NB316_295 := n10_; have NB296_316 := n11_; have NB316_296 := n12_; have NB303_316 := n13_; have NB316_303 := n14_; have NB310_316 := n15_; have NB316_310 := n16_; clear n0_ n1_ n2_ n3_ n4_ n5_ n6_ n7_ n8_ n9_ n10_ n11_ n12_ n13_ n14_ n15_ n16_; clear hb hbox hg; have hnb78 := NB316_295.out; have hnc78 := NB295_316.out; have hnb79 := NB316_296.out; have hnc79 := NB296_316.out; have hnb80 := NB316_303.out; have hnc80 := NB303_316.out; have hnb81 := NB316_310.out; have hnc81 := NB310_316.out; have hcz82_0 : w77.cell? ⟨gb316, 0, none⟩ = some (.int .i64 0) := (blk_cell BK316.out 0).trans rfl; have hcz82_1 : w77.cell? ⟨gb316, 1, none⟩ = some (.int .i64 0) := (blk_cell BK316.out 1).trans rfl; have hcz82_2 : w77.cell? ⟨gb316, 2, none⟩ = some (.int .i64 0) := (blk_cell BK316.out 2).trans rfl; have hcz82_3 : w77.cell? ⟨gb316, 3, none⟩ = some (.int .i64 0) := (blk_cell BK316.out 3).trans rfl; have hcz82_4 : w77.cell? ⟨gb316, 4, none⟩ = some (.int .i64 0) := (blk_cell BK316.out 4).trans rfl; have hfz82_0 := blk_frozen BK316.out 0; have hfz82_1 := blk_frozen BK316.out 1; have hfz82_2 := blk_frozen BK316.out 2; have hfz82_3 := blk_frozen BK316.out 3; have hfz82_4 := blk_frozen BK316.out 4) | ((with_reducible refine gate_callee (f := 20) rfl ?_); refine goesL_ (some 50) rfl rfl Tryd.func20 (by kernel_rfl) rfl #[.agg #[.int .i64 ((rd_T41 y311 x44_2).f0), .int .i64 ((rd_T41 y311 x44_2).f1), .int .i64 ((rd_T41 y311 x44_2).f2), .int .i64 ((rd_T41 y311 x44_2).f3), .int .i64 ((rd_T41 y311 x44_2).f4)]] rfl (by (try simp only [List.map_toArray, List.map_cons, List.map_nil]); first | done | rfl | (simp only [List.length_drop, List.length_take]; rfl)) ?_; (with_reducible refine (settle_Posts.calls k2 ((rd_T41 y311 x44_2).f0) ((rd_T41 y311 x44_2).f1) ((rd_T41 y311 x44_2).f2) ((rd_T41 y311 x44_2).f3) ((rd_T41 y311 x44_2).f4) t317 t320 _ A52.out).mono ?_); rintro e w83 ⟨v318, rfl, ho0, hb⟩; refine ⟨_, rfl, ?_⟩; have n0_ := A0m (Kd.R_below (by (with_reducible repeat (first | apply rA | apply rN | apply rD)); exact (Kd.R_mono (Kd.R_far (p := ⟨gb316, 4, none⟩) (Kd.R_far (p := ⟨gb316, 3, none⟩) (Kd.R_far (p := ⟨gb316, 2, none⟩) (Kd.R_far (p := ⟨gb316, 1, none⟩) (Kd.R_far (p := ⟨gb316, 0, none⟩) (Kd.R_mono HO_42.out (fun k_ hk => (⟨hk, hk.2⟩ : _ ∧ k_ ≠ gb316))) (fun _ hk => hk.2) (.int .i64 ((rd_T41 y311 x44_2).f0))) (fun _ hk => hk.2) (.int .i64 ((rd_T41 y311 x44_2).f1))) (fun _ hk => hk.2) (.int .i64 ((rd_T41 y311 x44_2).f2))) (fun _ hk => hk.2) (.int .i64 ((rd_T41 y311 x44_2).f3))) (fun _ hk => hk.2) (.int .i64 ((rd_T41 y311 x44_2).f4))) (fun _ h_ => h_.1))) hb); have n1_ := A0m (Kd.R_lower ho0 (below_size (by repeat (first | (with_reducible first | exact HB.out | apply bA | apply bN | apply bD | refine bS ?_ GE295.out | refine bS ?_ GE296.out | refine bS ?_ GE303.out | refine bS ?_ GE310.out | refine bS ?_ GE316.out) | exact HB.out)))); have n2_ := A0m (blk_below (g := gb295) (o := .cells #[.int .i64 a0_0, .int .i64 a0_1, .int .i64 a0_2] 36 (0, 0)) (by (with_reducible repeat (first | refine kN ?_ _ | refine kD ?_ | refine kA ?_ _)); refine blk_far ?_ NB295_316.out _; (with_reducible repeat (first | refine kN ?_ _ | refine kD ?_ | refine kA ?_ _)); refine blk_far ?_ NB295_316.out _; (with_reducible repeat (first | refine kN ?_ _ | refine kD ?_ | refine kA ?_ _)); refine blk_far ?_ NB295_316.out _; (with_reducible repeat (first | refine kN ?_ _ | refine kD ?_ | refine kA ?_ _)); refine blk_far ?_ NB295_316.out _; (with_reducible repeat (first | refine kN ?_ _ | refine kD ?_ | refine kA ?_ _)); refine blk_far ?_ NB295_316.out _; (with_reducible repeat (first | refine kN ?_ _ | refine kD ?_ | refine kA ?_ _)); exact BK295.out) hb); have n3_ := A0m (blk_below (g := gb296) (o := .cells #[.int .i64 a2_0, .int .i64 a2_1, .int .i64 a2_2, .int .i64 a2_3, .int .i64 a2_4] 41 (0, 0)) (by (with_reducible repeat (first | refine kN ?_ _ | refine kD ?_ | refine kA ?_ _)); refine blk_far ?_ NB296_316.out _; (with_reducible repeat (first | refine kN ?_ _ | refine kD ?_ | refine kA ?_ _)); refine blk_far ?_ NB296_316.out _; (with_reducible repeat (first | refine kN ?_ _ | refine kD ?_ | refine kA ?_ _)); refine blk_far ?_ NB296_316.out _; (with_reducible repeat (first | refine kN ?_ _ | refine kD ?_ | refine kA ?_ _)); refine blk_far ?_ NB296_316.out _; (with_reducible repeat (first | refine kN ?_ _ | refine kD ?_ | refine kA ?_ _)); refine blk_far ?_ NB296_316.out _; (with_reducible repeat (first | refine kN ?_ _ | refine kD ?_ | refine kA ?_ _)); exact BK296.out) hb); have n4_ := A0m (blk_below (g := gb303) (o := .cells #[.int .i64 t297, .int .i64 t298, .int .i64 t299, .int .i64 t300, .int .i64 t301] 41 (0, 0)) (by (with_reducible repeat (first | refine kN ?_ _ | refine kD ?_ | refine kA ?_ _)); refine blk_far ?_ NB303_316.out _; (with_reducible repeat (first | refine kN ?_ _ | refine kD ?_ | refine kA ?_ _)); refine blk_far ?_ NB303_316.out _; (with_reducible repeat (first | refine kN ?_ _ | refine kD ?_ | refine kA ?_ _)); refine blk_far ?_ NB303_316.out _; (with_reducible repeat (first | refine kN ?_ _ | refine kD ?_ | refine kA ?_ _)); refine blk_far ?_ NB303_316.out _; (with_reducible repeat (first | refine kN ?_ _ | refine kD ?_ | refine kA ?_ _)); refine blk_far ?_ NB303_316.out _; (with_reducible repeat (first | refine kN ?_ _ | refine kD ?_ | refine kA ?_ _)); exact BK303.out) hb); have n5_ := A0m (blk_below (g := gb310) (o := .cells #[.int .i64 t304, .int .i64 t305, .int .i64 t306, .int .i64 t307, .int .i64 t308] 38 (0, 0)) (by (with_reducible repeat (first | refine kN ?_ _ | refine kD ?_ | refine kA ?_ _)); refine blk_far ?_ NB310_316.out _; (with_reducible repeat (first | refine kN ?_ _ | refine kD ?_ | refine kA ?_ _)); refine blk_far ?_ NB310_316.out _; (with_reducible repeat (first | refine kN ?_ _ | refine kD ?_ | refine kA ?_ _)); refine blk_far ?_ NB310_316.out _; (with_reducible repeat (first | refine kN ?_ _ | refine kD ?_ | refine kA ?_ _)); refine blk_far ?_ NB310_316.out _; (with_reducible repeat (first | refine kN ?_ _ | refine kD ?_ | refine kA ?_ _)); refine blk_far ?_ NB310_316.out _; (with_reducible repeat (first | refine kN ?_ _ | refine kD ?_ | refine kA ?_ _)); exact BK310.out) hb); have n6_ := A0m (blk_below (g := gb316) (o := .cells #[.int .i64 ((rd_T41 y311 x44_2).f0), .int .i64 ((rd_T41 y311 x44_2).f1), .int .i64 ((rd_T41 y311 x44_2).f2), .int .i64 ((rd_T41 y311 x44_2).f3), .int .i64 ((rd_T41 y311 x44_2).f4)] 41 (0, 0)) (by (with_reducible repeat (first | refine kN ?_ _ | refine kD ?_ | refine kA ?_ _)); refine blk_put (cs := #[.int .i64 ((rd_T41 y311 x44_2).f0), .int .i64 ((rd_T41 y311 x44_2).f1), .int .i64 ((rd_T41 y311 x44_2).f2), .int .i64 ((rd_T41 y311 x44_2).f3), .int .i64 0]) ?_ 4 _ rfl; (with_reducible repeat (first | refine kN ?_ _ | refine kD ?_ | refine kA ?_ _)); refine blk_put (cs := #[.int .i64 ((rd_T41 y311 x44_2).f0), .int .i64 ((rd_T41 y311 x44_2).f1), .int .i64 ((rd_T41 y311 x44_2).f2), .int .i64 0, .int .i64 0]) ?_ 3 _ rfl; (with_reducible repeat (first | refine kN ?_ _ | refine kD ?_ | refine kA ?_ _)); refine blk_put (cs := #[.int .i64 ((rd_T41 y311 x44_2).f0), .int .i64 ((rd_T41 y311 x44_2).f1), .int .i64 0, .int .i64 0, .int .i64 0]) ?_ 2 _ rfl; (with_reducible repeat (first | refine kN ?_ _ | refine kD ?_ | refine kA ?_ _)); refine blk_put (cs := #[.int .i64 ((rd_T41 y311 x44_2).f0), .int .i64 0, .int .i64 0, .int .i64 0, .int .i64 0]) ?_ 1 _ rfl; (with_reducible repeat (first | refine kN ?_ _ | refine kD ?_ | refine kA ?_ _)); refine blk_put (cs := #[.int .i64 0, .int .i64 0, .int .i64 0, .int .i64 0, .int .i64 0]) ?_ 0 _ rfl; (with_reducible repeat (first | refine kN ?_ _ | refine kD ?_ | refine kA ?_ _)); exact BK316.out) hb); have n7_ := A0m (below_step (by repeat (first | (with_reducible first | exact HB.out | apply bA | apply bN | apply bD | refine bS ?_ GE295.out | refine bS ?_ GE296.out | refine bS ?_ GE303.out | refine bS ?_ GE310.out | refine bS ?_ GE316.out) | exact HB.out)) hb); clear HO_42; clear BK295; clear BK296; clear BK303; clear BK310; clear BK316; clear HB; have HO_42 := n0_; have HO319 := n1_; have BK295 := n2_; have BK296 := n3_; have BK303 := n4_; have BK310 := n5_; have BK316 := n6_; have HB := n7_; clear n0_ n1_ n2_ n3_ n4_ n5_ n6_ n7_; (try clear hb); (try clear hb2); (try clear hk); (try clear hi); (try clear ho0); have hcz84_0 : w83.cell? ⟨gb316, 0, none⟩ = some (.int .i64 ((rd_T41 y311 x44_2).f0)) := (blk_cell BK316.out 0).trans rfl; have hcz84_1 : w83.cell? ⟨gb316, 1, none⟩ = some (.int .i64 ((rd_T41 y311 x44_2).f1)) := (blk_cell BK316.out 1).trans rfl; have hcz84_2 : w83.cell? ⟨gb316, 2, none⟩ = some (.int .i64 ((rd_T41 y311 x44_2).f2)) := (blk_cell BK316.out 2).trans rfl; have hcz84_3 : w83.cell? ⟨gb316, 3, none⟩ = some (.int .i64 ((rd_T41 y311 x44_2).f3)) := (blk_cell BK316.out 3).trans rfl; have hcz84_4 : w83.cell? ⟨gb316, 4, none⟩ = some (.int .i64 ((rd_T41 y311 x44_2).f4)) := (blk_cell BK316.out 4).trans rfl; have hfz84_0 := blk_frozen BK316.out 0; have hfz84_1 := blk_frozen BK316.out 1; have hfz84_2 := blk_frozen BK316.out 2; have hfz84_3 := blk_frozen BK316.out 3; have hfz84_4 := blk_frozen BK316.out 4) | ((with_reducible refine gate_callee (f := 21) rfl ?_); refine goesL_ (some 55) rfl rfl Tryd.func21 (by kernel_rfl) rfl #[.agg #[.int .i64 ((rd_T41 y311 x44_2).f0), .int .i64 ((rd_T41 y311 x44_2).f1), .int .i64 ((rd_T41 y311 x44_2).f2), .int .i64 ((rd_T41 y311 x44_2).f3), .int .i64 ((rd_T41 y311 x44_2).f4)]] rfl (by (try simp only [List.map_toArray, List.map_cons, List.map_nil]); first | done | rfl | (simp only [List.length_drop, List.length_take]; rfl)) ?_; (with_reducible refine (octroiref38_Posts.calls k2 ((rd_T41 y311 x44_2).f0) ((rd_T41 y311 x44_2).f1) ((rd_T41 y311 x44_2).f2) ((rd_T41 y311 x44_2).f3) ((rd_T41 y311 x44_2).f4) t321 t324 _ A53.out).mono ?_); rintro e w85 ⟨v322, rfl, ho0, hb⟩; refine ⟨_, rfl, ?_⟩; have n0_ := A0m (Kd.R_below (by (with_reducible repeat (first | apply rA | apply rN | apply rD)); exact HO_42.out) hb); have n1_ := A0m (Kd.R_elder' (by (with_reducible repeat (first | apply rA | apply rN | apply rD)); exact HO319.out) (Kd.R_base ho0) hb); have n2_ := A0m (Kd.R_lower (Kd.R_new' ho0 (Kd.R_lt (by (with_reducible repeat (first | apply rA | apply rN | apply rD)); exact HO319.out))) (below_size (by repeat (first | (with_reducible first | exact HB.out | apply bA | apply bN | apply bD | refine bS ?_ GE295.out | refine bS ?_ GE296.out | refine bS ?_ GE303.out | refine bS ?_ GE310.out | refine bS ?_ GE316.out) | exact HB.out)))); have n3_ := A0m (blk_below (g := gb295) (o := .cells #[.int .i64 a0_0, .int .i64 a0_1, .int .i64 a0_2] 36 (0, 0)) (by (with_reducible repeat (first | refine kN ?_ _ | refine kD ?_ | refine kA ?_ _)); exact BK295.out) hb); have n4_ := A0m (blk_below (g := gb296) (o := .cells #[.int .i64 a2_0, .int .i64 a2_1, .int .i64 a2_2, .int .i64 a2_3, .int .i64 a2_4] 41 (0, 0)) (by (with_reducible repeat (first | refine kN ?_ _ | refine kD ?_ | refine kA ?_ _)); exact BK296.out) hb); have n5_ := A0m (blk_below (g := gb303) (o := .cells #[.int .i64 t297, .int .i64 t298, .int .i64 t299, .int .i64 t300, .int .i64 t301] 41 (0, 0)) (by (with_reducible repeat (first | refine kN ?_ _ | refine kD ?_ | refine kA ?_ _)); exact BK303.out) hb); have n6_ := A0m (blk_below (g := gb310) (o := .cells #[.int .i64 t304, .int .i64 t305, .int .i64 t306, .int .i64 t307, .int .i64 t308] 38 (0, 0)) (by (with_reducible repeat (first | refine kN ?_ _ | refine kD ?_ | refine kA ?_ _)); exact BK310.out) hb); have n7_ := A0m (blk_below (g := gb316) (o := .cells #[.int .i64 ((rd_T41 y311 x44_2).f0), .int .i64 ((rd_T41 y311 x44_2).f1), .int .i64 ((rd_T41 y311 x44_2).f2), .int .i64 ((rd_T41 y311 x44_2).f3), .int .i64 ((rd_T41 y311 x44_2).f4)] 41 (0, 0)) (by (with_reducible repeat (first | refine kN ?_ _ | refine kD ?_ | refine kA ?_ _)); exact BK316.out) hb); have n8_ := A0m (below_step (by repeat (first | (with_reducible first | exact HB.out | apply bA | apply bN | apply bD | refine bS ?_ GE295.out | refine bS ?_ GE296.out | refine bS ?_ GE303.out | refine bS ?_ GE310.out | refine bS ?_ GE316.out) | exact HB.out)) hb); clear HO_42; clear HO319; clear BK295; clear BK296; clear BK303; clear BK310; clear BK316; clear HB; have HO_42 := n0_; have HO319 := n1_; have HO323 := n2_; have BK295 := n3_; have BK296 := n4_; have BK303 := n5_; have BK310 := n6_; have BK316 := n7_; have HB := n8_; clear n0_ n1_ n2_ n3_ n4_ n5_ n6_ n7_ n8_; (try clear hb); (try clear hb2); (try clear hk); (try clear hi); (try clear ho0)))
             have n0_ := A0m (rD HO_42.out)
             have n1_ := A0m (rD HO319.out)
             have n2_ := A0m (rD HO323.out)
             have n3_ := A0m (kD BK295.out)
             have n4_ := A0m (kD BK296.out)
             have n5_ := A0m (kD BK303.out)
             have n6_ := A0m (kD BK310.out)
             have n7_ := A0m (kD BK316.out)
             have n8_ := A0m (bD HB.out)
             clear HO_42
             clear HO319
             clear HO323
             clear BK295
             clear BK296
             clear BK303
             clear BK310
             clear BK316
             clear HB
             have HO_42 := n0_
             have HO319 := n1_
             have HO323 := n2_
             have BK295 := n3_
             have BK296 := n4_
             have BK303 := n5_
             have BK310 := n6_
             have BK316 := n7_
             have HB := n8_
             clear n0_ n1_ n2_ n3_ n4_ n5_ n6_ n7_ n8_
             obtain ⟨Ao87, co87, eo87⟩ := Kd.R_slice HO319.out
             (first | subst eo87 | (injection eo87 with f1_ f2_ f3_; have f4_ := f1_.symm; have f5_ := f3_.symm; clear f1_ f2_ f3_; subst f4_; subst f5_))
             obtain ⟨Ao88, co88, eo88⟩ := Kd.R_slice HO323.out
             (first | subst eo88 | (injection eo88 with f1_ f2_ f3_; have f4_ := f1_.symm; have f5_ := f3_.symm; clear f1_ f2_ f3_; subst f4_; subst f5_))
             refine start_ (n := 23) (S := fun w' => w'.cell? ⟨gb316, 0, none⟩ = some (.int .i64 ((rd_T41 y311 x44_2).f0)) ∧ w'.cell? ⟨gb316, 1, none⟩ = some (.int .i64 ((rd_T41 y311 x44_2).f1)) ∧ w'.cell? ⟨gb316, 2, none⟩ = some (.int .i64 ((rd_T41 y311 x44_2).f2)) ∧ w'.cell? ⟨gb316, 3, none⟩ = some (.int .i64 ((rd_T41 y311 x44_2).f3)) ∧ w'.cell? ⟨gb316, 4, none⟩ = some (.int .i64 ((rd_T41 y311 x44_2).f4))) (ds := []) #[false, false, false, false, false, false, false, false, false, false, false, false, false, false, false, false, false, false, false, false, false, false, false] (by kernel_rfl) rfl rfl ⟨(blk_cell BK316.out 0).trans rfl, (blk_cell BK316.out 1).trans rfl, (blk_cell BK316.out 2).trans rfl, (blk_cell BK316.out 3).trans rfl, (blk_cell BK316.out 4).trans rfl⟩ (fun hHeld => ?_); refine with_tabW octroilaw38_SettleOf.tab10 octroilaw38_SettleOf.bits10 (fun HT_ HW_ => ?_)
             generalize w85.drew = w86 at HO_42 HO319 HO323 BK295 BK296 BK303 BK310 BK316 HB hHeld ⊢
             refine pure_ (i := 0) (N := some 58) (v := ?_) (a' := ?_) #[true, false, false, false, false, false, false, false, false, false, false, false, false, false, false, false, false, false, false, false, false, false, false] rfl rfl (any_of HT_.out (by kernel_rfl)) (fun _ _ _ h => h) (Or.inl ⟨by rfl, ?_⟩) ?_ ?_
             rotate_left
             ·intro w'
              go_simp
              with_reducible rfl
             rotate_left
             ·simp only [Act.put, List.setIfInBounds_toArray, List.set_cons_zero, List.set_cons_succ, i64_w, i32_w]
              rfl
             refine pure_ (i := 1) (N := some 59) (v := ?_) (a' := ?_) #[true, true, false, false, false, false, false, false, false, false, false, false, false, false, false, false, false, false, false, false, false, false, false] rfl rfl (any_of HT_.out (by kernel_rfl)) (fun _ _ _ h => h) (Or.inl ⟨by rfl, ?_⟩) ?_ ?_
             rotate_left
             ·intro w'
              go_simp
              with_reducible rfl
             rotate_left
             ·simp only [Act.put, List.setIfInBounds_toArray, List.set_cons_zero, List.set_cons_succ, i64_w, i32_w]
              rfl
             refine one_ (i := 2) (N := some 60) #[true, true, true, false, false, false, false, false, false, false, false, false, false, false, false, false, false, false, false, false, false, false, false] rfl rfl (one_of HT_.out (by kernel_rfl)) (by decide) (fun K hK => ?_)
             refine goes_ Tryd.func22 (by kernel_rfl) rfl #[.slice Ao87 t317.length co87, .slice Ao88 t321.length co88] (by rfl) rfl rfl (by (try simp only [List.map_toArray, List.map_cons, List.map_nil]); first | done | rfl | (simp only [List.length_drop, List.length_take]; rfl)) ?_
             with_reducible refine (octroilaw38_same.calls k2 _ _ t317 _ _ t321 true _ ?side1 ?side2 ?side3 ?side4 A54.out).mono ?_
             (case side1 => repeat (first | exact (Kd.R_reads' HO319.out).2.2 | (with_reducible refine Kd.C_alloc ?_ _) | (with_reducible refine Kd.C_drewN ?_ _) | (with_reducible refine Kd.C_drew ?_)))
             (case side2 => exact (Kd.R_reads' HO319.out).2.1)
             (case side3 => repeat (first | exact (Kd.R_reads' HO323.out).2.2 | (with_reducible refine Kd.C_alloc ?_ _) | (with_reducible refine Kd.C_drewN ?_ _) | (with_reducible refine Kd.C_drew ?_)))
             (case side4 => exact (Kd.R_reads' HO323.out).2.1)
             rintro e w' ⟨rfl, ⟨nd, rfl⟩⟩
             refine ⟨_, rfl, ?_⟩
             refine hK.out _ _ ⟨(blk_cell BK316.out 0).trans rfl, (blk_cell BK316.out 1).trans rfl, (blk_cell BK316.out 2).trans rfl, (blk_cell BK316.out 3).trans rfl, (blk_cell BK316.out 4).trans rfl⟩ (fun hHeld => ?_)
             clear hK K
             refine norm_ (a' := ?_) ?_ ?_
             rotate_left
             ·show Act.put _ (some 60) _ = _
              simp only [Act.put, List.setIfInBounds_toArray, List.set_cons_zero, List.set_cons_succ, i64_w, i32_w]
              rfl
             refine pure_ (i := 3) (N := some 61) (v := ?_) (a' := ?_) #[true, true, true, true, false, false, false, false, false, false, false, false, false, false, false, false, false, false, false, false, false, false, false] rfl rfl (any_of HT_.out (by kernel_rfl)) (fun _ _ _ h => h) (Or.inl ⟨by rfl, ?_⟩) ?_ ?_
             rotate_left
             ·intro w'
              go_simp
              with_reducible rfl
             rotate_left
             ·simp only [Act.put, List.setIfInBounds_toArray, List.set_cons_zero, List.set_cons_succ, i64_w, i32_w]
              rfl
             refine pure_ (i := 4) (N := some 62) (v := ?_) (a' := ?_) #[true, true, true, true, true, false, false, false, false, false, false, false, false, false, false, false, false, false, false, false, false, false, false] rfl rfl (any_of HT_.out (by kernel_rfl)) (fun _ _ _ h => h) (Or.inl ⟨by rfl, ?_⟩) ?_ ?_
             rotate_left
             ·intro w'
              go_simp
              with_reducible rfl
             rotate_left
             ·simp only [Act.put, List.setIfInBounds_toArray, List.set_cons_zero, List.set_cons_succ, i64_w, i32_w]
              rfl
             refine pure_ (i := 5) (N := some 63) (v := ?_) (a' := ?_) #[true, true, true, true, true, true, false, false, false, false, false, false, false, false, false, false, false, false, false, false, false, false, false] rfl rfl (any_of HT_.out (by kernel_rfl)) (fun _ _ _ h => h) (Or.inl ⟨by rfl, ?_⟩) ?_ ?_
             rotate_left
             ·intro w'
              go_simp
              with_reducible rfl
             rotate_left
             ·simp only [Act.put, List.setIfInBounds_toArray, List.set_cons_zero, List.set_cons_succ, i64_w, i32_w]
              rfl
             refine pure_ (i := 6) (N := some 64) (v := ?_) (a' := ?_) #[true, true, true, true, true, true, true, false, false, false, false, false, false, false, false, false, false, false, false, false, false, false, false] rfl rfl (any_of HT_.out (by kernel_rfl)) (fun _ _ _ h => h) (Or.inl ⟨by rfl, ?_⟩) ?_ ?_
             rotate_left
             ·intro w'
              go_simp
              with_reducible rfl
             rotate_left
             ·simp only [Act.put, List.setIfInBounds_toArray, List.set_cons_zero, List.set_cons_succ, i64_w, i32_w]
              rfl
             refine pure_ (i := 7) (N := some 65) (v := ?_) (a' := ?_) #[true, true, true, true, true, true, true, true, false, false, false, false, false, false, false, false, false, false, false, false, false, false, false] rfl rfl (any_of HT_.out (by kernel_rfl)) (fun _ _ _ h => h) (Or.inl ⟨by rfl, ?_⟩) ?_ ?_
             rotate_left
             ·intro w'
              go_simp
              with_reducible rfl
             rotate_left
             ·simp only [Act.put, List.setIfInBounds_toArray, List.set_cons_zero, List.set_cons_succ, i64_w, i32_w]
              rfl
             refine pure_ (i := 8) (N := some 66) (v := ?_) (a' := ?_) #[true, true, true, true, true, true, true, true, true, false, false, false, false, false, false, false, false, false, false, false, false, false, false] rfl rfl (any_of HT_.out (by kernel_rfl)) (fun _ _ _ h => h) (Or.inl ⟨by rfl, ?_⟩) ?_ ?_
             rotate_left
             ·intro w'
              go_simp
              with_reducible rfl
             rotate_left
             ·simp only [Act.put, List.setIfInBounds_toArray, List.set_cons_zero, List.set_cons_succ, i64_w, i32_w]
              rfl
             refine pure_ (i := 9) (N := some 67) (v := ?_) (a' := ?_) #[true, true, true, true, true, true, true, true, true, true, false, false, false, false, false, false, false, false, false, false, false, false, false] rfl rfl (any_of HT_.out (by kernel_rfl)) (fun _ _ _ h => h) (Or.inl ⟨by rfl, ?_⟩) ?_ ?_
             rotate_left
             ·intro w'
              go_simp
              with_reducible rfl
             rotate_left
             ·simp only [Act.put, List.setIfInBounds_toArray, List.set_cons_zero, List.set_cons_succ, i64_w, i32_w]
              rfl
             refine take_ (i := 10) (N := some 68) (v := ?_) (a' := ?_) #[true, true, true, true, true, true, true, true, true, true, true, false, false, false, false, false, false, false, false, false, false, false, false] rfl rfl (take_ofW HT_.out HW_.out (by kernel_rfl)) (fun _ _ _ h => h) (Or.inl ⟨by rfl, ?_⟩) hHeld ?_ ?_
             rotate_left
             ·rintro w' ⟨s0, s1, s2, s3, s4⟩
              go_simp
              with_reducible rfl
             rotate_left
             ·simp only [Act.put, List.setIfInBounds_toArray, List.set_cons_zero, List.set_cons_succ, i64_w, i32_w]
              rfl
             refine take_ (i := 12) (N := some 70) (v := ?_) (a' := ?_) #[true, true, true, true, true, true, true, true, true, true, true, false, true, false, false, false, false, false, false, false, false, false, false] rfl rfl (take_ofW HT_.out HW_.out (by kernel_rfl)) (fun _ _ _ h => h) (Or.inl ⟨by rfl, ?_⟩) hHeld ?_ ?_
             rotate_left
             ·rintro w' ⟨s0, s1, s2, s3, s4⟩
              go_simp
              with_reducible rfl
             rotate_left
             ·simp only [Act.put, List.setIfInBounds_toArray, List.set_cons_zero, List.set_cons_succ, i64_w, i32_w]
              rfl
             refine one_ (i := 11) (N := some 69) #[true, true, true, true, true, true, true, true, true, true, true, true, true, false, false, false, false, false, false, false, false, false, false] rfl rfl (one_of HT_.out (by kernel_rfl)) (by decide) (fun K hK => ?_)
             refine goes_ Tryd.func23 (by kernel_rfl) rfl #[.agg #[.int .i64 ((rd_T41 y311 x44_2).f0), .int .i64 ((rd_T41 y311 x44_2).f1), .int .i64 ((rd_T41 y311 x44_2).f2), .int .i64 ((rd_T41 y311 x44_2).f3), .int .i64 ((rd_T41 y311 x44_2).f4)]] (by rfl) rfl rfl (by (try simp only [List.map_toArray, List.map_cons, List.map_nil]); first | done | rfl | (simp only [List.length_drop, List.length_take]; rfl)) ?_
             with_reducible refine (settle_Good.calls k2 ((rd_T41 y311 x44_2).f0) ((rd_T41 y311 x44_2).f1) ((rd_T41 y311 x44_2).f2) ((rd_T41 y311 x44_2).f3) ((rd_T41 y311 x44_2).f4) t326 _ A57.out).mono ?_
             rintro e w89 ⟨rfl, hb⟩
             refine ⟨_, rfl, ?_⟩
             have n0_ := A0m (Kd.R_below (by (with_reducible repeat (first | apply rA | apply rN | apply rD)); exact HO_42.out) hb)
             have n1_ := A0m (Kd.R_below (by (with_reducible repeat (first | apply rA | apply rN | apply rD)); exact HO319.out) hb)
             have n2_ := A0m (Kd.R_below (by (with_reducible repeat (first | apply rA | apply rN | apply rD)); exact HO323.out) hb)
             have n3_ := A0m (blk_below (g := gb295) (o := .cells #[.int .i64 a0_0, .int .i64 a0_1, .int .i64 a0_2] 36 (0, 0)) (by (with_reducible repeat (first | refine kN ?_ _ | refine kD ?_ | refine kA ?_ _)); exact BK295.out) hb)
             have n4_ := A0m (blk_below (g := gb296) (o := .cells #[.int .i64 a2_0, .int .i64 a2_1, .int .i64 a2_2, .int .i64 a2_3, .int .i64 a2_4] 41 (0, 0)) (by (with_reducible repeat (first | refine kN ?_ _ | refine kD ?_ | refine kA ?_ _)); exact BK296.out) hb)
             have n5_ := A0m (blk_below (g := gb303) (o := .cells #[.int .i64 t297, .int .i64 t298, .int .i64 t299, .int .i64 t300, .int .i64 t301] 41 (0, 0)) (by (with_reducible repeat (first | refine kN ?_ _ | refine kD ?_ | refine kA ?_ _)); exact BK303.out) hb)
             have n6_ := A0m (blk_below (g := gb310) (o := .cells #[.int .i64 t304, .int .i64 t305, .int .i64 t306, .int .i64 t307, .int .i64 t308] 38 (0, 0)) (by (with_reducible repeat (first | refine kN ?_ _ | refine kD ?_ | refine kA ?_ _)); exact BK310.out) hb)
             have n7_ := A0m (blk_below (g := gb316) (o := .cells #[.int .i64 ((rd_T41 y311 x44_2).f0), .int .i64 ((rd_T41 y311 x44_2).f1), .int .i64 ((rd_T41 y311 x44_2).f2), .int .i64 ((rd_T41 y311 x44_2).f3), .int .i64 ((rd_T41 y311 x44_2).f4)] 41 (0, 0)) (by (with_reducible repeat (first | refine kN ?_ _ | refine kD ?_ | refine kA ?_ _)); exact BK316.out) hb)
             have n8_ := A0m (below_step (by repeat (first | (with_reducible first | exact HB.out | apply bA | apply bN | apply bD | refine bS ?_ GE295.out | refine bS ?_ GE296.out | refine bS ?_ GE303.out | refine bS ?_ GE310.out | refine bS ?_ GE316.out) | exact HB.out)) hb)
             clear HO_42
             clear HO319
             clear HO323
             clear BK295
             clear BK296
             clear BK303
             clear BK310
             clear BK316
             clear HB
             have HO_42 := n0_
             have HO319 := n1_
             have HO323 := n2_
             have BK295 := n3_
             have BK296 := n4_
             have BK303 := n5_
             have BK310 := n6_
             have BK316 := n7_
             have HB := n8_
             clear n0_ n1_ n2_ n3_ n4_ n5_ n6_ n7_ n8_
             (try clear hb)
             (try clear hb2)
             (try clear hk)
             (try clear hi)
             refine hK.out _ _ ⟨(blk_cell BK316.out 0).trans rfl, (blk_cell BK316.out 1).trans rfl, (blk_cell BK316.out 2).trans rfl, (blk_cell BK316.out 3).trans rfl, (blk_cell BK316.out 4).trans rfl⟩ (fun hHeld => ?_)
             clear hK K
             refine norm_ (a' := ?_) ?_ ?_
             rotate_left
             ·show Act.put _ (some 69) _ = _
              simp only [Act.put, List.setIfInBounds_toArray, List.set_cons_zero, List.set_cons_succ, i64_w, i32_w]
              rfl
             refine one_ (i := 13) (N := some 71) #[true, true, true, true, true, true, true, true, true, true, true, true, true, true, false, false, false, false, false, false, false, false, false] rfl rfl (one_of HT_.out (by kernel_rfl)) (by decide) (fun K hK => ?_)
             refine goes_ Tryd.func24 (by kernel_rfl) rfl #[.agg #[.int .i64 ((rd_T41 y311 x44_2).f0), .int .i64 ((rd_T41 y311 x44_2).f1), .int .i64 ((rd_T41 y311 x44_2).f2), .int .i64 ((rd_T41 y311 x44_2).f3), .int .i64 ((rd_T41 y311 x44_2).f4)]] (by rfl) rfl rfl (by (try simp only [List.map_toArray, List.map_cons, List.map_nil]); first | done | rfl | (simp only [List.length_drop, List.length_take]; rfl)) ?_
             with_reducible refine (octroiref38_Good.calls k2 ((rd_T41 y311 x44_2).f0) ((rd_T41 y311 x44_2).f1) ((rd_T41 y311 x44_2).f2) ((rd_T41 y311 x44_2).f3) ((rd_T41 y311 x44_2).f4) t327 _ A58.out).mono ?_
             rintro e w90 ⟨rfl, hb⟩
             refine ⟨_, rfl, ?_⟩
             have n0_ := A0m (Kd.R_below (by (with_reducible repeat (first | apply rA | apply rN | apply rD)); exact HO_42.out) hb)
             have n1_ := A0m (Kd.R_below (by (with_reducible repeat (first | apply rA | apply rN | apply rD)); exact HO319.out) hb)
             have n2_ := A0m (Kd.R_below (by (with_reducible repeat (first | apply rA | apply rN | apply rD)); exact HO323.out) hb)
             have n3_ := A0m (blk_below (g := gb295) (o := .cells #[.int .i64 a0_0, .int .i64 a0_1, .int .i64 a0_2] 36 (0, 0)) (by (with_reducible repeat (first | refine kN ?_ _ | refine kD ?_ | refine kA ?_ _)); exact BK295.out) hb)
             have n4_ := A0m (blk_below (g := gb296) (o := .cells #[.int .i64 a2_0, .int .i64 a2_1, .int .i64 a2_2, .int .i64 a2_3, .int .i64 a2_4] 41 (0, 0)) (by (with_reducible repeat (first | refine kN ?_ _ | refine kD ?_ | refine kA ?_ _)); exact BK296.out) hb)
             have n5_ := A0m (blk_below (g := gb303) (o := .cells #[.int .i64 t297, .int .i64 t298, .int .i64 t299, .int .i64 t300, .int .i64 t301] 41 (0, 0)) (by (with_reducible repeat (first | refine kN ?_ _ | refine kD ?_ | refine kA ?_ _)); exact BK303.out) hb)
             have n6_ := A0m (blk_below (g := gb310) (o := .cells #[.int .i64 t304, .int .i64 t305, .int .i64 t306, .int .i64 t307, .int .i64 t308] 38 (0, 0)) (by (with_reducible repeat (first | refine kN ?_ _ | refine kD ?_ | refine kA ?_ _)); exact BK310.out) hb)
             have n7_ := A0m (blk_below (g := gb316) (o := .cells #[.int .i64 ((rd_T41 y311 x44_2).f0), .int .i64 ((rd_T41 y311 x44_2).f1), .int .i64 ((rd_T41 y311 x44_2).f2), .int .i64 ((rd_T41 y311 x44_2).f3), .int .i64 ((rd_T41 y311 x44_2).f4)] 41 (0, 0)) (by (with_reducible repeat (first | refine kN ?_ _ | refine kD ?_ | refine kA ?_ _)); exact BK316.out) hb)
             have n8_ := A0m (below_step (by repeat (first | (with_reducible first | exact HB.out | apply bA | apply bN | apply bD | refine bS ?_ GE295.out | refine bS ?_ GE296.out | refine bS ?_ GE303.out | refine bS ?_ GE310.out | refine bS ?_ GE316.out) | exact HB.out)) hb)
             clear HO_42
             clear HO319
             clear HO323
             clear BK295
             clear BK296
             clear BK303
             clear BK310
             clear BK316
             clear HB
             have HO_42 := n0_
             have HO319 := n1_
             have HO323 := n2_
             have BK295 := n3_
             have BK296 := n4_
             have BK303 := n5_
             have BK310 := n6_
             have BK316 := n7_
             have HB := n8_
             clear n0_ n1_ n2_ n3_ n4_ n5_ n6_ n7_ n8_
             (try clear hb)
             (try clear hb2)
             (try clear hk)
             (try clear hi)
             refine hK.out _ _ ⟨(blk_cell BK316.out 0).trans rfl, (blk_cell BK316.out 1).trans rfl, (blk_cell BK316.out 2).trans rfl, (blk_cell BK316.out 3).trans rfl, (blk_cell BK316.out 4).trans rfl⟩ (fun hHeld => ?_)
             clear hK K
             refine norm_ (a' := ?_) ?_ ?_
             rotate_left
             ·show Act.put _ (some 71) _ = _
              simp only [Act.put, List.setIfInBounds_toArray, List.set_cons_zero, List.set_cons_succ, i64_w, i32_w]
              rfl
             refine pure_ (i := 14) (N := some 72) (v := ?_) (a' := ?_) #[true, true, true, true, true, true, true, true, true, true, true, true, true, true, true, false, false, false, false, false, false, false, false] rfl rfl (any_of HT_.out (by kernel_rfl)) (fun _ _ _ h => h) (Or.inl ⟨by rfl, ?_⟩) ?_ ?_
             rotate_left
             ·intro w'
              go_simp
              with_reducible rfl
             rotate_left
             ·simp only [Act.put, List.setIfInBounds_toArray, List.set_cons_zero, List.set_cons_succ, i64_w, i32_w]
              rfl
             refine pure_ (i := 15) (N := some 73) (v := ?_) (a' := ?_) #[true, true, true, true, true, true, true, true, true, true, true, true, true, true, true, true, false, false, false, false, false, false, false] rfl rfl (any_of HT_.out (by kernel_rfl)) (fun _ _ _ h => h) (Or.inl ⟨by rfl, ?_⟩) ?_ ?_
             rotate_left
             ·intro w'
              go_simp
              with_reducible rfl
             rotate_left
             ·simp only [Act.put, List.setIfInBounds_toArray, List.set_cons_zero, List.set_cons_succ, i64_w, i32_w]
              rfl
             refine pure_ (i := 16) (N := some 74) (v := ?_) (a' := ?_) #[true, true, true, true, true, true, true, true, true, true, true, true, true, true, true, true, true, false, false, false, false, false, false] rfl rfl (any_of HT_.out (by kernel_rfl)) (fun _ _ _ h => h) (Or.inl ⟨by rfl, ?_⟩) ?_ ?_
             rotate_left
             ·intro w'
              go_simp
              with_reducible rfl
             rotate_left
             ·simp only [Act.put, List.setIfInBounds_toArray, List.set_cons_zero, List.set_cons_succ, i64_w, i32_w]
              rfl
             refine take_ (i := 17) (N := some 75) (v := ?_) (a' := ?_) #[true, true, true, true, true, true, true, true, true, true, true, true, true, true, true, true, true, true, false, false, false, false, false] rfl rfl (take_ofW HT_.out HW_.out (by kernel_rfl)) (fun _ _ _ h => h) (Or.inl ⟨by rfl, ?_⟩) hHeld ?_ ?_
             rotate_left
             ·rintro w' ⟨s0, s1, s2, s3, s4⟩
              go_simp
              with_reducible rfl
             rotate_left
             ·simp only [Act.put, List.setIfInBounds_toArray, List.set_cons_zero, List.set_cons_succ, i64_w, i32_w]
              rfl
             refine take_ (i := 19) (N := some 77) (v := ?_) (a' := ?_) #[true, true, true, true, true, true, true, true, true, true, true, true, true, true, true, true, true, true, false, true, false, false, false] rfl rfl (take_ofW HT_.out HW_.out (by kernel_rfl)) (fun _ _ _ h => h) (Or.inl ⟨by rfl, ?_⟩) hHeld ?_ ?_
             rotate_left
             ·rintro w' ⟨s0, s1, s2, s3, s4⟩
              go_simp
              with_reducible rfl
             rotate_left
             ·simp only [Act.put, List.setIfInBounds_toArray, List.set_cons_zero, List.set_cons_succ, i64_w, i32_w]
              rfl
             refine one_ (i := 18) (N := some 76) #[true, true, true, true, true, true, true, true, true, true, true, true, true, true, true, true, true, true, true, true, false, false, false] rfl rfl (one_of HT_.out (by kernel_rfl)) (by decide) (fun K hK => ?_)
             refine goes_ Tryd.func25 (by kernel_rfl) rfl #[.agg #[.int .i64 ((rd_T41 y311 x44_2).f0), .int .i64 ((rd_T41 y311 x44_2).f1), .int .i64 ((rd_T41 y311 x44_2).f2), .int .i64 ((rd_T41 y311 x44_2).f3), .int .i64 ((rd_T41 y311 x44_2).f4)]] (by rfl) rfl rfl (by (try simp only [List.map_toArray, List.map_cons, List.map_nil]); first | done | rfl | (simp only [List.length_drop, List.length_take]; rfl)) ?_
             with_reducible refine (settle_Text.calls ((rd_T41 y311 x44_2).f0) ((rd_T41 y311 x44_2).f1) ((rd_T41 y311 x44_2).f2) ((rd_T41 y311 x44_2).f3) ((rd_T41 y311 x44_2).f4) t328 _ ?side1 A74.out).mono ?_
             (case side1 => exact BX.Tab.below HTab_.out (by repeat (first | (with_reducible first | exact HB.out | apply bA | apply bN | apply bD | refine bS ?_ GE295.out | refine bS ?_ GE296.out | refine bS ?_ GE303.out | refine bS ?_ GE310.out | refine bS ?_ GE316.out) | exact HB.out)))
             rintro e w91 ⟨rfl, hb⟩
             refine ⟨_, rfl, ?_⟩
             have n0_ := A0m (Kd.R_below (by (with_reducible repeat (first | apply rA | apply rN | apply rD)); exact HO_42.out) hb)
             have n1_ := A0m (Kd.R_below (by (with_reducible repeat (first | apply rA | apply rN | apply rD)); exact HO319.out) hb)
             have n2_ := A0m (Kd.R_below (by (with_reducible repeat (first | apply rA | apply rN | apply rD)); exact HO323.out) hb)
             have n3_ := A0m (blk_below (g := gb295) (o := .cells #[.int .i64 a0_0, .int .i64 a0_1, .int .i64 a0_2] 36 (0, 0)) (by (with_reducible repeat (first | refine kN ?_ _ | refine kD ?_ | refine kA ?_ _)); exact BK295.out) hb)
             have n4_ := A0m (blk_below (g := gb296) (o := .cells #[.int .i64 a2_0, .int .i64 a2_1, .int .i64 a2_2, .int .i64 a2_3, .int .i64 a2_4] 41 (0, 0)) (by (with_reducible repeat (first | refine kN ?_ _ | refine kD ?_ | refine kA ?_ _)); exact BK296.out) hb)
             have n5_ := A0m (blk_below (g := gb303) (o := .cells #[.int .i64 t297, .int .i64 t298, .int .i64 t299, .int .i64 t300, .int .i64 t301] 41 (0, 0)) (by (with_reducible repeat (first | refine kN ?_ _ | refine kD ?_ | refine kA ?_ _)); exact BK303.out) hb)
             have n6_ := A0m (blk_below (g := gb310) (o := .cells #[.int .i64 t304, .int .i64 t305, .int .i64 t306, .int .i64 t307, .int .i64 t308] 38 (0, 0)) (by (with_reducible repeat (first | refine kN ?_ _ | refine kD ?_ | refine kA ?_ _)); exact BK310.out) hb)
             have n7_ := A0m (blk_below (g := gb316) (o := .cells #[.int .i64 ((rd_T41 y311 x44_2).f0), .int .i64 ((rd_T41 y311 x44_2).f1), .int .i64 ((rd_T41 y311 x44_2).f2), .int .i64 ((rd_T41 y311 x44_2).f3), .int .i64 ((rd_T41 y311 x44_2).f4)] 41 (0, 0)) (by (with_reducible repeat (first | refine kN ?_ _ | refine kD ?_ | refine kA ?_ _)); exact BK316.out) hb)
             have n8_ := A0m (below_step (by repeat (first | (with_reducible first | exact HB.out | apply bA | apply bN | apply bD | refine bS ?_ GE295.out | refine bS ?_ GE296.out | refine bS ?_ GE303.out | refine bS ?_ GE310.out | refine bS ?_ GE316.out) | exact HB.out)) hb)
             clear HO_42
             clear HO319
             clear HO323
             clear BK295
             clear BK296
             clear BK303
             clear BK310
             clear BK316
             clear HB
             have HO_42 := n0_
             have HO319 := n1_
             have HO323 := n2_
             have BK295 := n3_
             have BK296 := n4_
             have BK303 := n5_
             have BK310 := n6_
             have BK316 := n7_
             have HB := n8_
             clear n0_ n1_ n2_ n3_ n4_ n5_ n6_ n7_ n8_
             (try clear hb)
             (try clear hb2)
             (try clear hk)
             (try clear hi)
             refine hK.out _ _ ⟨(blk_cell BK316.out 0).trans rfl, (blk_cell BK316.out 1).trans rfl, (blk_cell BK316.out 2).trans rfl, (blk_cell BK316.out 3).trans rfl, (blk_cell BK316.out 4).trans rfl⟩ (fun hHeld => ?_)
             clear hK K
             refine norm_ (a' := ?_) ?_ ?_
             rotate_left
             ·show Act.put _ (some 76) _ = _
              simp only [Act.put, List.setIfInBounds_toArray, List.set_cons_zero, List.set_cons_succ, i64_w, i32_w]
              rfl
             refine one_ (i := 20) (N := some 78) #[true, true, true, true, true, true, true, true, true, true, true, true, true, true, true, true, true, true, true, true, true, false, false] rfl rfl (one_of HT_.out (by kernel_rfl)) (by decide) (fun K hK => ?_)
             refine goes_ Tryd.func26 (by kernel_rfl) rfl #[.agg #[.int .i64 ((rd_T41 y311 x44_2).f0), .int .i64 ((rd_T41 y311 x44_2).f1), .int .i64 ((rd_T41 y311 x44_2).f2), .int .i64 ((rd_T41 y311 x44_2).f3), .int .i64 ((rd_T41 y311 x44_2).f4)]] (by rfl) rfl rfl (by (try simp only [List.map_toArray, List.map_cons, List.map_nil]); first | done | rfl | (simp only [List.length_drop, List.length_take]; rfl)) ?_
             with_reducible refine (octroiref38_Text.calls k2 ((rd_T41 y311 x44_2).f0) ((rd_T41 y311 x44_2).f1) ((rd_T41 y311 x44_2).f2) ((rd_T41 y311 x44_2).f3) ((rd_T41 y311 x44_2).f4) t329 _ A75.out).mono ?_
             rintro e w92 ⟨rfl, hb⟩
             refine ⟨_, rfl, ?_⟩
             have n0_ := A0m (Kd.R_below (by (with_reducible repeat (first | apply rA | apply rN | apply rD)); exact HO_42.out) hb)
             have n1_ := A0m (Kd.R_below (by (with_reducible repeat (first | apply rA | apply rN | apply rD)); exact HO319.out) hb)
             have n2_ := A0m (Kd.R_below (by (with_reducible repeat (first | apply rA | apply rN | apply rD)); exact HO323.out) hb)
             have n3_ := A0m (blk_below (g := gb295) (o := .cells #[.int .i64 a0_0, .int .i64 a0_1, .int .i64 a0_2] 36 (0, 0)) (by (with_reducible repeat (first | refine kN ?_ _ | refine kD ?_ | refine kA ?_ _)); exact BK295.out) hb)
             have n4_ := A0m (blk_below (g := gb296) (o := .cells #[.int .i64 a2_0, .int .i64 a2_1, .int .i64 a2_2, .int .i64 a2_3, .int .i64 a2_4] 41 (0, 0)) (by (with_reducible repeat (first | refine kN ?_ _ | refine kD ?_ | refine kA ?_ _)); exact BK296.out) hb)
             have n5_ := A0m (blk_below (g := gb303) (o := .cells #[.int .i64 t297, .int .i64 t298, .int .i64 t299, .int .i64 t300, .int .i64 t301] 41 (0, 0)) (by (with_reducible repeat (first | refine kN ?_ _ | refine kD ?_ | refine kA ?_ _)); exact BK303.out) hb)
             have n6_ := A0m (blk_below (g := gb310) (o := .cells #[.int .i64 t304, .int .i64 t305, .int .i64 t306, .int .i64 t307, .int .i64 t308] 38 (0, 0)) (by (with_reducible repeat (first | refine kN ?_ _ | refine kD ?_ | refine kA ?_ _)); exact BK310.out) hb)
             have n7_ := A0m (blk_below (g := gb316) (o := .cells #[.int .i64 ((rd_T41 y311 x44_2).f0), .int .i64 ((rd_T41 y311 x44_2).f1), .int .i64 ((rd_T41 y311 x44_2).f2), .int .i64 ((rd_T41 y311 x44_2).f3), .int .i64 ((rd_T41 y311 x44_2).f4)] 41 (0, 0)) (by (with_reducible repeat (first | refine kN ?_ _ | refine kD ?_ | refine kA ?_ _)); exact BK316.out) hb)
             have n8_ := A0m (below_step (by repeat (first | (with_reducible first | exact HB.out | apply bA | apply bN | apply bD | refine bS ?_ GE295.out | refine bS ?_ GE296.out | refine bS ?_ GE303.out | refine bS ?_ GE310.out | refine bS ?_ GE316.out) | exact HB.out)) hb)
             clear HO_42
             clear HO319
             clear HO323
             clear BK295
             clear BK296
             clear BK303
             clear BK310
             clear BK316
             clear HB
             have HO_42 := n0_
             have HO319 := n1_
             have HO323 := n2_
             have BK295 := n3_
             have BK296 := n4_
             have BK303 := n5_
             have BK310 := n6_
             have BK316 := n7_
             have HB := n8_
             clear n0_ n1_ n2_ n3_ n4_ n5_ n6_ n7_ n8_
             (try clear hb)
             (try clear hb2)
             (try clear hk)
             (try clear hi)
             refine hK.out _ _ ⟨(blk_cell BK316.out 0).trans rfl, (blk_cell BK316.out 1).trans rfl, (blk_cell BK316.out 2).trans rfl, (blk_cell BK316.out 3).trans rfl, (blk_cell BK316.out 4).trans rfl⟩ (fun hHeld => ?_)
             clear hK K
             refine norm_ (a' := ?_) ?_ ?_
             rotate_left
             ·show Act.put _ (some 78) _ = _
              simp only [Act.put, List.setIfInBounds_toArray, List.set_cons_zero, List.set_cons_succ, i64_w, i32_w]
              rfl
             refine pure_ (i := 21) (N := some 79) (v := ?_) (a' := ?_) #[true, true, true, true, true, true, true, true, true, true, true, true, true, true, true, true, true, true, true, true, true, true, false] rfl rfl (any_of HT_.out (by kernel_rfl)) (fun _ _ _ h => h) (Or.inl ⟨by rfl, ?_⟩) ?_ ?_
             rotate_left
             ·intro w'
              go_simp
              with_reducible rfl
             rotate_left
             ·simp only [Act.put, List.setIfInBounds_toArray, List.set_cons_zero, List.set_cons_succ, i64_w, i32_w]
              rfl
             refine pure_ (i := 22) (N := some 80) (v := ?_) (a' := ?_) #[true, true, true, true, true, true, true, true, true, true, true, true, true, true, true, true, true, true, true, true, true, true, true] rfl rfl (any_of HT_.out (by kernel_rfl)) (fun _ _ _ h => h) (Or.inl ⟨by rfl, ?_⟩) ?_ ?_
             rotate_left
             ·intro w'
              go_simp
              with_reducible rfl
             rotate_left
             ·simp only [Act.put, List.setIfInBounds_toArray, List.set_cons_zero, List.set_cons_succ, i64_w, i32_w]
              rfl
             refine done_ (done_of HT_.out (by kernel_rfl)) ?_
             try go_wp2
             go_roundg k2
             case measure => have := HJ5.out; have := HK2.out; omega
             case rel => exact ⟨(wrap64 (x44_2 + 1)), (by first | rfl | (simp; done) | (simp [*]; done)), H', ⟨by have := HJ5.out; have := HK2.out; omega⟩, ⟨by (with_reducible repeat (first | apply rA | apply rN | apply rD)); exact Kd.R_mono HO_42.out (fun _ hk => ⟨hk.1.1, hk.1.2⟩)⟩, ⟨by (with_reducible repeat (first | refine kN ?_ _ | refine kD ?_ | refine kA ?_ _)); exact BK295.out⟩, ⟨by (with_reducible repeat (first | refine kN ?_ _ | refine kD ?_ | refine kA ?_ _)); exact BK296.out⟩, ⟨by (with_reducible repeat (first | refine kN ?_ _ | refine kD ?_ | refine kA ?_ _)); exact BK303.out⟩, ⟨by (with_reducible repeat (first | refine kN ?_ _ | refine kD ?_ | refine kA ?_ _)); exact BK310.out⟩, ⟨by repeat (first | (with_reducible first | exact HB.out | apply bA | apply bN | apply bD | refine bS ?_ GE295.out | refine bS ?_ GE296.out | refine bS ?_ GE303.out | refine bS ?_ GE310.out | refine bS ?_ GE316.out) | exact HB.out)⟩⟩
            ·rw [if_neg c76] at H
             have c76b0 : (t328.toList == t329.toList) = false := beq_eq_false_iff_ne.mpr c76
             have c76b1 : (t328.toList != t329.toList) = true := bne_iff_ne.mpr c76
             obtain rfl := Option.some.inj H
             have p315 : 0 ≤ (x44_2 : Int) := of_decide_eq_true (by first | (with_reducible assumption) | assumption)
             have q315 : x44_2 < (y311.length : Int) := of_decide_eq_true (by first | (with_reducible assumption) | assumption)
             obtain ⟨ad315, e315, hx315_0, hx315_1, hx315_2, hx315_3, hx315_4⟩ := at_T41 (Kd.R_reads' HO_42.out).2.2 x44_2 p315 q315
             cases e315
             replace p315 := eq_true p315
             replace q315 := eq_true q315
             try go_wp2_with (first | ((with_reducible refine gate_dst (N := 12) rfl ?_); refine box_event ?hg (N := 12) ?hd (cs := #[.int .i64 0, .int .i64 0, .int .i64 0, .int .i64 0, .int .i64 0]) (t := 41) ?hr ?_; (case hd => rfl); (case hg => rfl); (case hr => first | (go_simp; done) | (go_simp; rfl)); intro gb316 hg w93 hbox hb; have n0_ := A0m (Kd.R_below (Kd.R_elderB (by (with_reducible repeat (first | apply rA | apply rN | apply rD)); exact HO_42.out) gb316 (Nat.le_of_eq hg.symm)) hb); have n1_ := A0m (blk_below (g := gb295) (o := .cells #[.int .i64 a0_0, .int .i64 a0_1, .int .i64 a0_2] 36 (0, 0)) (by (with_reducible repeat (first | refine kN ?_ _ | refine kD ?_ | refine kA ?_ _)); exact BK295.out) hb); have n2_ := A0m (blk_below (g := gb296) (o := .cells #[.int .i64 a2_0, .int .i64 a2_1, .int .i64 a2_2, .int .i64 a2_3, .int .i64 a2_4] 41 (0, 0)) (by (with_reducible repeat (first | refine kN ?_ _ | refine kD ?_ | refine kA ?_ _)); exact BK296.out) hb); have n3_ := A0m (blk_below (g := gb303) (o := .cells #[.int .i64 t297, .int .i64 t298, .int .i64 t299, .int .i64 t300, .int .i64 t301] 41 (0, 0)) (by (with_reducible repeat (first | refine kN ?_ _ | refine kD ?_ | refine kA ?_ _)); exact BK303.out) hb); have n4_ := A0m (blk_below (g := gb310) (o := .cells #[.int .i64 t304, .int .i64 t305, .int .i64 t306, .int .i64 t307, .int .i64 t308] 38 (0, 0)) (by (with_reducible repeat (first | refine kN ?_ _ | refine kD ?_ | refine kA ?_ _)); exact BK310.out) hb); have n5_ := A0m (below_step (by repeat (first | (with_reducible first | exact HB.out | apply bA | apply bN | apply bD | refine bS ?_ GE295.out | refine bS ?_ GE296.out | refine bS ?_ GE303.out | refine bS ?_ GE310.out) | exact HB.out)) hb); have n6_ := A0m (hbox); have n7_ := A0m ((by rw [hg]; exact (below_size (by repeat (first | (with_reducible first | exact HB.out | apply bA | apply bN | apply bD | refine bS ?_ GE295.out | refine bS ?_ GE296.out | refine bS ?_ GE303.out | refine bS ?_ GE310.out) | exact HB.out))) : w.heap.size ≤ gb316)); have n8_ := A0m ((by rw [hg]; exact (below_size (by repeat (first | (with_reducible first | exact HB.out | apply bA | apply bN | apply bD | refine bS ?_ GE295.out | refine bS ?_ GE296.out | refine bS ?_ GE303.out | refine bS ?_ GE310.out) | exact HB.out))) : w.heap.size ≤ gb316)); have n9_ := A0m ((by rw [hg]; exact Nat.ne_of_lt (blk_lt (g := gb295) (o := .cells #[.int .i64 a0_0, .int .i64 a0_1, .int .i64 a0_2] 36 (0, 0)) (by (with_reducible repeat (first | refine kN ?_ _ | refine kD ?_ | refine kA ?_ _)); exact BK295.out)) : gb295 ≠ gb316)); have n10_ := A0m ((by rw [hg]; exact Nat.ne_of_gt (blk_lt (g := gb295) (o := .cells #[.int .i64 a0_0, .int .i64 a0_1, .int .i64 a0_2] 36 (0, 0)) (by (with_reducible repeat (first | refine kN ?_ _ | refine kD ?_ | refine kA ?_ _)); exact BK295.out)) : gb316 ≠ gb295)); have n11_ := A0m ((by rw [hg]; exact Nat.ne_of_lt (blk_lt (g := gb296) (o := .cells #[.int .i64 a2_0, .int .i64 a2_1, .int .i64 a2_2, .int .i64 a2_3, .int .i64 a2_4] 41 (0, 0)) (by (with_reducible repeat (first | refine kN ?_ _ | refine kD ?_ | refine kA ?_ _)); exact BK296.out)) : gb296 ≠ gb316)); have n12_ := A0m ((by rw [hg]; exact Nat.ne_of_gt (blk_lt (g := gb296) (o := .cells #[.int .i64 a2_0, .int .i64 a2_1, .int .i64 a2_2, .int .i64 a2_3, .int .i64 a2_4] 41 (0, 0)) (by (with_reducible repeat (first | refine kN ?_ _ | refine kD ?_ | refine kA ?_ _)); exact BK296.out)) : gb316 ≠ gb296)); have n13_ := A0m ((by rw [hg]; exact Nat.ne_of_lt (blk_lt (g := gb303) (o := .cells #[.int .i64 t297, .int .i64 t298, .int .i64 t299, .int .i64 t300, .int .i64 t301] 41 (0, 0)) (by (with_reducible repeat (first | refine kN ?_ _ | refine kD ?_ | refine kA ?_ _)); exact BK303.out)) : gb303 ≠ gb316)); have n14_ := A0m ((by rw [hg]; exact Nat.ne_of_gt (blk_lt (g := gb303) (o := .cells #[.int .i64 t297, .int .i64 t298, .int .i64 t299, .int .i64 t300, .int .i64 t301] 41 (0, 0)) (by (with_reducible repeat (first | refine kN ?_ _ | refine kD ?_ | refine kA ?_ _)); exact BK303.out)) : gb316 ≠ gb303)); have n15_ := A0m ((by rw [hg]; exact Nat.ne_of_lt (blk_lt (g := gb310) (o := .cells #[.int .i64 t304, .int .i64 t305, .int .i64 t306, .int .i64 t307, .int .i64 t308] 38 (0, 0)) (by (with_reducible repeat (first | refine kN ?_ _ | refine kD ?_ | refine kA ?_ _)); exact BK310.out)) : gb310 ≠ gb316)); have n16_ := A0m ((by rw [hg]; exact Nat.ne_of_gt (blk_lt (g := gb310) (o := .cells #[.int .i64 t304, .int .i64 t305, .int .i64 t306, .int .i64 t307, .int .i64 t308] 38 (0, 0)) (by (with_reducible repeat (first | refine kN ?_ _ | refine kD ?_ | refine kA ?_ _)); exact BK310.out)) : gb316 ≠ gb310)); clear HO_42; clear BK295; clear BK296; clear BK303; clear BK310; clear HB; have HO_42 := n0_; have BK295 := n1_; have BK296 := n2_; have BK303 := n3_; have BK310 := n4_; have HB := n5_; have BK316 := n6_; have GW316 := n7_; have GE316 := n8_; have NB295_316 := n9_; have NB316_295 := n10_; have NB296_316 := n11_; have NB316_296 := n12_; have NB303_316 := n13_; have NB316_303 := n14_; have NB310_316 := n15_; have NB316_310 := n16_; clear n0_ n1_ n2_ n3_ n4_ n5_ n6_ n7_ n8_ n9_ n10_ n11_ n12_ n13_ n14_ n15_ n16_; clear hb hbox hg; have hnb94 := NB316_295.out; have hnc94 := NB295_316.out; have hnb95 := NB316_296.out; have hnc95 := NB296_316.out; have hnb96 := NB316_303.out; have hnc96 := NB303_316.out; have hnb97 := NB316_310.out; have hnc97 := NB310_316.out; have hcz98_0 : w93.cell? ⟨gb316, 0, none⟩ = some (.int .i64 0) := (blk_cell BK316.out 0).trans rfl; have hcz98_1 : w93.cell? ⟨gb316, 1, none⟩ = some (.int .i64 0) := (blk_cell BK316.out 1).trans rfl; have hcz98_2 : w93.cell? ⟨gb316, 2, none⟩ = some (.int .i64 0) := (blk_cell BK316.out 2).trans rfl; have hcz98_3 : w93.cell? ⟨gb316, 3, none⟩ = some (.int .i64 0) := (blk_cell BK316.out 3).trans rfl; have hcz98_4 : w93.cell? ⟨gb316, 4, none⟩ = some (.int .i64 0) := (blk_cell BK316.out 4).trans rfl; have hfz98_0 := blk_frozen BK316.out 0; have hfz98_1 := blk_frozen BK316.out 1; have hfz98_2 := blk_frozen BK316.out 2; have hfz98_3 := blk_frozen BK316.out 3; have hfz98_4 := blk_frozen BK316.out 4) | ((with_reducible refine gate_callee (f := 20) rfl ?_); refine goesL_ (some 50) rfl rfl Tryd.func20 (by kernel_rfl) rfl #[.agg #[.int .i64 ((rd_T41 y311 x44_2).f0), .int .i64 ((rd_T41 y311 x44_2).f1), .int .i64 ((rd_T41 y311 x44_2).f2), .int .i64 ((rd_T41 y311 x44_2).f3), .int .i64 ((rd_T41 y311 x44_2).f4)]] rfl (by (try simp only [List.map_toArray, List.map_cons, List.map_nil]); first | done | rfl | (simp only [List.length_drop, List.length_take]; rfl)) ?_; (with_reducible refine (settle_Posts.calls k2 ((rd_T41 y311 x44_2).f0) ((rd_T41 y311 x44_2).f1) ((rd_T41 y311 x44_2).f2) ((rd_T41 y311 x44_2).f3) ((rd_T41 y311 x44_2).f4) t317 t320 _ A52.out).mono ?_); rintro e w99 ⟨v318, rfl, ho0, hb⟩; refine ⟨_, rfl, ?_⟩; have n0_ := A0m (Kd.R_below (by (with_reducible repeat (first | apply rA | apply rN | apply rD)); exact (Kd.R_mono (Kd.R_far (p := ⟨gb316, 4, none⟩) (Kd.R_far (p := ⟨gb316, 3, none⟩) (Kd.R_far (p := ⟨gb316, 2, none⟩) (Kd.R_far (p := ⟨gb316, 1, none⟩) (Kd.R_far (p := ⟨gb316, 0, none⟩) (Kd.R_mono HO_42.out (fun k_ hk => (⟨hk, hk.2⟩ : _ ∧ k_ ≠ gb316))) (fun _ hk => hk.2) (.int .i64 ((rd_T41 y311 x44_2).f0))) (fun _ hk => hk.2) (.int .i64 ((rd_T41 y311 x44_2).f1))) (fun _ hk => hk.2) (.int .i64 ((rd_T41 y311 x44_2).f2))) (fun _ hk => hk.2) (.int .i64 ((rd_T41 y311 x44_2).f3))) (fun _ hk => hk.2) (.int .i64 ((rd_T41 y311 x44_2).f4))) (fun _ h_ => h_.1))) hb); have n1_ := A0m (Kd.R_lower ho0 (below_size (by repeat (first | (with_reducible first | exact HB.out | apply bA | apply bN | apply bD | refine bS ?_ GE295.out | refine bS ?_ GE296.out | refine bS ?_ GE303.out | refine bS ?_ GE310.out | refine bS ?_ GE316.out) | exact HB.out)))); have n2_ := A0m (blk_below (g := gb295) (o := .cells #[.int .i64 a0_0, .int .i64 a0_1, .int .i64 a0_2] 36 (0, 0)) (by (with_reducible repeat (first | refine kN ?_ _ | refine kD ?_ | refine kA ?_ _)); refine blk_far ?_ NB295_316.out _; (with_reducible repeat (first | refine kN ?_ _ | refine kD ?_ | refine kA ?_ _)); refine blk_far ?_ NB295_316.out _; (with_reducible repeat (first | refine kN ?_ _ | refine kD ?_ | refine kA ?_ _)); refine blk_far ?_ NB295_316.out _; (with_reducible repeat (first | refine kN ?_ _ | refine kD ?_ | refine kA ?_ _)); refine blk_far ?_ NB295_316.out _; (with_reducible repeat (first | refine kN ?_ _ | refine kD ?_ | refine kA ?_ _)); refine blk_far ?_ NB295_316.out _; (with_reducible repeat (first | refine kN ?_ _ | refine kD ?_ | refine kA ?_ _)); exact BK295.out) hb); have n3_ := A0m (blk_below (g := gb296) (o := .cells #[.int .i64 a2_0, .int .i64 a2_1, .int .i64 a2_2, .int .i64 a2_3, .int .i64 a2_4] 41 (0, 0)) (by (with_reducible repeat (first | refine kN ?_ _ | refine kD ?_ | refine kA ?_ _)); refine blk_far ?_ NB296_316.out _; (with_reducible repeat (first | refine kN ?_ _ | refine kD ?_ | refine kA ?_ _)); refine blk_far ?_ NB296_316.out _; (with_reducible repeat (first | refine kN ?_ _ | refine kD ?_ | refine kA ?_ _)); refine blk_far ?_ NB296_316.out _; (with_reducible repeat (first | refine kN ?_ _ | refine kD ?_ | refine kA ?_ _)); refine blk_far ?_ NB296_316.out _; (with_reducible repeat (first | refine kN ?_ _ | refine kD ?_ | refine kA ?_ _)); refine blk_far ?_ NB296_316.out _; (with_reducible repeat (first | refine kN ?_ _ | refine kD ?_ | refine kA ?_ _)); exact BK296.out) hb); have n4_ := A0m (blk_below (g := gb303) (o := .cells #[.int .i64 t297, .int .i64 t298, .int .i64 t299, .int .i64 t300, .int .i64 t301] 41 (0, 0)) (by (with_reducible repeat (first | refine kN ?_ _ | refine kD ?_ | refine kA ?_ _)); refine blk_far ?_ NB303_316.out _; (with_reducible repeat (first | refine kN ?_ _ | refine kD ?_ | refine kA ?_ _)); refine blk_far ?_ NB303_316.out _; (with_reducible repeat (first | refine kN ?_ _ | refine kD ?_ | refine kA ?_ _)); refine blk_far ?_ NB303_316.out _; (with_reducible repeat (first | refine kN ?_ _ | refine kD ?_ | refine kA ?_ _)); refine blk_far ?_ NB303_316.out _; (with_reducible repeat (first | refine kN ?_ _ | refine kD ?_ | refine kA ?_ _)); refine blk_far ?_ NB303_316.out _; (with_reducible repeat (first | refine kN ?_ _ | refine kD ?_ | refine kA ?_ _)); exact BK303.out) hb); have n5_ := A0m (blk_below (g := gb310) (o := .cells #[.int .i64 t304, .int .i64 t305, .int .i64 t306, .int .i64 t307, .int .i64 t308] 38 (0, 0)) (by (with_reducible repeat (first | refine kN ?_ _ | refine kD ?_ | refine kA ?_ _)); refine blk_far ?_ NB310_316.out _; (with_reducible repeat (first | refine kN ?_ _ | refine kD ?_ | refine kA ?_ _)); refine blk_far ?_ NB310_316.out _; (with_reducible repeat (first | refine kN ?_ _ | refine kD ?_ | refine kA ?_ _)); refine blk_far ?_ NB310_316.out _; (with_reducible repeat (first | refine kN ?_ _ | refine kD ?_ | refine kA ?_ _)); refine blk_far ?_ NB310_316.out _; (with_reducible repeat (first | refine kN ?_ _ | refine kD ?_ | refine kA ?_ _)); refine blk_far ?_ NB310_316.out _; (with_reducible repeat (first | refine kN ?_ _ | refine kD ?_ | refine kA ?_ _)); exact BK310.out) hb); have n6_ := A0m (blk_below (g := gb316) (o := .cells #[.int .i64 ((rd_T41 y311 x44_2).f0), .int .i64 ((rd_T41 y311 x44_2).f1), .int .i64 ((rd_T41 y311 x44_2).f2), .int .i64 ((rd_T41 y311 x44_2).f3), .int .i64 ((rd_T41 y311 x44_2).f4)] 41 (0, 0)) (by (with_reducible repeat (first | refine kN ?_ _ | refine kD ?_ | refine kA ?_ _)); refine blk_put (cs := #[.int .i64 ((rd_T41 y311 x44_2).f0), .int .i64 ((rd_T41 y311 x44_2).f1), .int .i64 ((rd_T41 y311 x44_2).f2), .int .i64 ((rd_T41 y311 x44_2).f3), .int .i64 0]) ?_ 4 _ rfl; (with_reducible repeat (first | refine kN ?_ _ | refine kD ?_ | refine kA ?_ _)); refine blk_put (cs := #[.int .i64 ((rd_T41 y311 x44_2).f0), .int .i64 ((rd_T41 y311 x44_2).f1), .int .i64 ((rd_T41 y311 x44_2).f2), .int .i64 0, .int .i64 0]) ?_ 3 _ rfl; (with_reducible repeat (first | refine kN ?_ _ | refine kD ?_ | refine kA ?_ _)); refine blk_put (cs := #[.int .i64 ((rd_T41 y311 x44_2).f0), .int .i64 ((rd_T41 y311 x44_2).f1), .int .i64 0, .int .i64 0, .int .i64 0]) ?_ 2 _ rfl; (with_reducible repeat (first | refine kN ?_ _ | refine kD ?_ | refine kA ?_ _)); refine blk_put (cs := #[.int .i64 ((rd_T41 y311 x44_2).f0), .int .i64 0, .int .i64 0, .int .i64 0, .int .i64 0]) ?_ 1 _ rfl; (with_reducible repeat (first | refine kN ?_ _ | refine kD ?_ | refine kA ?_ _)); refine blk_put (cs := #[.int .i64 0, .int .i64 0, .int .i64 0, .int .i64 0, .int .i64 0]) ?_ 0 _ rfl; (with_reducible repeat (first | refine kN ?_ _ | refine kD ?_ | refine kA ?_ _)); exact BK316.out) hb); have n7_ := A0m (below_step (by repeat (first | (with_reducible first | exact HB.out | apply bA | apply bN | apply bD | refine bS ?_ GE295.out | refine bS ?_ GE296.out | refine bS ?_ GE303.out | refine bS ?_ GE310.out | refine bS ?_ GE316.out) | exact HB.out)) hb); clear HO_42; clear BK295; clear BK296; clear BK303; clear BK310; clear BK316; clear HB; have HO_42 := n0_; have HO319 := n1_; have BK295 := n2_; have BK296 := n3_; have BK303 := n4_; have BK310 := n5_; have BK316 := n6_; have HB := n7_; clear n0_ n1_ n2_ n3_ n4_ n5_ n6_ n7_; (try clear hb); (try clear hb2); (try clear hk); (try clear hi); (try clear ho0); have hcz100_0 : w99.cell? ⟨gb316, 0, none⟩ = some (.int .i64 ((rd_T41 y311 x44_2).f0)) := (blk_cell BK316.out 0).trans rfl; have hcz100_1 : w99.cell? ⟨gb316, 1, none⟩ = some (.int .i64 ((rd_T41 y311 x44_2).f1)) := (blk_cell BK316.out 1).trans rfl; have hcz100_2 : w99.cell? ⟨gb316, 2, none⟩ = some (.int .i64 ((rd_T41 y311 x44_2).f2)) := (blk_cell BK316.out 2).trans rfl; have hcz100_3 : w99.cell? ⟨gb316, 3, none⟩ = some (.int .i64 ((rd_T41 y311 x44_2).f3)) := (blk_cell BK316.out 3).trans rfl; have hcz100_4 : w99.cell? ⟨gb316, 4, none⟩ = some (.int .i64 ((rd_T41 y311 x44_2).f4)) := (blk_cell BK316.out 4).trans rfl; have hfz100_0 := blk_frozen BK316.out 0; have hfz100_1 := blk_frozen BK316.out 1; have hfz100_2 := blk_frozen BK316.out 2; have hfz100_3 := blk_frozen BK316.out 3; have hfz100_4 := blk_frozen BK316.out 4) | ((with_reducible refine gate_callee (f := 21) rfl ?_); refine goesL_ (some 55) rfl rfl Tryd.func21 (by kernel_rfl) rfl #[.agg #[.int .i64 ((rd_T41 y311 x44_2).f0), .int .i64 ((rd_T41 y311 x44_2).f1), .int .i64 ((rd_T41 y311 x44_2).f2), .int .i64 ((rd_T41 y311 x44_2).f3), .int .i64 ((rd_T41 y311 x44_2).f4)]] rfl (by (try simp only [List.map_toArray, List.map_cons, List.map_nil]); first | done | rfl | (simp only [List.length_drop, List.length_take]; rfl)) ?_; (with_reducible refine (octroiref38_Posts.calls k2 ((rd_T41 y311 x44_2).f0) ((rd_T41 y311 x44_2).f1) ((rd_T41 y311 x44_2).f2) ((rd_T41 y311 x44_2).f3) ((rd_T41 y311 x44_2).f4) t321 t324 _ A53.out).mono ?_); rintro e w101 ⟨v322, rfl, ho0, hb⟩; refine ⟨_, rfl, ?_⟩; have n0_ := A0m (Kd.R_below (by (with_reducible repeat (first | apply rA | apply rN | apply rD)); exact HO_42.out) hb); have n1_ := A0m (Kd.R_elder' (by (with_reducible repeat (first | apply rA | apply rN | apply rD)); exact HO319.out) (Kd.R_base ho0) hb); have n2_ := A0m (Kd.R_lower (Kd.R_new' ho0 (Kd.R_lt (by (with_reducible repeat (first | apply rA | apply rN | apply rD)); exact HO319.out))) (below_size (by repeat (first | (with_reducible first | exact HB.out | apply bA | apply bN | apply bD | refine bS ?_ GE295.out | refine bS ?_ GE296.out | refine bS ?_ GE303.out | refine bS ?_ GE310.out | refine bS ?_ GE316.out) | exact HB.out)))); have n3_ := A0m (blk_below (g := gb295) (o := .cells #[.int .i64 a0_0, .int .i64 a0_1, .int .i64 a0_2] 36 (0, 0)) (by (with_reducible repeat (first | refine kN ?_ _ | refine kD ?_ | refine kA ?_ _)); exact BK295.out) hb); have n4_ := A0m (blk_below (g := gb296) (o := .cells #[.int .i64 a2_0, .int .i64 a2_1, .int .i64 a2_2, .int .i64 a2_3, .int .i64 a2_4] 41 (0, 0)) (by (with_reducible repeat (first | refine kN ?_ _ | refine kD ?_ | refine kA ?_ _)); exact BK296.out) hb); have n5_ := A0m (blk_below (g := gb303) (o := .cells #[.int .i64 t297, .int .i64 t298, .int .i64 t299, .int .i64 t300, .int .i64 t301] 41 (0, 0)) (by (with_reducible repeat (first | refine kN ?_ _ | refine kD ?_ | refine kA ?_ _)); exact BK303.out) hb); have n6_ := A0m (blk_below (g := gb310) (o := .cells #[.int .i64 t304, .int .i64 t305, .int .i64 t306, .int .i64 t307, .int .i64 t308] 38 (0, 0)) (by (with_reducible repeat (first | refine kN ?_ _ | refine kD ?_ | refine kA ?_ _)); exact BK310.out) hb); have n7_ := A0m (blk_below (g := gb316) (o := .cells #[.int .i64 ((rd_T41 y311 x44_2).f0), .int .i64 ((rd_T41 y311 x44_2).f1), .int .i64 ((rd_T41 y311 x44_2).f2), .int .i64 ((rd_T41 y311 x44_2).f3), .int .i64 ((rd_T41 y311 x44_2).f4)] 41 (0, 0)) (by (with_reducible repeat (first | refine kN ?_ _ | refine kD ?_ | refine kA ?_ _)); exact BK316.out) hb); have n8_ := A0m (below_step (by repeat (first | (with_reducible first | exact HB.out | apply bA | apply bN | apply bD | refine bS ?_ GE295.out | refine bS ?_ GE296.out | refine bS ?_ GE303.out | refine bS ?_ GE310.out | refine bS ?_ GE316.out) | exact HB.out)) hb); clear HO_42; clear HO319; clear BK295; clear BK296; clear BK303; clear BK310; clear BK316; clear HB; have HO_42 := n0_; have HO319 := n1_; have HO323 := n2_; have BK295 := n3_; have BK296 := n4_; have BK303 := n5_; have BK310 := n6_; have BK316 := n7_; have HB := n8_; clear n0_ n1_ n2_ n3_ n4_ n5_ n6_ n7_ n8_; (try clear hb); (try clear hb2); (try clear hk); (try clear hi); (try clear ho0)))
             have n0_ := A0m (rD HO_42.out)
             have n1_ := A0m (rD HO319.out)
             have n2_ := A0m (rD HO323.out)
             have n3_ := A0m (kD BK295.out)
             have n4_ := A0m (kD BK296.out)
             have n5_ := A0m (kD BK303.out)
             have n6_ := A0m (kD BK310.out)
             have n7_ := A0m (kD BK316.out)
             have n8_ := A0m (bD HB.out)
             clear HO_42
             clear HO319
             clear HO323
             clear BK295
             clear BK296
             clear BK303
             clear BK310
             clear BK316
             clear HB
             have HO_42 := n0_
             have HO319 := n1_
             have HO323 := n2_
             have BK295 := n3_
             have BK296 := n4_
             have BK303 := n5_
             have BK310 := n6_
             have BK316 := n7_
             have HB := n8_
             clear n0_ n1_ n2_ n3_ n4_ n5_ n6_ n7_ n8_
             obtain ⟨Ao103, co103, eo103⟩ := Kd.R_slice HO319.out
             (first | subst eo103 | (injection eo103 with f1_ f2_ f3_; have f4_ := f1_.symm; have f5_ := f3_.symm; clear f1_ f2_ f3_; subst f4_; subst f5_))
             obtain ⟨Ao104, co104, eo104⟩ := Kd.R_slice HO323.out
             (first | subst eo104 | (injection eo104 with f1_ f2_ f3_; have f4_ := f1_.symm; have f5_ := f3_.symm; clear f1_ f2_ f3_; subst f4_; subst f5_))
             refine start_ (n := 23) (S := fun w' => w'.cell? ⟨gb316, 0, none⟩ = some (.int .i64 ((rd_T41 y311 x44_2).f0)) ∧ w'.cell? ⟨gb316, 1, none⟩ = some (.int .i64 ((rd_T41 y311 x44_2).f1)) ∧ w'.cell? ⟨gb316, 2, none⟩ = some (.int .i64 ((rd_T41 y311 x44_2).f2)) ∧ w'.cell? ⟨gb316, 3, none⟩ = some (.int .i64 ((rd_T41 y311 x44_2).f3)) ∧ w'.cell? ⟨gb316, 4, none⟩ = some (.int .i64 ((rd_T41 y311 x44_2).f4))) (ds := []) #[false, false, false, false, false, false, false, false, false, false, false, false, false, false, false, false, false, false, false, false, false, false, false] (by kernel_rfl) rfl rfl ⟨(blk_cell BK316.out 0).trans rfl, (blk_cell BK316.out 1).trans rfl, (blk_cell BK316.out 2).trans rfl, (blk_cell BK316.out 3).trans rfl, (blk_cell BK316.out 4).trans rfl⟩ (fun hHeld => ?_); refine with_tabW octroilaw38_SettleOf.tab10 octroilaw38_SettleOf.bits10 (fun HT_ HW_ => ?_)
             generalize w101.drew = w102 at HO_42 HO319 HO323 BK295 BK296 BK303 BK310 BK316 HB hHeld ⊢
             refine pure_ (i := 0) (N := some 58) (v := ?_) (a' := ?_) #[true, false, false, false, false, false, false, false, false, false, false, false, false, false, false, false, false, false, false, false, false, false, false] rfl rfl (any_of HT_.out (by kernel_rfl)) (fun _ _ _ h => h) (Or.inl ⟨by rfl, ?_⟩) ?_ ?_
             rotate_left
             ·intro w'
              go_simp
              with_reducible rfl
             rotate_left
             ·simp only [Act.put, List.setIfInBounds_toArray, List.set_cons_zero, List.set_cons_succ, i64_w, i32_w]
              rfl
             refine pure_ (i := 1) (N := some 59) (v := ?_) (a' := ?_) #[true, true, false, false, false, false, false, false, false, false, false, false, false, false, false, false, false, false, false, false, false, false, false] rfl rfl (any_of HT_.out (by kernel_rfl)) (fun _ _ _ h => h) (Or.inl ⟨by rfl, ?_⟩) ?_ ?_
             rotate_left
             ·intro w'
              go_simp
              with_reducible rfl
             rotate_left
             ·simp only [Act.put, List.setIfInBounds_toArray, List.set_cons_zero, List.set_cons_succ, i64_w, i32_w]
              rfl
             refine one_ (i := 2) (N := some 60) #[true, true, true, false, false, false, false, false, false, false, false, false, false, false, false, false, false, false, false, false, false, false, false] rfl rfl (one_of HT_.out (by kernel_rfl)) (by decide) (fun K hK => ?_)
             refine goes_ Tryd.func22 (by kernel_rfl) rfl #[.slice Ao103 t317.length co103, .slice Ao104 t321.length co104] (by rfl) rfl rfl (by (try simp only [List.map_toArray, List.map_cons, List.map_nil]); first | done | rfl | (simp only [List.length_drop, List.length_take]; rfl)) ?_
             with_reducible refine (octroilaw38_same.calls k2 _ _ t317 _ _ t321 true _ ?side1 ?side2 ?side3 ?side4 A54.out).mono ?_
             (case side1 => repeat (first | exact (Kd.R_reads' HO319.out).2.2 | (with_reducible refine Kd.C_alloc ?_ _) | (with_reducible refine Kd.C_drewN ?_ _) | (with_reducible refine Kd.C_drew ?_)))
             (case side2 => exact (Kd.R_reads' HO319.out).2.1)
             (case side3 => repeat (first | exact (Kd.R_reads' HO323.out).2.2 | (with_reducible refine Kd.C_alloc ?_ _) | (with_reducible refine Kd.C_drewN ?_ _) | (with_reducible refine Kd.C_drew ?_)))
             (case side4 => exact (Kd.R_reads' HO323.out).2.1)
             rintro e w' ⟨rfl, ⟨nd, rfl⟩⟩
             refine ⟨_, rfl, ?_⟩
             refine hK.out _ _ ⟨(blk_cell BK316.out 0).trans rfl, (blk_cell BK316.out 1).trans rfl, (blk_cell BK316.out 2).trans rfl, (blk_cell BK316.out 3).trans rfl, (blk_cell BK316.out 4).trans rfl⟩ (fun hHeld => ?_)
             clear hK K
             refine norm_ (a' := ?_) ?_ ?_
             rotate_left
             ·show Act.put _ (some 60) _ = _
              simp only [Act.put, List.setIfInBounds_toArray, List.set_cons_zero, List.set_cons_succ, i64_w, i32_w]
              rfl
             refine pure_ (i := 3) (N := some 61) (v := ?_) (a' := ?_) #[true, true, true, true, false, false, false, false, false, false, false, false, false, false, false, false, false, false, false, false, false, false, false] rfl rfl (any_of HT_.out (by kernel_rfl)) (fun _ _ _ h => h) (Or.inl ⟨by rfl, ?_⟩) ?_ ?_
             rotate_left
             ·intro w'
              go_simp
              with_reducible rfl
             rotate_left
             ·simp only [Act.put, List.setIfInBounds_toArray, List.set_cons_zero, List.set_cons_succ, i64_w, i32_w]
              rfl
             refine pure_ (i := 4) (N := some 62) (v := ?_) (a' := ?_) #[true, true, true, true, true, false, false, false, false, false, false, false, false, false, false, false, false, false, false, false, false, false, false] rfl rfl (any_of HT_.out (by kernel_rfl)) (fun _ _ _ h => h) (Or.inl ⟨by rfl, ?_⟩) ?_ ?_
             rotate_left
             ·intro w'
              go_simp
              with_reducible rfl
             rotate_left
             ·simp only [Act.put, List.setIfInBounds_toArray, List.set_cons_zero, List.set_cons_succ, i64_w, i32_w]
              rfl
             refine pure_ (i := 5) (N := some 63) (v := ?_) (a' := ?_) #[true, true, true, true, true, true, false, false, false, false, false, false, false, false, false, false, false, false, false, false, false, false, false] rfl rfl (any_of HT_.out (by kernel_rfl)) (fun _ _ _ h => h) (Or.inl ⟨by rfl, ?_⟩) ?_ ?_
             rotate_left
             ·intro w'
              go_simp
              with_reducible rfl
             rotate_left
             ·simp only [Act.put, List.setIfInBounds_toArray, List.set_cons_zero, List.set_cons_succ, i64_w, i32_w]
              rfl
             refine pure_ (i := 6) (N := some 64) (v := ?_) (a' := ?_) #[true, true, true, true, true, true, true, false, false, false, false, false, false, false, false, false, false, false, false, false, false, false, false] rfl rfl (any_of HT_.out (by kernel_rfl)) (fun _ _ _ h => h) (Or.inl ⟨by rfl, ?_⟩) ?_ ?_
             rotate_left
             ·intro w'
              go_simp
              with_reducible rfl
             rotate_left
             ·simp only [Act.put, List.setIfInBounds_toArray, List.set_cons_zero, List.set_cons_succ, i64_w, i32_w]
              rfl
             refine pure_ (i := 7) (N := some 65) (v := ?_) (a' := ?_) #[true, true, true, true, true, true, true, true, false, false, false, false, false, false, false, false, false, false, false, false, false, false, false] rfl rfl (any_of HT_.out (by kernel_rfl)) (fun _ _ _ h => h) (Or.inl ⟨by rfl, ?_⟩) ?_ ?_
             rotate_left
             ·intro w'
              go_simp
              with_reducible rfl
             rotate_left
             ·simp only [Act.put, List.setIfInBounds_toArray, List.set_cons_zero, List.set_cons_succ, i64_w, i32_w]
              rfl
             refine pure_ (i := 8) (N := some 66) (v := ?_) (a' := ?_) #[true, true, true, true, true, true, true, true, true, false, false, false, false, false, false, false, false, false, false, false, false, false, false] rfl rfl (any_of HT_.out (by kernel_rfl)) (fun _ _ _ h => h) (Or.inl ⟨by rfl, ?_⟩) ?_ ?_
             rotate_left
             ·intro w'
              go_simp
              with_reducible rfl
             rotate_left
             ·simp only [Act.put, List.setIfInBounds_toArray, List.set_cons_zero, List.set_cons_succ, i64_w, i32_w]
              rfl
             refine pure_ (i := 9) (N := some 67) (v := ?_) (a' := ?_) #[true, true, true, true, true, true, true, true, true, true, false, false, false, false, false, false, false, false, false, false, false, false, false] rfl rfl (any_of HT_.out (by kernel_rfl)) (fun _ _ _ h => h) (Or.inl ⟨by rfl, ?_⟩) ?_ ?_
             rotate_left
             ·intro w'
              go_simp
              with_reducible rfl
             rotate_left
             ·simp only [Act.put, List.setIfInBounds_toArray, List.set_cons_zero, List.set_cons_succ, i64_w, i32_w]
              rfl
             refine take_ (i := 10) (N := some 68) (v := ?_) (a' := ?_) #[true, true, true, true, true, true, true, true, true, true, true, false, false, false, false, false, false, false, false, false, false, false, false] rfl rfl (take_ofW HT_.out HW_.out (by kernel_rfl)) (fun _ _ _ h => h) (Or.inl ⟨by rfl, ?_⟩) hHeld ?_ ?_
             rotate_left
             ·rintro w' ⟨s0, s1, s2, s3, s4⟩
              go_simp
              with_reducible rfl
             rotate_left
             ·simp only [Act.put, List.setIfInBounds_toArray, List.set_cons_zero, List.set_cons_succ, i64_w, i32_w]
              rfl
             refine take_ (i := 12) (N := some 70) (v := ?_) (a' := ?_) #[true, true, true, true, true, true, true, true, true, true, true, false, true, false, false, false, false, false, false, false, false, false, false] rfl rfl (take_ofW HT_.out HW_.out (by kernel_rfl)) (fun _ _ _ h => h) (Or.inl ⟨by rfl, ?_⟩) hHeld ?_ ?_
             rotate_left
             ·rintro w' ⟨s0, s1, s2, s3, s4⟩
              go_simp
              with_reducible rfl
             rotate_left
             ·simp only [Act.put, List.setIfInBounds_toArray, List.set_cons_zero, List.set_cons_succ, i64_w, i32_w]
              rfl
             refine one_ (i := 11) (N := some 69) #[true, true, true, true, true, true, true, true, true, true, true, true, true, false, false, false, false, false, false, false, false, false, false] rfl rfl (one_of HT_.out (by kernel_rfl)) (by decide) (fun K hK => ?_)
             refine goes_ Tryd.func23 (by kernel_rfl) rfl #[.agg #[.int .i64 ((rd_T41 y311 x44_2).f0), .int .i64 ((rd_T41 y311 x44_2).f1), .int .i64 ((rd_T41 y311 x44_2).f2), .int .i64 ((rd_T41 y311 x44_2).f3), .int .i64 ((rd_T41 y311 x44_2).f4)]] (by rfl) rfl rfl (by (try simp only [List.map_toArray, List.map_cons, List.map_nil]); first | done | rfl | (simp only [List.length_drop, List.length_take]; rfl)) ?_
             with_reducible refine (settle_Good.calls k2 ((rd_T41 y311 x44_2).f0) ((rd_T41 y311 x44_2).f1) ((rd_T41 y311 x44_2).f2) ((rd_T41 y311 x44_2).f3) ((rd_T41 y311 x44_2).f4) t326 _ A57.out).mono ?_
             rintro e w105 ⟨rfl, hb⟩
             refine ⟨_, rfl, ?_⟩
             have n0_ := A0m (Kd.R_below (by (with_reducible repeat (first | apply rA | apply rN | apply rD)); exact HO_42.out) hb)
             have n1_ := A0m (Kd.R_below (by (with_reducible repeat (first | apply rA | apply rN | apply rD)); exact HO319.out) hb)
             have n2_ := A0m (Kd.R_below (by (with_reducible repeat (first | apply rA | apply rN | apply rD)); exact HO323.out) hb)
             have n3_ := A0m (blk_below (g := gb295) (o := .cells #[.int .i64 a0_0, .int .i64 a0_1, .int .i64 a0_2] 36 (0, 0)) (by (with_reducible repeat (first | refine kN ?_ _ | refine kD ?_ | refine kA ?_ _)); exact BK295.out) hb)
             have n4_ := A0m (blk_below (g := gb296) (o := .cells #[.int .i64 a2_0, .int .i64 a2_1, .int .i64 a2_2, .int .i64 a2_3, .int .i64 a2_4] 41 (0, 0)) (by (with_reducible repeat (first | refine kN ?_ _ | refine kD ?_ | refine kA ?_ _)); exact BK296.out) hb)
             have n5_ := A0m (blk_below (g := gb303) (o := .cells #[.int .i64 t297, .int .i64 t298, .int .i64 t299, .int .i64 t300, .int .i64 t301] 41 (0, 0)) (by (with_reducible repeat (first | refine kN ?_ _ | refine kD ?_ | refine kA ?_ _)); exact BK303.out) hb)
             have n6_ := A0m (blk_below (g := gb310) (o := .cells #[.int .i64 t304, .int .i64 t305, .int .i64 t306, .int .i64 t307, .int .i64 t308] 38 (0, 0)) (by (with_reducible repeat (first | refine kN ?_ _ | refine kD ?_ | refine kA ?_ _)); exact BK310.out) hb)
             have n7_ := A0m (blk_below (g := gb316) (o := .cells #[.int .i64 ((rd_T41 y311 x44_2).f0), .int .i64 ((rd_T41 y311 x44_2).f1), .int .i64 ((rd_T41 y311 x44_2).f2), .int .i64 ((rd_T41 y311 x44_2).f3), .int .i64 ((rd_T41 y311 x44_2).f4)] 41 (0, 0)) (by (with_reducible repeat (first | refine kN ?_ _ | refine kD ?_ | refine kA ?_ _)); exact BK316.out) hb)
             have n8_ := A0m (below_step (by repeat (first | (with_reducible first | exact HB.out | apply bA | apply bN | apply bD | refine bS ?_ GE295.out | refine bS ?_ GE296.out | refine bS ?_ GE303.out | refine bS ?_ GE310.out | refine bS ?_ GE316.out) | exact HB.out)) hb)
             clear HO_42
             clear HO319
             clear HO323
             clear BK295
             clear BK296
             clear BK303
             clear BK310
             clear BK316
             clear HB
             have HO_42 := n0_
             have HO319 := n1_
             have HO323 := n2_
             have BK295 := n3_
             have BK296 := n4_
             have BK303 := n5_
             have BK310 := n6_
             have BK316 := n7_
             have HB := n8_
             clear n0_ n1_ n2_ n3_ n4_ n5_ n6_ n7_ n8_
             (try clear hb)
             (try clear hb2)
             (try clear hk)
             (try clear hi)
             refine hK.out _ _ ⟨(blk_cell BK316.out 0).trans rfl, (blk_cell BK316.out 1).trans rfl, (blk_cell BK316.out 2).trans rfl, (blk_cell BK316.out 3).trans rfl, (blk_cell BK316.out 4).trans rfl⟩ (fun hHeld => ?_)
             clear hK K
             refine norm_ (a' := ?_) ?_ ?_
             rotate_left
             ·show Act.put _ (some 69) _ = _
              simp only [Act.put, List.setIfInBounds_toArray, List.set_cons_zero, List.set_cons_succ, i64_w, i32_w]
              rfl
             refine one_ (i := 13) (N := some 71) #[true, true, true, true, true, true, true, true, true, true, true, true, true, true, false, false, false, false, false, false, false, false, false] rfl rfl (one_of HT_.out (by kernel_rfl)) (by decide) (fun K hK => ?_)
             refine goes_ Tryd.func24 (by kernel_rfl) rfl #[.agg #[.int .i64 ((rd_T41 y311 x44_2).f0), .int .i64 ((rd_T41 y311 x44_2).f1), .int .i64 ((rd_T41 y311 x44_2).f2), .int .i64 ((rd_T41 y311 x44_2).f3), .int .i64 ((rd_T41 y311 x44_2).f4)]] (by rfl) rfl rfl (by (try simp only [List.map_toArray, List.map_cons, List.map_nil]); first | done | rfl | (simp only [List.length_drop, List.length_take]; rfl)) ?_
             with_reducible refine (octroiref38_Good.calls k2 ((rd_T41 y311 x44_2).f0) ((rd_T41 y311 x44_2).f1) ((rd_T41 y311 x44_2).f2) ((rd_T41 y311 x44_2).f3) ((rd_T41 y311 x44_2).f4) t327 _ A58.out).mono ?_
             rintro e w106 ⟨rfl, hb⟩
             refine ⟨_, rfl, ?_⟩
             have n0_ := A0m (Kd.R_below (by (with_reducible repeat (first | apply rA | apply rN | apply rD)); exact HO_42.out) hb)
             have n1_ := A0m (Kd.R_below (by (with_reducible repeat (first | apply rA | apply rN | apply rD)); exact HO319.out) hb)
             have n2_ := A0m (Kd.R_below (by (with_reducible repeat (first | apply rA | apply rN | apply rD)); exact HO323.out) hb)
             have n3_ := A0m (blk_below (g := gb295) (o := .cells #[.int .i64 a0_0, .int .i64 a0_1, .int .i64 a0_2] 36 (0, 0)) (by (with_reducible repeat (first | refine kN ?_ _ | refine kD ?_ | refine kA ?_ _)); exact BK295.out) hb)
             have n4_ := A0m (blk_below (g := gb296) (o := .cells #[.int .i64 a2_0, .int .i64 a2_1, .int .i64 a2_2, .int .i64 a2_3, .int .i64 a2_4] 41 (0, 0)) (by (with_reducible repeat (first | refine kN ?_ _ | refine kD ?_ | refine kA ?_ _)); exact BK296.out) hb)
             have n5_ := A0m (blk_below (g := gb303) (o := .cells #[.int .i64 t297, .int .i64 t298, .int .i64 t299, .int .i64 t300, .int .i64 t301] 41 (0, 0)) (by (with_reducible repeat (first | refine kN ?_ _ | refine kD ?_ | refine kA ?_ _)); exact BK303.out) hb)
             have n6_ := A0m (blk_below (g := gb310) (o := .cells #[.int .i64 t304, .int .i64 t305, .int .i64 t306, .int .i64 t307, .int .i64 t308] 38 (0, 0)) (by (with_reducible repeat (first | refine kN ?_ _ | refine kD ?_ | refine kA ?_ _)); exact BK310.out) hb)
             have n7_ := A0m (blk_below (g := gb316) (o := .cells #[.int .i64 ((rd_T41 y311 x44_2).f0), .int .i64 ((rd_T41 y311 x44_2).f1), .int .i64 ((rd_T41 y311 x44_2).f2), .int .i64 ((rd_T41 y311 x44_2).f3), .int .i64 ((rd_T41 y311 x44_2).f4)] 41 (0, 0)) (by (with_reducible repeat (first | refine kN ?_ _ | refine kD ?_ | refine kA ?_ _)); exact BK316.out) hb)
             have n8_ := A0m (below_step (by repeat (first | (with_reducible first | exact HB.out | apply bA | apply bN | apply bD | refine bS ?_ GE295.out | refine bS ?_ GE296.out | refine bS ?_ GE303.out | refine bS ?_ GE310.out | refine bS ?_ GE316.out) | exact HB.out)) hb)
             clear HO_42
             clear HO319
             clear HO323
             clear BK295
             clear BK296
             clear BK303
             clear BK310
             clear BK316
             clear HB
             have HO_42 := n0_
             have HO319 := n1_
             have HO323 := n2_
             have BK295 := n3_
             have BK296 := n4_
             have BK303 := n5_
             have BK310 := n6_
             have BK316 := n7_
             have HB := n8_
             clear n0_ n1_ n2_ n3_ n4_ n5_ n6_ n7_ n8_
             (try clear hb)
             (try clear hb2)
             (try clear hk)
             (try clear hi)
             refine hK.out _ _ ⟨(blk_cell BK316.out 0).trans rfl, (blk_cell BK316.out 1).trans rfl, (blk_cell BK316.out 2).trans rfl, (blk_cell BK316.out 3).trans rfl, (blk_cell BK316.out 4).trans rfl⟩ (fun hHeld => ?_)
             clear hK K
             refine norm_ (a' := ?_) ?_ ?_
             rotate_left
             ·show Act.put _ (some 71) _ = _
              simp only [Act.put, List.setIfInBounds_toArray, List.set_cons_zero, List.set_cons_succ, i64_w, i32_w]
              rfl
             refine pure_ (i := 14) (N := some 72) (v := ?_) (a' := ?_) #[true, true, true, true, true, true, true, true, true, true, true, true, true, true, true, false, false, false, false, false, false, false, false] rfl rfl (any_of HT_.out (by kernel_rfl)) (fun _ _ _ h => h) (Or.inl ⟨by rfl, ?_⟩) ?_ ?_
             rotate_left
             ·intro w'
              go_simp
              with_reducible rfl
             rotate_left
             ·simp only [Act.put, List.setIfInBounds_toArray, List.set_cons_zero, List.set_cons_succ, i64_w, i32_w]
              rfl
             refine pure_ (i := 15) (N := some 73) (v := ?_) (a' := ?_) #[true, true, true, true, true, true, true, true, true, true, true, true, true, true, true, true, false, false, false, false, false, false, false] rfl rfl (any_of HT_.out (by kernel_rfl)) (fun _ _ _ h => h) (Or.inl ⟨by rfl, ?_⟩) ?_ ?_
             rotate_left
             ·intro w'
              go_simp
              with_reducible rfl
             rotate_left
             ·simp only [Act.put, List.setIfInBounds_toArray, List.set_cons_zero, List.set_cons_succ, i64_w, i32_w]
              rfl
             refine pure_ (i := 16) (N := some 74) (v := ?_) (a' := ?_) #[true, true, true, true, true, true, true, true, true, true, true, true, true, true, true, true, true, false, false, false, false, false, false] rfl rfl (any_of HT_.out (by kernel_rfl)) (fun _ _ _ h => h) (Or.inl ⟨by rfl, ?_⟩) ?_ ?_
             rotate_left
             ·intro w'
              go_simp
              with_reducible rfl
             rotate_left
             ·simp only [Act.put, List.setIfInBounds_toArray, List.set_cons_zero, List.set_cons_succ, i64_w, i32_w]
              rfl
             refine take_ (i := 17) (N := some 75) (v := ?_) (a' := ?_) #[true, true, true, true, true, true, true, true, true, true, true, true, true, true, true, true, true, true, false, false, false, false, false] rfl rfl (take_ofW HT_.out HW_.out (by kernel_rfl)) (fun _ _ _ h => h) (Or.inl ⟨by rfl, ?_⟩) hHeld ?_ ?_
             rotate_left
             ·rintro w' ⟨s0, s1, s2, s3, s4⟩
              go_simp
              with_reducible rfl
             rotate_left
             ·simp only [Act.put, List.setIfInBounds_toArray, List.set_cons_zero, List.set_cons_succ, i64_w, i32_w]
              rfl
             refine take_ (i := 19) (N := some 77) (v := ?_) (a' := ?_) #[true, true, true, true, true, true, true, true, true, true, true, true, true, true, true, true, true, true, false, true, false, false, false] rfl rfl (take_ofW HT_.out HW_.out (by kernel_rfl)) (fun _ _ _ h => h) (Or.inl ⟨by rfl, ?_⟩) hHeld ?_ ?_
             rotate_left
             ·rintro w' ⟨s0, s1, s2, s3, s4⟩
              go_simp
              with_reducible rfl
             rotate_left
             ·simp only [Act.put, List.setIfInBounds_toArray, List.set_cons_zero, List.set_cons_succ, i64_w, i32_w]
              rfl
             refine one_ (i := 18) (N := some 76) #[true, true, true, true, true, true, true, true, true, true, true, true, true, true, true, true, true, true, true, true, false, false, false] rfl rfl (one_of HT_.out (by kernel_rfl)) (by decide) (fun K hK => ?_)
             refine goes_ Tryd.func25 (by kernel_rfl) rfl #[.agg #[.int .i64 ((rd_T41 y311 x44_2).f0), .int .i64 ((rd_T41 y311 x44_2).f1), .int .i64 ((rd_T41 y311 x44_2).f2), .int .i64 ((rd_T41 y311 x44_2).f3), .int .i64 ((rd_T41 y311 x44_2).f4)]] (by rfl) rfl rfl (by (try simp only [List.map_toArray, List.map_cons, List.map_nil]); first | done | rfl | (simp only [List.length_drop, List.length_take]; rfl)) ?_
             with_reducible refine (settle_Text.calls ((rd_T41 y311 x44_2).f0) ((rd_T41 y311 x44_2).f1) ((rd_T41 y311 x44_2).f2) ((rd_T41 y311 x44_2).f3) ((rd_T41 y311 x44_2).f4) t328 _ ?side1 A74.out).mono ?_
             (case side1 => exact BX.Tab.below HTab_.out (by repeat (first | (with_reducible first | exact HB.out | apply bA | apply bN | apply bD | refine bS ?_ GE295.out | refine bS ?_ GE296.out | refine bS ?_ GE303.out | refine bS ?_ GE310.out | refine bS ?_ GE316.out) | exact HB.out)))
             rintro e w107 ⟨rfl, hb⟩
             refine ⟨_, rfl, ?_⟩
             have n0_ := A0m (Kd.R_below (by (with_reducible repeat (first | apply rA | apply rN | apply rD)); exact HO_42.out) hb)
             have n1_ := A0m (Kd.R_below (by (with_reducible repeat (first | apply rA | apply rN | apply rD)); exact HO319.out) hb)
             have n2_ := A0m (Kd.R_below (by (with_reducible repeat (first | apply rA | apply rN | apply rD)); exact HO323.out) hb)
             have n3_ := A0m (blk_below (g := gb295) (o := .cells #[.int .i64 a0_0, .int .i64 a0_1, .int .i64 a0_2] 36 (0, 0)) (by (with_reducible repeat (first | refine kN ?_ _ | refine kD ?_ | refine kA ?_ _)); exact BK295.out) hb)
             have n4_ := A0m (blk_below (g := gb296) (o := .cells #[.int .i64 a2_0, .int .i64 a2_1, .int .i64 a2_2, .int .i64 a2_3, .int .i64 a2_4] 41 (0, 0)) (by (with_reducible repeat (first | refine kN ?_ _ | refine kD ?_ | refine kA ?_ _)); exact BK296.out) hb)
             have n5_ := A0m (blk_below (g := gb303) (o := .cells #[.int .i64 t297, .int .i64 t298, .int .i64 t299, .int .i64 t300, .int .i64 t301] 41 (0, 0)) (by (with_reducible repeat (first | refine kN ?_ _ | refine kD ?_ | refine kA ?_ _)); exact BK303.out) hb)
             have n6_ := A0m (blk_below (g := gb310) (o := .cells #[.int .i64 t304, .int .i64 t305, .int .i64 t306, .int .i64 t307, .int .i64 t308] 38 (0, 0)) (by (with_reducible repeat (first | refine kN ?_ _ | refine kD ?_ | refine kA ?_ _)); exact BK310.out) hb)
             have n7_ := A0m (blk_below (g := gb316) (o := .cells #[.int .i64 ((rd_T41 y311 x44_2).f0), .int .i64 ((rd_T41 y311 x44_2).f1), .int .i64 ((rd_T41 y311 x44_2).f2), .int .i64 ((rd_T41 y311 x44_2).f3), .int .i64 ((rd_T41 y311 x44_2).f4)] 41 (0, 0)) (by (with_reducible repeat (first | refine kN ?_ _ | refine kD ?_ | refine kA ?_ _)); exact BK316.out) hb)
             have n8_ := A0m (below_step (by repeat (first | (with_reducible first | exact HB.out | apply bA | apply bN | apply bD | refine bS ?_ GE295.out | refine bS ?_ GE296.out | refine bS ?_ GE303.out | refine bS ?_ GE310.out | refine bS ?_ GE316.out) | exact HB.out)) hb)
             clear HO_42
             clear HO319
             clear HO323
             clear BK295
             clear BK296
             clear BK303
             clear BK310
             clear BK316
             clear HB
             have HO_42 := n0_
             have HO319 := n1_
             have HO323 := n2_
             have BK295 := n3_
             have BK296 := n4_
             have BK303 := n5_
             have BK310 := n6_
             have BK316 := n7_
             have HB := n8_
             clear n0_ n1_ n2_ n3_ n4_ n5_ n6_ n7_ n8_
             (try clear hb)
             (try clear hb2)
             (try clear hk)
             (try clear hi)
             refine hK.out _ _ ⟨(blk_cell BK316.out 0).trans rfl, (blk_cell BK316.out 1).trans rfl, (blk_cell BK316.out 2).trans rfl, (blk_cell BK316.out 3).trans rfl, (blk_cell BK316.out 4).trans rfl⟩ (fun hHeld => ?_)
             clear hK K
             refine norm_ (a' := ?_) ?_ ?_
             rotate_left
             ·show Act.put _ (some 76) _ = _
              simp only [Act.put, List.setIfInBounds_toArray, List.set_cons_zero, List.set_cons_succ, i64_w, i32_w]
              rfl
             refine one_ (i := 20) (N := some 78) #[true, true, true, true, true, true, true, true, true, true, true, true, true, true, true, true, true, true, true, true, true, false, false] rfl rfl (one_of HT_.out (by kernel_rfl)) (by decide) (fun K hK => ?_)
             refine goes_ Tryd.func26 (by kernel_rfl) rfl #[.agg #[.int .i64 ((rd_T41 y311 x44_2).f0), .int .i64 ((rd_T41 y311 x44_2).f1), .int .i64 ((rd_T41 y311 x44_2).f2), .int .i64 ((rd_T41 y311 x44_2).f3), .int .i64 ((rd_T41 y311 x44_2).f4)]] (by rfl) rfl rfl (by (try simp only [List.map_toArray, List.map_cons, List.map_nil]); first | done | rfl | (simp only [List.length_drop, List.length_take]; rfl)) ?_
             with_reducible refine (octroiref38_Text.calls k2 ((rd_T41 y311 x44_2).f0) ((rd_T41 y311 x44_2).f1) ((rd_T41 y311 x44_2).f2) ((rd_T41 y311 x44_2).f3) ((rd_T41 y311 x44_2).f4) t329 _ A75.out).mono ?_
             rintro e w108 ⟨rfl, hb⟩
             refine ⟨_, rfl, ?_⟩
             have n0_ := A0m (Kd.R_below (by (with_reducible repeat (first | apply rA | apply rN | apply rD)); exact HO_42.out) hb)
             have n1_ := A0m (Kd.R_below (by (with_reducible repeat (first | apply rA | apply rN | apply rD)); exact HO319.out) hb)
             have n2_ := A0m (Kd.R_below (by (with_reducible repeat (first | apply rA | apply rN | apply rD)); exact HO323.out) hb)
             have n3_ := A0m (blk_below (g := gb295) (o := .cells #[.int .i64 a0_0, .int .i64 a0_1, .int .i64 a0_2] 36 (0, 0)) (by (with_reducible repeat (first | refine kN ?_ _ | refine kD ?_ | refine kA ?_ _)); exact BK295.out) hb)
             have n4_ := A0m (blk_below (g := gb296) (o := .cells #[.int .i64 a2_0, .int .i64 a2_1, .int .i64 a2_2, .int .i64 a2_3, .int .i64 a2_4] 41 (0, 0)) (by (with_reducible repeat (first | refine kN ?_ _ | refine kD ?_ | refine kA ?_ _)); exact BK296.out) hb)
             have n5_ := A0m (blk_below (g := gb303) (o := .cells #[.int .i64 t297, .int .i64 t298, .int .i64 t299, .int .i64 t300, .int .i64 t301] 41 (0, 0)) (by (with_reducible repeat (first | refine kN ?_ _ | refine kD ?_ | refine kA ?_ _)); exact BK303.out) hb)
             have n6_ := A0m (blk_below (g := gb310) (o := .cells #[.int .i64 t304, .int .i64 t305, .int .i64 t306, .int .i64 t307, .int .i64 t308] 38 (0, 0)) (by (with_reducible repeat (first | refine kN ?_ _ | refine kD ?_ | refine kA ?_ _)); exact BK310.out) hb)
             have n7_ := A0m (blk_below (g := gb316) (o := .cells #[.int .i64 ((rd_T41 y311 x44_2).f0), .int .i64 ((rd_T41 y311 x44_2).f1), .int .i64 ((rd_T41 y311 x44_2).f2), .int .i64 ((rd_T41 y311 x44_2).f3), .int .i64 ((rd_T41 y311 x44_2).f4)] 41 (0, 0)) (by (with_reducible repeat (first | refine kN ?_ _ | refine kD ?_ | refine kA ?_ _)); exact BK316.out) hb)
             have n8_ := A0m (below_step (by repeat (first | (with_reducible first | exact HB.out | apply bA | apply bN | apply bD | refine bS ?_ GE295.out | refine bS ?_ GE296.out | refine bS ?_ GE303.out | refine bS ?_ GE310.out | refine bS ?_ GE316.out) | exact HB.out)) hb)
             clear HO_42
             clear HO319
             clear HO323
             clear BK295
             clear BK296
             clear BK303
             clear BK310
             clear BK316
             clear HB
             have HO_42 := n0_
             have HO319 := n1_
             have HO323 := n2_
             have BK295 := n3_
             have BK296 := n4_
             have BK303 := n5_
             have BK310 := n6_
             have BK316 := n7_
             have HB := n8_
             clear n0_ n1_ n2_ n3_ n4_ n5_ n6_ n7_ n8_
             (try clear hb)
             (try clear hb2)
             (try clear hk)
             (try clear hi)
             refine hK.out _ _ ⟨(blk_cell BK316.out 0).trans rfl, (blk_cell BK316.out 1).trans rfl, (blk_cell BK316.out 2).trans rfl, (blk_cell BK316.out 3).trans rfl, (blk_cell BK316.out 4).trans rfl⟩ (fun hHeld => ?_)
             clear hK K
             refine norm_ (a' := ?_) ?_ ?_
             rotate_left
             ·show Act.put _ (some 78) _ = _
              simp only [Act.put, List.setIfInBounds_toArray, List.set_cons_zero, List.set_cons_succ, i64_w, i32_w]
              rfl
             refine pure_ (i := 21) (N := some 79) (v := ?_) (a' := ?_) #[true, true, true, true, true, true, true, true, true, true, true, true, true, true, true, true, true, true, true, true, true, true, false] rfl rfl (any_of HT_.out (by kernel_rfl)) (fun _ _ _ h => h) (Or.inl ⟨by rfl, ?_⟩) ?_ ?_
             rotate_left
             ·intro w'
              go_simp
              with_reducible rfl
             rotate_left
             ·simp only [Act.put, List.setIfInBounds_toArray, List.set_cons_zero, List.set_cons_succ, i64_w, i32_w]
              rfl
             refine pure_ (i := 22) (N := some 80) (v := ?_) (a' := ?_) #[true, true, true, true, true, true, true, true, true, true, true, true, true, true, true, true, true, true, true, true, true, true, true] rfl rfl (any_of HT_.out (by kernel_rfl)) (fun _ _ _ h => h) (Or.inl ⟨by rfl, ?_⟩) ?_ ?_
             rotate_left
             ·intro w'
              go_simp
              with_reducible rfl
             rotate_left
             ·simp only [Act.put, List.setIfInBounds_toArray, List.set_cons_zero, List.set_cons_succ, i64_w, i32_w]
              rfl
             refine done_ (done_of HT_.out (by kernel_rfl)) ?_
             try go_wp2
             go_ret
             exact ⟨by first | rfl | (simp [errW_none, errW_some] <;> rfl) | (simp [*, errW_none, errW_some] <;> rfl), by repeat (first | (with_reducible first | exact HB.out | apply bA | apply bN | apply bD | refine bS ?_ GE295.out | refine bS ?_ GE296.out | refine bS ?_ GE303.out | refine bS ?_ GE310.out | refine bS ?_ GE316.out) | exact HB.out)⟩
          ·rw [if_neg c56] at H
           have c56b0 : (t320 == t324) = false := beq_eq_false_iff_ne.mpr c56
           have c56b1 : (t320 != t324) = true := bne_iff_ne.mpr c56
           obtain rfl := Option.some.inj H
           have p315 : 0 ≤ (x44_2 : Int) := of_decide_eq_true (by first | (with_reducible assumption) | assumption)
           have q315 : x44_2 < (y311.length : Int) := of_decide_eq_true (by first | (with_reducible assumption) | assumption)
           obtain ⟨ad315, e315, hx315_0, hx315_1, hx315_2, hx315_3, hx315_4⟩ := at_T41 (Kd.R_reads' HO_42.out).2.2 x44_2 p315 q315
           cases e315
           replace p315 := eq_true p315
           replace q315 := eq_true q315
           try go_wp2_with (first | ((with_reducible refine gate_dst (N := 12) rfl ?_); refine box_event ?hg (N := 12) ?hd (cs := #[.int .i64 0, .int .i64 0, .int .i64 0, .int .i64 0, .int .i64 0]) (t := 41) ?hr ?_; (case hd => rfl); (case hg => rfl); (case hr => first | (go_simp; done) | (go_simp; rfl)); intro gb316 hg w109 hbox hb; have n0_ := A0m (Kd.R_below (Kd.R_elderB (by (with_reducible repeat (first | apply rA | apply rN | apply rD)); exact HO_42.out) gb316 (Nat.le_of_eq hg.symm)) hb); have n1_ := A0m (blk_below (g := gb295) (o := .cells #[.int .i64 a0_0, .int .i64 a0_1, .int .i64 a0_2] 36 (0, 0)) (by (with_reducible repeat (first | refine kN ?_ _ | refine kD ?_ | refine kA ?_ _)); exact BK295.out) hb); have n2_ := A0m (blk_below (g := gb296) (o := .cells #[.int .i64 a2_0, .int .i64 a2_1, .int .i64 a2_2, .int .i64 a2_3, .int .i64 a2_4] 41 (0, 0)) (by (with_reducible repeat (first | refine kN ?_ _ | refine kD ?_ | refine kA ?_ _)); exact BK296.out) hb); have n3_ := A0m (blk_below (g := gb303) (o := .cells #[.int .i64 t297, .int .i64 t298, .int .i64 t299, .int .i64 t300, .int .i64 t301] 41 (0, 0)) (by (with_reducible repeat (first | refine kN ?_ _ | refine kD ?_ | refine kA ?_ _)); exact BK303.out) hb); have n4_ := A0m (blk_below (g := gb310) (o := .cells #[.int .i64 t304, .int .i64 t305, .int .i64 t306, .int .i64 t307, .int .i64 t308] 38 (0, 0)) (by (with_reducible repeat (first | refine kN ?_ _ | refine kD ?_ | refine kA ?_ _)); exact BK310.out) hb); have n5_ := A0m (below_step (by repeat (first | (with_reducible first | exact HB.out | apply bA | apply bN | apply bD | refine bS ?_ GE295.out | refine bS ?_ GE296.out | refine bS ?_ GE303.out | refine bS ?_ GE310.out) | exact HB.out)) hb); have n6_ := A0m (hbox); have n7_ := A0m ((by rw [hg]; exact (below_size (by repeat (first | (with_reducible first | exact HB.out | apply bA | apply bN | apply bD | refine bS ?_ GE295.out | refine bS ?_ GE296.out | refine bS ?_ GE303.out | refine bS ?_ GE310.out) | exact HB.out))) : w.heap.size ≤ gb316)); have n8_ := A0m ((by rw [hg]; exact (below_size (by repeat (first | (with_reducible first | exact HB.out | apply bA | apply bN | apply bD | refine bS ?_ GE295.out | refine bS ?_ GE296.out | refine bS ?_ GE303.out | refine bS ?_ GE310.out) | exact HB.out))) : w.heap.size ≤ gb316)); have n9_ := A0m ((by rw [hg]; exact Nat.ne_of_lt (blk_lt (g := gb295) (o := .cells #[.int .i64 a0_0, .int .i64 a0_1, .int .i64 a0_2] 36 (0, 0)) (by (with_reducible repeat (first | refine kN ?_ _ | refine kD ?_ | refine kA ?_ _)); exact BK295.out)) : gb295 ≠ gb316)); have n10_ := A0m ((by rw [hg]; exact Nat.ne_of_gt (blk_lt (g := gb295) (o := .cells #[.int .i64 a0_0, .int .i64 a0_1, .int .i64 a0_2] 36 (0, 0)) (by (with_reducible repeat (first | refine kN ?_ _ | refine kD ?_ | refine kA ?_ _)); exact BK295.out)) : gb316 ≠ gb295)); have n11_ := A0m ((by rw [hg]; exact Nat.ne_of_lt (blk_lt (g := gb296) (o := .cells #[.int .i64 a2_0, .int .i64 a2_1, .int .i64 a2_2, .int .i64 a2_3, .int .i64 a2_4] 41 (0, 0)) (by (with_reducible repeat (first | refine kN ?_ _ | refine kD ?_ | refine kA ?_ _)); exact BK296.out)) : gb296 ≠ gb316)); have n12_ := A0m ((by rw [hg]; exact Nat.ne_of_gt (blk_lt (g := gb296) (o := .cells #[.int .i64 a2_0, .int .i64 a2_1, .int .i64 a2_2, .int .i64 a2_3, .int .i64 a2_4] 41 (0, 0)) (by (with_reducible repeat (first | refine kN ?_ _ | refine kD ?_ | refine kA ?_ _)); exact BK296.out)) : gb316 ≠ gb296)); have n13_ := A0m ((by rw [hg]; exact Nat.ne_of_lt (blk_lt (g := gb303) (o := .cells #[.int .i64 t297, .int .i64 t298, .int .i64 t299, .int .i64 t300, .int .i64 t301] 41 (0, 0)) (by (with_reducible repeat (first | refine kN ?_ _ | refine kD ?_ | refine kA ?_ _)); exact BK303.out)) : gb303 ≠ gb316)); have n14_ := A0m ((by rw [hg]; exact Nat.ne_of_gt (blk_lt (g := gb303) (o := .cells #[.int .i64 t297, .int .i64 t298, .int .i64 t299, .int .i64 t300, .int .i64 t301] 41 (0, 0)) (by (with_reducible repeat (first | refine kN ?_ _ | refine kD ?_ | refine kA ?_ _)); exact BK303.out)) : gb316 ≠ gb303)); have n15_ := A0m ((by rw [hg]; exact Nat.ne_of_lt (blk_lt (g := gb310) (o := .cells #[.int .i64 t304, .int .i64 t305, .int .i64 t306, .int .i64 t307, .int .i64 t308] 38 (0, 0)) (by (with_reducible repeat (first | refine kN ?_ _ | refine kD ?_ | refine kA ?_ _)); exact BK310.out)) : gb310 ≠ gb316)); have n16_ := A0m ((by rw [hg]; exact Nat.ne_of_gt (blk_lt (g := gb310) (o := .cells #[.int .i64 t304, .int .i64 t305, .int .i64 t306, .int .i64 t307, .int .i64 t308] 38 (0, 0)) (by (with_reducible repeat (first | refine kN ?_ _ | refine kD ?_ | refine kA ?_ _)); exact BK310.out)) : gb316 ≠ gb310)); clear HO_42; clear BK295; clear BK296; clear BK303; clear BK310; clear HB; have HO_42 := n0_; have BK295 := n1_; have BK296 := n2_; have BK303 := n3_; have BK310 := n4_; have HB := n5_; have BK316 := n6_; have GW316 := n7_; have GE316 := n8_; have NB295_316 := n9_; have NB316_295 := n10_; have NB296_316 := n11_; have NB316_296 := n12_; have NB303_316 := n13_; have NB316_303 := n14_; have NB310_316 := n15_; have NB316_310 := n16_; clear n0_ n1_ n2_ n3_ n4_ n5_ n6_ n7_ n8_ n9_ n10_ n11_ n12_ n13_ n14_ n15_ n16_; clear hb hbox hg; have hnb110 := NB316_295.out; have hnc110 := NB295_316.out; have hnb111 := NB316_296.out; have hnc111 := NB296_316.out; have hnb112 := NB316_303.out; have hnc112 := NB303_316.out; have hnb113 := NB316_310.out; have hnc113 := NB310_316.out; have hcz114_0 : w109.cell? ⟨gb316, 0, none⟩ = some (.int .i64 0) := (blk_cell BK316.out 0).trans rfl; have hcz114_1 : w109.cell? ⟨gb316, 1, none⟩ = some (.int .i64 0) := (blk_cell BK316.out 1).trans rfl; have hcz114_2 : w109.cell? ⟨gb316, 2, none⟩ = some (.int .i64 0) := (blk_cell BK316.out 2).trans rfl; have hcz114_3 : w109.cell? ⟨gb316, 3, none⟩ = some (.int .i64 0) := (blk_cell BK316.out 3).trans rfl; have hcz114_4 : w109.cell? ⟨gb316, 4, none⟩ = some (.int .i64 0) := (blk_cell BK316.out 4).trans rfl; have hfz114_0 := blk_frozen BK316.out 0; have hfz114_1 := blk_frozen BK316.out 1; have hfz114_2 := blk_frozen BK316.out 2; have hfz114_3 := blk_frozen BK316.out 3; have hfz114_4 := blk_frozen BK316.out 4) | ((with_reducible refine gate_callee (f := 20) rfl ?_); refine goesL_ (some 50) rfl rfl Tryd.func20 (by kernel_rfl) rfl #[.agg #[.int .i64 ((rd_T41 y311 x44_2).f0), .int .i64 ((rd_T41 y311 x44_2).f1), .int .i64 ((rd_T41 y311 x44_2).f2), .int .i64 ((rd_T41 y311 x44_2).f3), .int .i64 ((rd_T41 y311 x44_2).f4)]] rfl (by (try simp only [List.map_toArray, List.map_cons, List.map_nil]); first | done | rfl | (simp only [List.length_drop, List.length_take]; rfl)) ?_; (with_reducible refine (settle_Posts.calls k2 ((rd_T41 y311 x44_2).f0) ((rd_T41 y311 x44_2).f1) ((rd_T41 y311 x44_2).f2) ((rd_T41 y311 x44_2).f3) ((rd_T41 y311 x44_2).f4) t317 t320 _ A52.out).mono ?_); rintro e w115 ⟨v318, rfl, ho0, hb⟩; refine ⟨_, rfl, ?_⟩; have n0_ := A0m (Kd.R_below (by (with_reducible repeat (first | apply rA | apply rN | apply rD)); exact (Kd.R_mono (Kd.R_far (p := ⟨gb316, 4, none⟩) (Kd.R_far (p := ⟨gb316, 3, none⟩) (Kd.R_far (p := ⟨gb316, 2, none⟩) (Kd.R_far (p := ⟨gb316, 1, none⟩) (Kd.R_far (p := ⟨gb316, 0, none⟩) (Kd.R_mono HO_42.out (fun k_ hk => (⟨hk, hk.2⟩ : _ ∧ k_ ≠ gb316))) (fun _ hk => hk.2) (.int .i64 ((rd_T41 y311 x44_2).f0))) (fun _ hk => hk.2) (.int .i64 ((rd_T41 y311 x44_2).f1))) (fun _ hk => hk.2) (.int .i64 ((rd_T41 y311 x44_2).f2))) (fun _ hk => hk.2) (.int .i64 ((rd_T41 y311 x44_2).f3))) (fun _ hk => hk.2) (.int .i64 ((rd_T41 y311 x44_2).f4))) (fun _ h_ => h_.1))) hb); have n1_ := A0m (Kd.R_lower ho0 (below_size (by repeat (first | (with_reducible first | exact HB.out | apply bA | apply bN | apply bD | refine bS ?_ GE295.out | refine bS ?_ GE296.out | refine bS ?_ GE303.out | refine bS ?_ GE310.out | refine bS ?_ GE316.out) | exact HB.out)))); have n2_ := A0m (blk_below (g := gb295) (o := .cells #[.int .i64 a0_0, .int .i64 a0_1, .int .i64 a0_2] 36 (0, 0)) (by (with_reducible repeat (first | refine kN ?_ _ | refine kD ?_ | refine kA ?_ _)); refine blk_far ?_ NB295_316.out _; (with_reducible repeat (first | refine kN ?_ _ | refine kD ?_ | refine kA ?_ _)); refine blk_far ?_ NB295_316.out _; (with_reducible repeat (first | refine kN ?_ _ | refine kD ?_ | refine kA ?_ _)); refine blk_far ?_ NB295_316.out _; (with_reducible repeat (first | refine kN ?_ _ | refine kD ?_ | refine kA ?_ _)); refine blk_far ?_ NB295_316.out _; (with_reducible repeat (first | refine kN ?_ _ | refine kD ?_ | refine kA ?_ _)); refine blk_far ?_ NB295_316.out _; (with_reducible repeat (first | refine kN ?_ _ | refine kD ?_ | refine kA ?_ _)); exact BK295.out) hb); have n3_ := A0m (blk_below (g := gb296) (o := .cells #[.int .i64 a2_0, .int .i64 a2_1, .int .i64 a2_2, .int .i64 a2_3, .int .i64 a2_4] 41 (0, 0)) (by (with_reducible repeat (first | refine kN ?_ _ | refine kD ?_ | refine kA ?_ _)); refine blk_far ?_ NB296_316.out _; (with_reducible repeat (first | refine kN ?_ _ | refine kD ?_ | refine kA ?_ _)); refine blk_far ?_ NB296_316.out _; (with_reducible repeat (first | refine kN ?_ _ | refine kD ?_ | refine kA ?_ _)); refine blk_far ?_ NB296_316.out _; (with_reducible repeat (first | refine kN ?_ _ | refine kD ?_ | refine kA ?_ _)); refine blk_far ?_ NB296_316.out _; (with_reducible repeat (first | refine kN ?_ _ | refine kD ?_ | refine kA ?_ _)); refine blk_far ?_ NB296_316.out _; (with_reducible repeat (first | refine kN ?_ _ | refine kD ?_ | refine kA ?_ _)); exact BK296.out) hb); have n4_ := A0m (blk_below (g := gb303) (o := .cells #[.int .i64 t297, .int .i64 t298, .int .i64 t299, .int .i64 t300, .int .i64 t301] 41 (0, 0)) (by (with_reducible repeat (first | refine kN ?_ _ | refine kD ?_ | refine kA ?_ _)); refine blk_far ?_ NB303_316.out _; (with_reducible repeat (first | refine kN ?_ _ | refine kD ?_ | refine kA ?_ _)); refine blk_far ?_ NB303_316.out _; (with_reducible repeat (first | refine kN ?_ _ | refine kD ?_ | refine kA ?_ _)); refine blk_far ?_ NB303_316.out _; (with_reducible repeat (first | refine kN ?_ _ | refine kD ?_ | refine kA ?_ _)); refine blk_far ?_ NB303_316.out _; (with_reducible repeat (first | refine kN ?_ _ | refine kD ?_ | refine kA ?_ _)); refine blk_far ?_ NB303_316.out _; (with_reducible repeat (first | refine kN ?_ _ | refine kD ?_ | refine kA ?_ _)); exact BK303.out) hb); have n5_ := A0m (blk_below (g := gb310) (o := .cells #[.int .i64 t304, .int .i64 t305, .int .i64 t306, .int .i64 t307, .int .i64 t308] 38 (0, 0)) (by (with_reducible repeat (first | refine kN ?_ _ | refine kD ?_ | refine kA ?_ _)); refine blk_far ?_ NB310_316.out _; (with_reducible repeat (first | refine kN ?_ _ | refine kD ?_ | refine kA ?_ _)); refine blk_far ?_ NB310_316.out _; (with_reducible repeat (first | refine kN ?_ _ | refine kD ?_ | refine kA ?_ _)); refine blk_far ?_ NB310_316.out _; (with_reducible repeat (first | refine kN ?_ _ | refine kD ?_ | refine kA ?_ _)); refine blk_far ?_ NB310_316.out _; (with_reducible repeat (first | refine kN ?_ _ | refine kD ?_ | refine kA ?_ _)); refine blk_far ?_ NB310_316.out _; (with_reducible repeat (first | refine kN ?_ _ | refine kD ?_ | refine kA ?_ _)); exact BK310.out) hb); have n6_ := A0m (blk_below (g := gb316) (o := .cells #[.int .i64 ((rd_T41 y311 x44_2).f0), .int .i64 ((rd_T41 y311 x44_2).f1), .int .i64 ((rd_T41 y311 x44_2).f2), .int .i64 ((rd_T41 y311 x44_2).f3), .int .i64 ((rd_T41 y311 x44_2).f4)] 41 (0, 0)) (by (with_reducible repeat (first | refine kN ?_ _ | refine kD ?_ | refine kA ?_ _)); refine blk_put (cs := #[.int .i64 ((rd_T41 y311 x44_2).f0), .int .i64 ((rd_T41 y311 x44_2).f1), .int .i64 ((rd_T41 y311 x44_2).f2), .int .i64 ((rd_T41 y311 x44_2).f3), .int .i64 0]) ?_ 4 _ rfl; (with_reducible repeat (first | refine kN ?_ _ | refine kD ?_ | refine kA ?_ _)); refine blk_put (cs := #[.int .i64 ((rd_T41 y311 x44_2).f0), .int .i64 ((rd_T41 y311 x44_2).f1), .int .i64 ((rd_T41 y311 x44_2).f2), .int .i64 0, .int .i64 0]) ?_ 3 _ rfl; (with_reducible repeat (first | refine kN ?_ _ | refine kD ?_ | refine kA ?_ _)); refine blk_put (cs := #[.int .i64 ((rd_T41 y311 x44_2).f0), .int .i64 ((rd_T41 y311 x44_2).f1), .int .i64 0, .int .i64 0, .int .i64 0]) ?_ 2 _ rfl; (with_reducible repeat (first | refine kN ?_ _ | refine kD ?_ | refine kA ?_ _)); refine blk_put (cs := #[.int .i64 ((rd_T41 y311 x44_2).f0), .int .i64 0, .int .i64 0, .int .i64 0, .int .i64 0]) ?_ 1 _ rfl; (with_reducible repeat (first | refine kN ?_ _ | refine kD ?_ | refine kA ?_ _)); refine blk_put (cs := #[.int .i64 0, .int .i64 0, .int .i64 0, .int .i64 0, .int .i64 0]) ?_ 0 _ rfl; (with_reducible repeat (first | refine kN ?_ _ | refine kD ?_ | refine kA ?_ _)); exact BK316.out) hb); have n7_ := A0m (below_step (by repeat (first | (with_reducible first | exact HB.out | apply bA | apply bN | apply bD | refine bS ?_ GE295.out | refine bS ?_ GE296.out | refine bS ?_ GE303.out | refine bS ?_ GE310.out | refine bS ?_ GE316.out) | exact HB.out)) hb); clear HO_42; clear BK295; clear BK296; clear BK303; clear BK310; clear BK316; clear HB; have HO_42 := n0_; have HO319 := n1_; have BK295 := n2_; have BK296 := n3_; have BK303 := n4_; have BK310 := n5_; have BK316 := n6_; have HB := n7_; clear n0_ n1_ n2_ n3_ n4_ n5_ n6_ n7_; (try clear hb); (try clear hb2); (try clear hk); (try clear hi); (try clear ho0); have hcz116_0 : w115.cell? ⟨gb316, 0, none⟩ = some (.int .i64 ((rd_T41 y311 x44_2).f0)) := (blk_cell BK316.out 0).trans rfl; have hcz116_1 : w115.cell? ⟨gb316, 1, none⟩ = some (.int .i64 ((rd_T41 y311 x44_2).f1)) := (blk_cell BK316.out 1).trans rfl; have hcz116_2 : w115.cell? ⟨gb316, 2, none⟩ = some (.int .i64 ((rd_T41 y311 x44_2).f2)) := (blk_cell BK316.out 2).trans rfl; have hcz116_3 : w115.cell? ⟨gb316, 3, none⟩ = some (.int .i64 ((rd_T41 y311 x44_2).f3)) := (blk_cell BK316.out 3).trans rfl; have hcz116_4 : w115.cell? ⟨gb316, 4, none⟩ = some (.int .i64 ((rd_T41 y311 x44_2).f4)) := (blk_cell BK316.out 4).trans rfl; have hfz116_0 := blk_frozen BK316.out 0; have hfz116_1 := blk_frozen BK316.out 1; have hfz116_2 := blk_frozen BK316.out 2; have hfz116_3 := blk_frozen BK316.out 3; have hfz116_4 := blk_frozen BK316.out 4) | ((with_reducible refine gate_callee (f := 21) rfl ?_); refine goesL_ (some 55) rfl rfl Tryd.func21 (by kernel_rfl) rfl #[.agg #[.int .i64 ((rd_T41 y311 x44_2).f0), .int .i64 ((rd_T41 y311 x44_2).f1), .int .i64 ((rd_T41 y311 x44_2).f2), .int .i64 ((rd_T41 y311 x44_2).f3), .int .i64 ((rd_T41 y311 x44_2).f4)]] rfl (by (try simp only [List.map_toArray, List.map_cons, List.map_nil]); first | done | rfl | (simp only [List.length_drop, List.length_take]; rfl)) ?_; (with_reducible refine (octroiref38_Posts.calls k2 ((rd_T41 y311 x44_2).f0) ((rd_T41 y311 x44_2).f1) ((rd_T41 y311 x44_2).f2) ((rd_T41 y311 x44_2).f3) ((rd_T41 y311 x44_2).f4) t321 t324 _ A53.out).mono ?_); rintro e w117 ⟨v322, rfl, ho0, hb⟩; refine ⟨_, rfl, ?_⟩; have n0_ := A0m (Kd.R_below (by (with_reducible repeat (first | apply rA | apply rN | apply rD)); exact HO_42.out) hb); have n1_ := A0m (Kd.R_elder' (by (with_reducible repeat (first | apply rA | apply rN | apply rD)); exact HO319.out) (Kd.R_base ho0) hb); have n2_ := A0m (Kd.R_lower (Kd.R_new' ho0 (Kd.R_lt (by (with_reducible repeat (first | apply rA | apply rN | apply rD)); exact HO319.out))) (below_size (by repeat (first | (with_reducible first | exact HB.out | apply bA | apply bN | apply bD | refine bS ?_ GE295.out | refine bS ?_ GE296.out | refine bS ?_ GE303.out | refine bS ?_ GE310.out | refine bS ?_ GE316.out) | exact HB.out)))); have n3_ := A0m (blk_below (g := gb295) (o := .cells #[.int .i64 a0_0, .int .i64 a0_1, .int .i64 a0_2] 36 (0, 0)) (by (with_reducible repeat (first | refine kN ?_ _ | refine kD ?_ | refine kA ?_ _)); exact BK295.out) hb); have n4_ := A0m (blk_below (g := gb296) (o := .cells #[.int .i64 a2_0, .int .i64 a2_1, .int .i64 a2_2, .int .i64 a2_3, .int .i64 a2_4] 41 (0, 0)) (by (with_reducible repeat (first | refine kN ?_ _ | refine kD ?_ | refine kA ?_ _)); exact BK296.out) hb); have n5_ := A0m (blk_below (g := gb303) (o := .cells #[.int .i64 t297, .int .i64 t298, .int .i64 t299, .int .i64 t300, .int .i64 t301] 41 (0, 0)) (by (with_reducible repeat (first | refine kN ?_ _ | refine kD ?_ | refine kA ?_ _)); exact BK303.out) hb); have n6_ := A0m (blk_below (g := gb310) (o := .cells #[.int .i64 t304, .int .i64 t305, .int .i64 t306, .int .i64 t307, .int .i64 t308] 38 (0, 0)) (by (with_reducible repeat (first | refine kN ?_ _ | refine kD ?_ | refine kA ?_ _)); exact BK310.out) hb); have n7_ := A0m (blk_below (g := gb316) (o := .cells #[.int .i64 ((rd_T41 y311 x44_2).f0), .int .i64 ((rd_T41 y311 x44_2).f1), .int .i64 ((rd_T41 y311 x44_2).f2), .int .i64 ((rd_T41 y311 x44_2).f3), .int .i64 ((rd_T41 y311 x44_2).f4)] 41 (0, 0)) (by (with_reducible repeat (first | refine kN ?_ _ | refine kD ?_ | refine kA ?_ _)); exact BK316.out) hb); have n8_ := A0m (below_step (by repeat (first | (with_reducible first | exact HB.out | apply bA | apply bN | apply bD | refine bS ?_ GE295.out | refine bS ?_ GE296.out | refine bS ?_ GE303.out | refine bS ?_ GE310.out | refine bS ?_ GE316.out) | exact HB.out)) hb); clear HO_42; clear HO319; clear BK295; clear BK296; clear BK303; clear BK310; clear BK316; clear HB; have HO_42 := n0_; have HO319 := n1_; have HO323 := n2_; have BK295 := n3_; have BK296 := n4_; have BK303 := n5_; have BK310 := n6_; have BK316 := n7_; have HB := n8_; clear n0_ n1_ n2_ n3_ n4_ n5_ n6_ n7_ n8_; (try clear hb); (try clear hb2); (try clear hk); (try clear hi); (try clear ho0)))
           have n0_ := A0m (rD HO_42.out)
           have n1_ := A0m (rD HO319.out)
           have n2_ := A0m (rD HO323.out)
           have n3_ := A0m (kD BK295.out)
           have n4_ := A0m (kD BK296.out)
           have n5_ := A0m (kD BK303.out)
           have n6_ := A0m (kD BK310.out)
           have n7_ := A0m (kD BK316.out)
           have n8_ := A0m (bD HB.out)
           clear HO_42
           clear HO319
           clear HO323
           clear BK295
           clear BK296
           clear BK303
           clear BK310
           clear BK316
           clear HB
           have HO_42 := n0_
           have HO319 := n1_
           have HO323 := n2_
           have BK295 := n3_
           have BK296 := n4_
           have BK303 := n5_
           have BK310 := n6_
           have BK316 := n7_
           have HB := n8_
           clear n0_ n1_ n2_ n3_ n4_ n5_ n6_ n7_ n8_
           obtain ⟨Ao119, co119, eo119⟩ := Kd.R_slice HO319.out
           (first | subst eo119 | (injection eo119 with f1_ f2_ f3_; have f4_ := f1_.symm; have f5_ := f3_.symm; clear f1_ f2_ f3_; subst f4_; subst f5_))
           obtain ⟨Ao120, co120, eo120⟩ := Kd.R_slice HO323.out
           (first | subst eo120 | (injection eo120 with f1_ f2_ f3_; have f4_ := f1_.symm; have f5_ := f3_.symm; clear f1_ f2_ f3_; subst f4_; subst f5_))
           refine start_ (n := 23) (S := fun w' => True) (ds := []) #[false, false, false, false, false, false, false, false, false, false, false, false, false, false, false, false, false, false, false, false, false, false, false] (by kernel_rfl) rfl rfl trivial (fun hHeld => ?_); refine with_tabW octroilaw38_SettleOf.tab10 octroilaw38_SettleOf.bits10 (fun HT_ HW_ => ?_)
           generalize w117.drew = w118 at HO_42 HO319 HO323 BK295 BK296 BK303 BK310 BK316 HB hHeld ⊢
           refine pure_ (i := 0) (N := some 58) (v := ?_) (a' := ?_) #[true, false, false, false, false, false, false, false, false, false, false, false, false, false, false, false, false, false, false, false, false, false, false] rfl rfl (any_of HT_.out (by kernel_rfl)) (fun _ _ _ h => h) (Or.inl ⟨by rfl, ?_⟩) ?_ ?_
           rotate_left
           ·intro w'
            go_simp
            with_reducible rfl
           rotate_left
           ·simp only [Act.put, List.setIfInBounds_toArray, List.set_cons_zero, List.set_cons_succ, i64_w, i32_w]
            rfl
           refine pure_ (i := 1) (N := some 59) (v := ?_) (a' := ?_) #[true, true, false, false, false, false, false, false, false, false, false, false, false, false, false, false, false, false, false, false, false, false, false] rfl rfl (any_of HT_.out (by kernel_rfl)) (fun _ _ _ h => h) (Or.inl ⟨by rfl, ?_⟩) ?_ ?_
           rotate_left
           ·intro w'
            go_simp
            with_reducible rfl
           rotate_left
           ·simp only [Act.put, List.setIfInBounds_toArray, List.set_cons_zero, List.set_cons_succ, i64_w, i32_w]
            rfl
           refine one_ (i := 2) (N := some 60) #[true, true, true, false, false, false, false, false, false, false, false, false, false, false, false, false, false, false, false, false, false, false, false] rfl rfl (one_of HT_.out (by kernel_rfl)) (by decide) (fun K hK => ?_)
           refine goes_ Tryd.func22 (by kernel_rfl) rfl #[.slice Ao119 t317.length co119, .slice Ao120 t321.length co120] (by rfl) rfl rfl (by (try simp only [List.map_toArray, List.map_cons, List.map_nil]); first | done | rfl | (simp only [List.length_drop, List.length_take]; rfl)) ?_
           with_reducible refine (octroilaw38_same.calls k2 _ _ t317 _ _ t321 true _ ?side1 ?side2 ?side3 ?side4 A54.out).mono ?_
           (case side1 => repeat (first | exact (Kd.R_reads' HO319.out).2.2 | (with_reducible refine Kd.C_alloc ?_ _) | (with_reducible refine Kd.C_drewN ?_ _) | (with_reducible refine Kd.C_drew ?_)))
           (case side2 => exact (Kd.R_reads' HO319.out).2.1)
           (case side3 => repeat (first | exact (Kd.R_reads' HO323.out).2.2 | (with_reducible refine Kd.C_alloc ?_ _) | (with_reducible refine Kd.C_drewN ?_ _) | (with_reducible refine Kd.C_drew ?_)))
           (case side4 => exact (Kd.R_reads' HO323.out).2.1)
           rintro e w' ⟨rfl, ⟨nd, rfl⟩⟩
           refine ⟨_, rfl, ?_⟩
           refine hK.out _ _ trivial (fun hHeld => ?_)
           clear hK K
           refine norm_ (a' := ?_) ?_ ?_
           rotate_left
           ·show Act.put _ (some 60) _ = _
            simp only [Act.put, List.setIfInBounds_toArray, List.set_cons_zero, List.set_cons_succ, i64_w, i32_w]
            rfl
           refine pure_ (i := 3) (N := some 61) (v := ?_) (a' := ?_) #[true, true, true, true, false, false, false, false, false, false, false, false, false, false, false, false, false, false, false, false, false, false, false] rfl rfl (any_of HT_.out (by kernel_rfl)) (fun _ _ _ h => h) (Or.inl ⟨by rfl, ?_⟩) ?_ ?_
           rotate_left
           ·intro w'
            go_simp
            with_reducible rfl
           rotate_left
           ·simp only [Act.put, List.setIfInBounds_toArray, List.set_cons_zero, List.set_cons_succ, i64_w, i32_w]
            rfl
           refine pure_ (i := 4) (N := some 62) (v := ?_) (a' := ?_) #[true, true, true, true, true, false, false, false, false, false, false, false, false, false, false, false, false, false, false, false, false, false, false] rfl rfl (any_of HT_.out (by kernel_rfl)) (fun _ _ _ h => h) (Or.inl ⟨by rfl, ?_⟩) ?_ ?_
           rotate_left
           ·intro w'
            go_simp
            with_reducible rfl
           rotate_left
           ·simp only [Act.put, List.setIfInBounds_toArray, List.set_cons_zero, List.set_cons_succ, i64_w, i32_w]
            rfl
           refine pure_ (i := 5) (N := some 63) (v := ?_) (a' := ?_) #[true, true, true, true, true, true, false, false, false, false, false, false, false, false, false, false, false, false, false, false, false, false, false] rfl rfl (any_of HT_.out (by kernel_rfl)) (fun _ _ _ h => h) (Or.inl ⟨by rfl, ?_⟩) ?_ ?_
           rotate_left
           ·intro w'
            go_simp
            with_reducible rfl
           rotate_left
           ·simp only [Act.put, List.setIfInBounds_toArray, List.set_cons_zero, List.set_cons_succ, i64_w, i32_w]
            rfl
           refine pure_ (i := 6) (N := some 64) (v := ?_) (a' := ?_) #[true, true, true, true, true, true, true, false, false, false, false, false, false, false, false, false, false, false, false, false, false, false, false] rfl rfl (any_of HT_.out (by kernel_rfl)) (fun _ _ _ h => h) (Or.inl ⟨by rfl, ?_⟩) ?_ ?_
           rotate_left
           ·intro w'
            go_simp
            with_reducible rfl
           rotate_left
           ·simp only [Act.put, List.setIfInBounds_toArray, List.set_cons_zero, List.set_cons_succ, i64_w, i32_w]
            rfl
           refine pure_ (i := 7) (N := some 65) (v := ?_) (a' := ?_) #[true, true, true, true, true, true, true, true, false, false, false, false, false, false, false, false, false, false, false, false, false, false, false] rfl rfl (any_of HT_.out (by kernel_rfl)) (fun _ _ _ h => h) (Or.inl ⟨by rfl, ?_⟩) ?_ ?_
           rotate_left
           ·intro w'
            go_simp
            with_reducible rfl
           rotate_left
           ·simp only [Act.put, List.setIfInBounds_toArray, List.set_cons_zero, List.set_cons_succ, i64_w, i32_w]
            rfl
           refine pure_ (i := 8) (N := some 66) (v := ?_) (a' := ?_) #[true, true, true, true, true, true, true, true, true, false, false, false, false, false, false, false, false, false, false, false, false, false, false] rfl rfl (any_of HT_.out (by kernel_rfl)) (fun _ _ _ h => h) (Or.inl ⟨by rfl, ?_⟩) ?_ ?_
           rotate_left
           ·intro w'
            go_simp
            with_reducible rfl
           rotate_left
           ·simp only [Act.put, List.setIfInBounds_toArray, List.set_cons_zero, List.set_cons_succ, i64_w, i32_w]
            rfl
           refine pure_ (i := 9) (N := some 67) (v := ?_) (a' := ?_) #[true, true, true, true, true, true, true, true, true, true, false, false, false, false, false, false, false, false, false, false, false, false, false] rfl rfl (any_of HT_.out (by kernel_rfl)) (fun _ _ _ h => h) (Or.inl ⟨by rfl, ?_⟩) ?_ ?_
           rotate_left
           ·intro w'
            go_simp
            with_reducible rfl
           rotate_left
           ·simp only [Act.put, List.setIfInBounds_toArray, List.set_cons_zero, List.set_cons_succ, i64_w, i32_w]
            rfl
           refine pure_ (i := 10) (N := some 68) (v := undef) (a' := ?_) #[true, true, true, true, true, true, true, true, true, true, true, false, false, false, false, false, false, false, false, false, false, false, false] rfl rfl (any_of HT_.out (by kernel_rfl)) (fun _ _ _ h => h) (Or.inr ⟨by rfl, rfl⟩) ?_ ?_
           rotate_left
           ·simp only [Act.put, List.setIfInBounds_toArray, List.set_cons_zero, List.set_cons_succ, i64_w, i32_w]
            rfl
           refine pure_ (i := 11) (N := some 69) (v := undef) (a' := ?_) #[true, true, true, true, true, true, true, true, true, true, true, true, false, false, false, false, false, false, false, false, false, false, false] rfl rfl (any_of HT_.out (by kernel_rfl)) (fun _ _ _ h => h) (Or.inr ⟨by rfl, rfl⟩) ?_ ?_
           rotate_left
           ·simp only [Act.put, List.setIfInBounds_toArray, List.set_cons_zero, List.set_cons_succ, i64_w, i32_w]
            rfl
           refine pure_ (i := 12) (N := some 70) (v := undef) (a' := ?_) #[true, true, true, true, true, true, true, true, true, true, true, true, true, false, false, false, false, false, false, false, false, false, false] rfl rfl (any_of HT_.out (by kernel_rfl)) (fun _ _ _ h => h) (Or.inr ⟨by rfl, rfl⟩) ?_ ?_
           rotate_left
           ·simp only [Act.put, List.setIfInBounds_toArray, List.set_cons_zero, List.set_cons_succ, i64_w, i32_w]
            rfl
           refine pure_ (i := 13) (N := some 71) (v := undef) (a' := ?_) #[true, true, true, true, true, true, true, true, true, true, true, true, true, true, false, false, false, false, false, false, false, false, false] rfl rfl (any_of HT_.out (by kernel_rfl)) (fun _ _ _ h => h) (Or.inr ⟨by rfl, rfl⟩) ?_ ?_
           rotate_left
           ·simp only [Act.put, List.setIfInBounds_toArray, List.set_cons_zero, List.set_cons_succ, i64_w, i32_w]
            rfl
           refine pure_ (i := 14) (N := some 72) (v := undef) (a' := ?_) #[true, true, true, true, true, true, true, true, true, true, true, true, true, true, true, false, false, false, false, false, false, false, false] rfl rfl (any_of HT_.out (by kernel_rfl)) (fun _ _ _ h => h) (Or.inr ⟨by rfl, rfl⟩) ?_ ?_
           rotate_left
           ·simp only [Act.put, List.setIfInBounds_toArray, List.set_cons_zero, List.set_cons_succ, i64_w, i32_w]
            rfl
           refine pure_ (i := 15) (N := some 73) (v := ?_) (a' := ?_) #[true, true, true, true, true, true, true, true, true, true, true, true, true, true, true, true, false, false, false, false, false, false, false] rfl rfl (any_of HT_.out (by kernel_rfl)) (fun _ _ _ h => h) (Or.inl ⟨by rfl, ?_⟩) ?_ ?_
           rotate_left
           ·intro w'
            go_simp
            with_reducible rfl
           rotate_left
           ·simp only [Act.put, List.setIfInBounds_toArray, List.set_cons_zero, List.set_cons_succ, i64_w, i32_w]
            rfl
           refine pure_ (i := 16) (N := some 74) (v := ?_) (a' := ?_) #[true, true, true, true, true, true, true, true, true, true, true, true, true, true, true, true, true, false, false, false, false, false, false] rfl rfl (any_of HT_.out (by kernel_rfl)) (fun _ _ _ h => h) (Or.inl ⟨by rfl, ?_⟩) ?_ ?_
           rotate_left
           ·intro w'
            go_simp
            with_reducible rfl
           rotate_left
           ·simp only [Act.put, List.setIfInBounds_toArray, List.set_cons_zero, List.set_cons_succ, i64_w, i32_w]
            rfl
           refine pure_ (i := 17) (N := some 75) (v := undef) (a' := ?_) #[true, true, true, true, true, true, true, true, true, true, true, true, true, true, true, true, true, true, false, false, false, false, false] rfl rfl (any_of HT_.out (by kernel_rfl)) (fun _ _ _ h => h) (Or.inr ⟨by rfl, rfl⟩) ?_ ?_
           rotate_left
           ·simp only [Act.put, List.setIfInBounds_toArray, List.set_cons_zero, List.set_cons_succ, i64_w, i32_w]
            rfl
           refine pure_ (i := 18) (N := some 76) (v := undef) (a' := ?_) #[true, true, true, true, true, true, true, true, true, true, true, true, true, true, true, true, true, true, true, false, false, false, false] rfl rfl (any_of HT_.out (by kernel_rfl)) (fun _ _ _ h => h) (Or.inr ⟨by rfl, rfl⟩) ?_ ?_
           rotate_left
           ·simp only [Act.put, List.setIfInBounds_toArray, List.set_cons_zero, List.set_cons_succ, i64_w, i32_w]
            rfl
           refine pure_ (i := 19) (N := some 77) (v := undef) (a' := ?_) #[true, true, true, true, true, true, true, true, true, true, true, true, true, true, true, true, true, true, true, true, false, false, false] rfl rfl (any_of HT_.out (by kernel_rfl)) (fun _ _ _ h => h) (Or.inr ⟨by rfl, rfl⟩) ?_ ?_
           rotate_left
           ·simp only [Act.put, List.setIfInBounds_toArray, List.set_cons_zero, List.set_cons_succ, i64_w, i32_w]
            rfl
           refine pure_ (i := 20) (N := some 78) (v := undef) (a' := ?_) #[true, true, true, true, true, true, true, true, true, true, true, true, true, true, true, true, true, true, true, true, true, false, false] rfl rfl (any_of HT_.out (by kernel_rfl)) (fun _ _ _ h => h) (Or.inr ⟨by rfl, rfl⟩) ?_ ?_
           rotate_left
           ·simp only [Act.put, List.setIfInBounds_toArray, List.set_cons_zero, List.set_cons_succ, i64_w, i32_w]
            rfl
           refine pure_ (i := 21) (N := some 79) (v := undef) (a' := ?_) #[true, true, true, true, true, true, true, true, true, true, true, true, true, true, true, true, true, true, true, true, true, true, false] rfl rfl (any_of HT_.out (by kernel_rfl)) (fun _ _ _ h => h) (Or.inr ⟨by rfl, rfl⟩) ?_ ?_
           rotate_left
           ·simp only [Act.put, List.setIfInBounds_toArray, List.set_cons_zero, List.set_cons_succ, i64_w, i32_w]
            rfl
           refine pure_ (i := 22) (N := some 80) (v := ?_) (a' := ?_) #[true, true, true, true, true, true, true, true, true, true, true, true, true, true, true, true, true, true, true, true, true, true, true] rfl rfl (any_of HT_.out (by kernel_rfl)) (fun _ _ _ h => h) (Or.inl ⟨by rfl, ?_⟩) ?_ ?_
           rotate_left
           ·intro w'
            go_simp
            with_reducible rfl
           rotate_left
           ·simp only [Act.put, List.setIfInBounds_toArray, List.set_cons_zero, List.set_cons_succ, i64_w, i32_w]
            rfl
           refine done_ (done_of HT_.out (by kernel_rfl)) ?_
           try go_wp2
           go_ret
           exact ⟨by first | rfl | (simp [errW_none, errW_some] <;> rfl) | (simp [*, errW_none, errW_some] <;> rfl), by repeat (first | (with_reducible first | exact HB.out | apply bA | apply bN | apply bD | refine bS ?_ GE295.out | refine bS ?_ GE296.out | refine bS ?_ GE303.out | refine bS ?_ GE310.out | refine bS ?_ GE316.out) | exact HB.out)⟩
         ·replace c55 := Bool.eq_false_iff.mpr c55
          subst c55
          have H1 : (some false) = some r := by rw [if_neg (show ¬ (false = true) by decide)] at H; exact H
          clear H
          have H := H1
          clear H1
          obtain rfl := Option.some.inj H
          have p315 : 0 ≤ (x44_2 : Int) := of_decide_eq_true (by first | (with_reducible assumption) | assumption)
          have q315 : x44_2 < (y311.length : Int) := of_decide_eq_true (by first | (with_reducible assumption) | assumption)
          obtain ⟨ad315, e315, hx315_0, hx315_1, hx315_2, hx315_3, hx315_4⟩ := at_T41 (Kd.R_reads' HO_42.out).2.2 x44_2 p315 q315
          cases e315
          replace p315 := eq_true p315
          replace q315 := eq_true q315
          try go_wp2_with (first | ((with_reducible refine gate_dst (N := 12) rfl ?_); refine box_event ?hg (N := 12) ?hd (cs := #[.int .i64 0, .int .i64 0, .int .i64 0, .int .i64 0, .int .i64 0]) (t := 41) ?hr ?_; (case hd => rfl); (case hg => rfl); (case hr => first | (go_simp; done) | (go_simp; rfl)); intro gb316 hg w121 hbox hb; have n0_ := A0m (Kd.R_below (Kd.R_elderB (by (with_reducible repeat (first | apply rA | apply rN | apply rD)); exact HO_42.out) gb316 (Nat.le_of_eq hg.symm)) hb); have n1_ := A0m (blk_below (g := gb295) (o := .cells #[.int .i64 a0_0, .int .i64 a0_1, .int .i64 a0_2] 36 (0, 0)) (by (with_reducible repeat (first | refine kN ?_ _ | refine kD ?_ | refine kA ?_ _)); exact BK295.out) hb); have n2_ := A0m (blk_below (g := gb296) (o := .cells #[.int .i64 a2_0, .int .i64 a2_1, .int .i64 a2_2, .int .i64 a2_3, .int .i64 a2_4] 41 (0, 0)) (by (with_reducible repeat (first | refine kN ?_ _ | refine kD ?_ | refine kA ?_ _)); exact BK296.out) hb); have n3_ := A0m (blk_below (g := gb303) (o := .cells #[.int .i64 t297, .int .i64 t298, .int .i64 t299, .int .i64 t300, .int .i64 t301] 41 (0, 0)) (by (with_reducible repeat (first | refine kN ?_ _ | refine kD ?_ | refine kA ?_ _)); exact BK303.out) hb); have n4_ := A0m (blk_below (g := gb310) (o := .cells #[.int .i64 t304, .int .i64 t305, .int .i64 t306, .int .i64 t307, .int .i64 t308] 38 (0, 0)) (by (with_reducible repeat (first | refine kN ?_ _ | refine kD ?_ | refine kA ?_ _)); exact BK310.out) hb); have n5_ := A0m (below_step (by repeat (first | (with_reducible first | exact HB.out | apply bA | apply bN | apply bD | refine bS ?_ GE295.out | refine bS ?_ GE296.out | refine bS ?_ GE303.out | refine bS ?_ GE310.out) | exact HB.out)) hb); have n6_ := A0m (hbox); have n7_ := A0m ((by rw [hg]; exact (below_size (by repeat (first | (with_reducible first | exact HB.out | apply bA | apply bN | apply bD | refine bS ?_ GE295.out | refine bS ?_ GE296.out | refine bS ?_ GE303.out | refine bS ?_ GE310.out) | exact HB.out))) : w.heap.size ≤ gb316)); have n8_ := A0m ((by rw [hg]; exact (below_size (by repeat (first | (with_reducible first | exact HB.out | apply bA | apply bN | apply bD | refine bS ?_ GE295.out | refine bS ?_ GE296.out | refine bS ?_ GE303.out | refine bS ?_ GE310.out) | exact HB.out))) : w.heap.size ≤ gb316)); have n9_ := A0m ((by rw [hg]; exact Nat.ne_of_lt (blk_lt (g := gb295) (o := .cells #[.int .i64 a0_0, .int .i64 a0_1, .int .i64 a0_2] 36 (0, 0)) (by (with_reducible repeat (first | refine kN ?_ _ | refine kD ?_ | refine kA ?_ _)); exact BK295.out)) : gb295 ≠ gb316)); have n10_ := A0m ((by rw [hg]; exact Nat.ne_of_gt (blk_lt (g := gb295) (o := .cells #[.int .i64 a0_0, .int .i64 a0_1, .int .i64 a0_2] 36 (0, 0)) (by (with_reducible repeat (first | refine kN ?_ _ | refine kD ?_ | refine kA ?_ _)); exact BK295.out)) : gb316 ≠ gb295)); have n11_ := A0m ((by rw [hg]; exact Nat.ne_of_lt (blk_lt (g := gb296) (o := .cells #[.int .i64 a2_0, .int .i64 a2_1, .int .i64 a2_2, .int .i64 a2_3, .int .i64 a2_4] 41 (0, 0)) (by (with_reducible repeat (first | refine kN ?_ _ | refine kD ?_ | refine kA ?_ _)); exact BK296.out)) : gb296 ≠ gb316)); have n12_ := A0m ((by rw [hg]; exact Nat.ne_of_gt (blk_lt (g := gb296) (o := .cells #[.int .i64 a2_0, .int .i64 a2_1, .int .i64 a2_2, .int .i64 a2_3, .int .i64 a2_4] 41 (0, 0)) (by (with_reducible repeat (first | refine kN ?_ _ | refine kD ?_ | refine kA ?_ _)); exact BK296.out)) : gb316 ≠ gb296)); have n13_ := A0m ((by rw [hg]; exact Nat.ne_of_lt (blk_lt (g := gb303) (o := .cells #[.int .i64 t297, .int .i64 t298, .int .i64 t299, .int .i64 t300, .int .i64 t301] 41 (0, 0)) (by (with_reducible repeat (first | refine kN ?_ _ | refine kD ?_ | refine kA ?_ _)); exact BK303.out)) : gb303 ≠ gb316)); have n14_ := A0m ((by rw [hg]; exact Nat.ne_of_gt (blk_lt (g := gb303) (o := .cells #[.int .i64 t297, .int .i64 t298, .int .i64 t299, .int .i64 t300, .int .i64 t301] 41 (0, 0)) (by (with_reducible repeat (first | refine kN ?_ _ | refine kD ?_ | refine kA ?_ _)); exact BK303.out)) : gb316 ≠ gb303)); have n15_ := A0m ((by rw [hg]; exact Nat.ne_of_lt (blk_lt (g := gb310) (o := .cells #[.int .i64 t304, .int .i64 t305, .int .i64 t306, .int .i64 t307, .int .i64 t308] 38 (0, 0)) (by (with_reducible repeat (first | refine kN ?_ _ | refine kD ?_ | refine kA ?_ _)); exact BK310.out)) : gb310 ≠ gb316)); have n16_ := A0m ((by rw [hg]; exact Nat.ne_of_gt (blk_lt (g := gb310) (o := .cells #[.int .i64 t304, .int .i64 t305, .int .i64 t306, .int .i64 t307, .int .i64 t308] 38 (0, 0)) (by (with_reducible repeat (first | refine kN ?_ _ | refine kD ?_ | refine kA ?_ _)); exact BK310.out)) : gb316 ≠ gb310)); clear HO_42; clear BK295; clear BK296; clear BK303; clear BK310; clear HB; have HO_42 := n0_; have BK295 := n1_; have BK296 := n2_; have BK303 := n3_; have BK310 := n4_; have HB := n5_; have BK316 := n6_; have GW316 := n7_; have GE316 := n8_; have NB295_316 := n9_; have NB316_295 := n10_; have NB296_316 := n11_; have NB316_296 := n12_; have NB303_316 := n13_; have NB316_303 := n14_; have NB310_316 := n15_; have NB316_310 := n16_; clear n0_ n1_ n2_ n3_ n4_ n5_ n6_ n7_ n8_ n9_ n10_ n11_ n12_ n13_ n14_ n15_ n16_; clear hb hbox hg; have hnb122 := NB316_295.out; have hnc122 := NB295_316.out; have hnb123 := NB316_296.out; have hnc123 := NB296_316.out; have hnb124 := NB316_303.out; have hnc124 := NB303_316.out; have hnb125 := NB316_310.out; have hnc125 := NB310_316.out; have hcz126_0 : w121.cell? ⟨gb316, 0, none⟩ = some (.int .i64 0) := (blk_cell BK316.out 0).trans rfl; have hcz126_1 : w121.cell? ⟨gb316, 1, none⟩ = some (.int .i64 0) := (blk_cell BK316.out 1).trans rfl; have hcz126_2 : w121.cell? ⟨gb316, 2, none⟩ = some (.int .i64 0) := (blk_cell BK316.out 2).trans rfl; have hcz126_3 : w121.cell? ⟨gb316, 3, none⟩ = some (.int .i64 0) := (blk_cell BK316.out 3).trans rfl; have hcz126_4 : w121.cell? ⟨gb316, 4, none⟩ = some (.int .i64 0) := (blk_cell BK316.out 4).trans rfl; have hfz126_0 := blk_frozen BK316.out 0; have hfz126_1 := blk_frozen BK316.out 1; have hfz126_2 := blk_frozen BK316.out 2; have hfz126_3 := blk_frozen BK316.out 3; have hfz126_4 := blk_frozen BK316.out 4) | ((with_reducible refine gate_callee (f := 20) rfl ?_); refine goesL_ (some 50) rfl rfl Tryd.func20 (by kernel_rfl) rfl #[.agg #[.int .i64 ((rd_T41 y311 x44_2).f0), .int .i64 ((rd_T41 y311 x44_2).f1), .int .i64 ((rd_T41 y311 x44_2).f2), .int .i64 ((rd_T41 y311 x44_2).f3), .int .i64 ((rd_T41 y311 x44_2).f4)]] rfl (by (try simp only [List.map_toArray, List.map_cons, List.map_nil]); first | done | rfl | (simp only [List.length_drop, List.length_take]; rfl)) ?_; (with_reducible refine (settle_Posts.calls k2 ((rd_T41 y311 x44_2).f0) ((rd_T41 y311 x44_2).f1) ((rd_T41 y311 x44_2).f2) ((rd_T41 y311 x44_2).f3) ((rd_T41 y311 x44_2).f4) t317 t320 _ A52.out).mono ?_); rintro e w127 ⟨v318, rfl, ho0, hb⟩; refine ⟨_, rfl, ?_⟩; have n0_ := A0m (Kd.R_below (by (with_reducible repeat (first | apply rA | apply rN | apply rD)); exact (Kd.R_mono (Kd.R_far (p := ⟨gb316, 4, none⟩) (Kd.R_far (p := ⟨gb316, 3, none⟩) (Kd.R_far (p := ⟨gb316, 2, none⟩) (Kd.R_far (p := ⟨gb316, 1, none⟩) (Kd.R_far (p := ⟨gb316, 0, none⟩) (Kd.R_mono HO_42.out (fun k_ hk => (⟨hk, hk.2⟩ : _ ∧ k_ ≠ gb316))) (fun _ hk => hk.2) (.int .i64 ((rd_T41 y311 x44_2).f0))) (fun _ hk => hk.2) (.int .i64 ((rd_T41 y311 x44_2).f1))) (fun _ hk => hk.2) (.int .i64 ((rd_T41 y311 x44_2).f2))) (fun _ hk => hk.2) (.int .i64 ((rd_T41 y311 x44_2).f3))) (fun _ hk => hk.2) (.int .i64 ((rd_T41 y311 x44_2).f4))) (fun _ h_ => h_.1))) hb); have n1_ := A0m (Kd.R_lower ho0 (below_size (by repeat (first | (with_reducible first | exact HB.out | apply bA | apply bN | apply bD | refine bS ?_ GE295.out | refine bS ?_ GE296.out | refine bS ?_ GE303.out | refine bS ?_ GE310.out | refine bS ?_ GE316.out) | exact HB.out)))); have n2_ := A0m (blk_below (g := gb295) (o := .cells #[.int .i64 a0_0, .int .i64 a0_1, .int .i64 a0_2] 36 (0, 0)) (by (with_reducible repeat (first | refine kN ?_ _ | refine kD ?_ | refine kA ?_ _)); refine blk_far ?_ NB295_316.out _; (with_reducible repeat (first | refine kN ?_ _ | refine kD ?_ | refine kA ?_ _)); refine blk_far ?_ NB295_316.out _; (with_reducible repeat (first | refine kN ?_ _ | refine kD ?_ | refine kA ?_ _)); refine blk_far ?_ NB295_316.out _; (with_reducible repeat (first | refine kN ?_ _ | refine kD ?_ | refine kA ?_ _)); refine blk_far ?_ NB295_316.out _; (with_reducible repeat (first | refine kN ?_ _ | refine kD ?_ | refine kA ?_ _)); refine blk_far ?_ NB295_316.out _; (with_reducible repeat (first | refine kN ?_ _ | refine kD ?_ | refine kA ?_ _)); exact BK295.out) hb); have n3_ := A0m (blk_below (g := gb296) (o := .cells #[.int .i64 a2_0, .int .i64 a2_1, .int .i64 a2_2, .int .i64 a2_3, .int .i64 a2_4] 41 (0, 0)) (by (with_reducible repeat (first | refine kN ?_ _ | refine kD ?_ | refine kA ?_ _)); refine blk_far ?_ NB296_316.out _; (with_reducible repeat (first | refine kN ?_ _ | refine kD ?_ | refine kA ?_ _)); refine blk_far ?_ NB296_316.out _; (with_reducible repeat (first | refine kN ?_ _ | refine kD ?_ | refine kA ?_ _)); refine blk_far ?_ NB296_316.out _; (with_reducible repeat (first | refine kN ?_ _ | refine kD ?_ | refine kA ?_ _)); refine blk_far ?_ NB296_316.out _; (with_reducible repeat (first | refine kN ?_ _ | refine kD ?_ | refine kA ?_ _)); refine blk_far ?_ NB296_316.out _; (with_reducible repeat (first | refine kN ?_ _ | refine kD ?_ | refine kA ?_ _)); exact BK296.out) hb); have n4_ := A0m (blk_below (g := gb303) (o := .cells #[.int .i64 t297, .int .i64 t298, .int .i64 t299, .int .i64 t300, .int .i64 t301] 41 (0, 0)) (by (with_reducible repeat (first | refine kN ?_ _ | refine kD ?_ | refine kA ?_ _)); refine blk_far ?_ NB303_316.out _; (with_reducible repeat (first | refine kN ?_ _ | refine kD ?_ | refine kA ?_ _)); refine blk_far ?_ NB303_316.out _; (with_reducible repeat (first | refine kN ?_ _ | refine kD ?_ | refine kA ?_ _)); refine blk_far ?_ NB303_316.out _; (with_reducible repeat (first | refine kN ?_ _ | refine kD ?_ | refine kA ?_ _)); refine blk_far ?_ NB303_316.out _; (with_reducible repeat (first | refine kN ?_ _ | refine kD ?_ | refine kA ?_ _)); refine blk_far ?_ NB303_316.out _; (with_reducible repeat (first | refine kN ?_ _ | refine kD ?_ | refine kA ?_ _)); exact BK303.out) hb); have n5_ := A0m (blk_below (g := gb310) (o := .cells #[.int .i64 t304, .int .i64 t305, .int .i64 t306, .int .i64 t307, .int .i64 t308] 38 (0, 0)) (by (with_reducible repeat (first | refine kN ?_ _ | refine kD ?_ | refine kA ?_ _)); refine blk_far ?_ NB310_316.out _; (with_reducible repeat (first | refine kN ?_ _ | refine kD ?_ | refine kA ?_ _)); refine blk_far ?_ NB310_316.out _; (with_reducible repeat (first | refine kN ?_ _ | refine kD ?_ | refine kA ?_ _)); refine blk_far ?_ NB310_316.out _; (with_reducible repeat (first | refine kN ?_ _ | refine kD ?_ | refine kA ?_ _)); refine blk_far ?_ NB310_316.out _; (with_reducible repeat (first | refine kN ?_ _ | refine kD ?_ | refine kA ?_ _)); refine blk_far ?_ NB310_316.out _; (with_reducible repeat (first | refine kN ?_ _ | refine kD ?_ | refine kA ?_ _)); exact BK310.out) hb); have n6_ := A0m (blk_below (g := gb316) (o := .cells #[.int .i64 ((rd_T41 y311 x44_2).f0), .int .i64 ((rd_T41 y311 x44_2).f1), .int .i64 ((rd_T41 y311 x44_2).f2), .int .i64 ((rd_T41 y311 x44_2).f3), .int .i64 ((rd_T41 y311 x44_2).f4)] 41 (0, 0)) (by (with_reducible repeat (first | refine kN ?_ _ | refine kD ?_ | refine kA ?_ _)); refine blk_put (cs := #[.int .i64 ((rd_T41 y311 x44_2).f0), .int .i64 ((rd_T41 y311 x44_2).f1), .int .i64 ((rd_T41 y311 x44_2).f2), .int .i64 ((rd_T41 y311 x44_2).f3), .int .i64 0]) ?_ 4 _ rfl; (with_reducible repeat (first | refine kN ?_ _ | refine kD ?_ | refine kA ?_ _)); refine blk_put (cs := #[.int .i64 ((rd_T41 y311 x44_2).f0), .int .i64 ((rd_T41 y311 x44_2).f1), .int .i64 ((rd_T41 y311 x44_2).f2), .int .i64 0, .int .i64 0]) ?_ 3 _ rfl; (with_reducible repeat (first | refine kN ?_ _ | refine kD ?_ | refine kA ?_ _)); refine blk_put (cs := #[.int .i64 ((rd_T41 y311 x44_2).f0), .int .i64 ((rd_T41 y311 x44_2).f1), .int .i64 0, .int .i64 0, .int .i64 0]) ?_ 2 _ rfl; (with_reducible repeat (first | refine kN ?_ _ | refine kD ?_ | refine kA ?_ _)); refine blk_put (cs := #[.int .i64 ((rd_T41 y311 x44_2).f0), .int .i64 0, .int .i64 0, .int .i64 0, .int .i64 0]) ?_ 1 _ rfl; (with_reducible repeat (first | refine kN ?_ _ | refine kD ?_ | refine kA ?_ _)); refine blk_put (cs := #[.int .i64 0, .int .i64 0, .int .i64 0, .int .i64 0, .int .i64 0]) ?_ 0 _ rfl; (with_reducible repeat (first | refine kN ?_ _ | refine kD ?_ | refine kA ?_ _)); exact BK316.out) hb); have n7_ := A0m (below_step (by repeat (first | (with_reducible first | exact HB.out | apply bA | apply bN | apply bD | refine bS ?_ GE295.out | refine bS ?_ GE296.out | refine bS ?_ GE303.out | refine bS ?_ GE310.out | refine bS ?_ GE316.out) | exact HB.out)) hb); clear HO_42; clear BK295; clear BK296; clear BK303; clear BK310; clear BK316; clear HB; have HO_42 := n0_; have HO319 := n1_; have BK295 := n2_; have BK296 := n3_; have BK303 := n4_; have BK310 := n5_; have BK316 := n6_; have HB := n7_; clear n0_ n1_ n2_ n3_ n4_ n5_ n6_ n7_; (try clear hb); (try clear hb2); (try clear hk); (try clear hi); (try clear ho0); have hcz128_0 : w127.cell? ⟨gb316, 0, none⟩ = some (.int .i64 ((rd_T41 y311 x44_2).f0)) := (blk_cell BK316.out 0).trans rfl; have hcz128_1 : w127.cell? ⟨gb316, 1, none⟩ = some (.int .i64 ((rd_T41 y311 x44_2).f1)) := (blk_cell BK316.out 1).trans rfl; have hcz128_2 : w127.cell? ⟨gb316, 2, none⟩ = some (.int .i64 ((rd_T41 y311 x44_2).f2)) := (blk_cell BK316.out 2).trans rfl; have hcz128_3 : w127.cell? ⟨gb316, 3, none⟩ = some (.int .i64 ((rd_T41 y311 x44_2).f3)) := (blk_cell BK316.out 3).trans rfl; have hcz128_4 : w127.cell? ⟨gb316, 4, none⟩ = some (.int .i64 ((rd_T41 y311 x44_2).f4)) := (blk_cell BK316.out 4).trans rfl; have hfz128_0 := blk_frozen BK316.out 0; have hfz128_1 := blk_frozen BK316.out 1; have hfz128_2 := blk_frozen BK316.out 2; have hfz128_3 := blk_frozen BK316.out 3; have hfz128_4 := blk_frozen BK316.out 4) | ((with_reducible refine gate_callee (f := 21) rfl ?_); refine goesL_ (some 55) rfl rfl Tryd.func21 (by kernel_rfl) rfl #[.agg #[.int .i64 ((rd_T41 y311 x44_2).f0), .int .i64 ((rd_T41 y311 x44_2).f1), .int .i64 ((rd_T41 y311 x44_2).f2), .int .i64 ((rd_T41 y311 x44_2).f3), .int .i64 ((rd_T41 y311 x44_2).f4)]] rfl (by (try simp only [List.map_toArray, List.map_cons, List.map_nil]); first | done | rfl | (simp only [List.length_drop, List.length_take]; rfl)) ?_; (with_reducible refine (octroiref38_Posts.calls k2 ((rd_T41 y311 x44_2).f0) ((rd_T41 y311 x44_2).f1) ((rd_T41 y311 x44_2).f2) ((rd_T41 y311 x44_2).f3) ((rd_T41 y311 x44_2).f4) t321 t324 _ A53.out).mono ?_); rintro e w129 ⟨v322, rfl, ho0, hb⟩; refine ⟨_, rfl, ?_⟩; have n0_ := A0m (Kd.R_below (by (with_reducible repeat (first | apply rA | apply rN | apply rD)); exact HO_42.out) hb); have n1_ := A0m (Kd.R_elder' (by (with_reducible repeat (first | apply rA | apply rN | apply rD)); exact HO319.out) (Kd.R_base ho0) hb); have n2_ := A0m (Kd.R_lower (Kd.R_new' ho0 (Kd.R_lt (by (with_reducible repeat (first | apply rA | apply rN | apply rD)); exact HO319.out))) (below_size (by repeat (first | (with_reducible first | exact HB.out | apply bA | apply bN | apply bD | refine bS ?_ GE295.out | refine bS ?_ GE296.out | refine bS ?_ GE303.out | refine bS ?_ GE310.out | refine bS ?_ GE316.out) | exact HB.out)))); have n3_ := A0m (blk_below (g := gb295) (o := .cells #[.int .i64 a0_0, .int .i64 a0_1, .int .i64 a0_2] 36 (0, 0)) (by (with_reducible repeat (first | refine kN ?_ _ | refine kD ?_ | refine kA ?_ _)); exact BK295.out) hb); have n4_ := A0m (blk_below (g := gb296) (o := .cells #[.int .i64 a2_0, .int .i64 a2_1, .int .i64 a2_2, .int .i64 a2_3, .int .i64 a2_4] 41 (0, 0)) (by (with_reducible repeat (first | refine kN ?_ _ | refine kD ?_ | refine kA ?_ _)); exact BK296.out) hb); have n5_ := A0m (blk_below (g := gb303) (o := .cells #[.int .i64 t297, .int .i64 t298, .int .i64 t299, .int .i64 t300, .int .i64 t301] 41 (0, 0)) (by (with_reducible repeat (first | refine kN ?_ _ | refine kD ?_ | refine kA ?_ _)); exact BK303.out) hb); have n6_ := A0m (blk_below (g := gb310) (o := .cells #[.int .i64 t304, .int .i64 t305, .int .i64 t306, .int .i64 t307, .int .i64 t308] 38 (0, 0)) (by (with_reducible repeat (first | refine kN ?_ _ | refine kD ?_ | refine kA ?_ _)); exact BK310.out) hb); have n7_ := A0m (blk_below (g := gb316) (o := .cells #[.int .i64 ((rd_T41 y311 x44_2).f0), .int .i64 ((rd_T41 y311 x44_2).f1), .int .i64 ((rd_T41 y311 x44_2).f2), .int .i64 ((rd_T41 y311 x44_2).f3), .int .i64 ((rd_T41 y311 x44_2).f4)] 41 (0, 0)) (by (with_reducible repeat (first | refine kN ?_ _ | refine kD ?_ | refine kA ?_ _)); exact BK316.out) hb); have n8_ := A0m (below_step (by repeat (first | (with_reducible first | exact HB.out | apply bA | apply bN | apply bD | refine bS ?_ GE295.out | refine bS ?_ GE296.out | refine bS ?_ GE303.out | refine bS ?_ GE310.out | refine bS ?_ GE316.out) | exact HB.out)) hb); clear HO_42; clear HO319; clear BK295; clear BK296; clear BK303; clear BK310; clear BK316; clear HB; have HO_42 := n0_; have HO319 := n1_; have HO323 := n2_; have BK295 := n3_; have BK296 := n4_; have BK303 := n5_; have BK310 := n6_; have BK316 := n7_; have HB := n8_; clear n0_ n1_ n2_ n3_ n4_ n5_ n6_ n7_ n8_; (try clear hb); (try clear hb2); (try clear hk); (try clear hi); (try clear ho0)))
          have n0_ := A0m (rD HO_42.out)
          have n1_ := A0m (rD HO319.out)
          have n2_ := A0m (rD HO323.out)
          have n3_ := A0m (kD BK295.out)
          have n4_ := A0m (kD BK296.out)
          have n5_ := A0m (kD BK303.out)
          have n6_ := A0m (kD BK310.out)
          have n7_ := A0m (kD BK316.out)
          have n8_ := A0m (bD HB.out)
          clear HO_42
          clear HO319
          clear HO323
          clear BK295
          clear BK296
          clear BK303
          clear BK310
          clear BK316
          clear HB
          have HO_42 := n0_
          have HO319 := n1_
          have HO323 := n2_
          have BK295 := n3_
          have BK296 := n4_
          have BK303 := n5_
          have BK310 := n6_
          have BK316 := n7_
          have HB := n8_
          clear n0_ n1_ n2_ n3_ n4_ n5_ n6_ n7_ n8_
          obtain ⟨Ao131, co131, eo131⟩ := Kd.R_slice HO319.out
          (first | subst eo131 | (injection eo131 with f1_ f2_ f3_; have f4_ := f1_.symm; have f5_ := f3_.symm; clear f1_ f2_ f3_; subst f4_; subst f5_))
          obtain ⟨Ao132, co132, eo132⟩ := Kd.R_slice HO323.out
          (first | subst eo132 | (injection eo132 with f1_ f2_ f3_; have f4_ := f1_.symm; have f5_ := f3_.symm; clear f1_ f2_ f3_; subst f4_; subst f5_))
          refine start_ (n := 23) (S := fun w' => True) (ds := []) #[false, false, false, false, false, false, false, false, false, false, false, false, false, false, false, false, false, false, false, false, false, false, false] (by kernel_rfl) rfl rfl trivial (fun hHeld => ?_); refine with_tabW octroilaw38_SettleOf.tab10 octroilaw38_SettleOf.bits10 (fun HT_ HW_ => ?_)
          generalize w129.drew = w130 at HO_42 HO319 HO323 BK295 BK296 BK303 BK310 BK316 HB hHeld ⊢
          refine pure_ (i := 0) (N := some 58) (v := ?_) (a' := ?_) #[true, false, false, false, false, false, false, false, false, false, false, false, false, false, false, false, false, false, false, false, false, false, false] rfl rfl (any_of HT_.out (by kernel_rfl)) (fun _ _ _ h => h) (Or.inl ⟨by rfl, ?_⟩) ?_ ?_
          rotate_left
          ·intro w'
           go_simp
           with_reducible rfl
          rotate_left
          ·simp only [Act.put, List.setIfInBounds_toArray, List.set_cons_zero, List.set_cons_succ, i64_w, i32_w]
           rfl
          refine pure_ (i := 1) (N := some 59) (v := ?_) (a' := ?_) #[true, true, false, false, false, false, false, false, false, false, false, false, false, false, false, false, false, false, false, false, false, false, false] rfl rfl (any_of HT_.out (by kernel_rfl)) (fun _ _ _ h => h) (Or.inl ⟨by rfl, ?_⟩) ?_ ?_
          rotate_left
          ·intro w'
           go_simp
           with_reducible rfl
          rotate_left
          ·simp only [Act.put, List.setIfInBounds_toArray, List.set_cons_zero, List.set_cons_succ, i64_w, i32_w]
           rfl
          refine one_ (i := 2) (N := some 60) #[true, true, true, false, false, false, false, false, false, false, false, false, false, false, false, false, false, false, false, false, false, false, false] rfl rfl (one_of HT_.out (by kernel_rfl)) (by decide) (fun K hK => ?_)
          refine goes_ Tryd.func22 (by kernel_rfl) rfl #[.slice Ao131 t317.length co131, .slice Ao132 t321.length co132] (by rfl) rfl rfl (by (try simp only [List.map_toArray, List.map_cons, List.map_nil]); first | done | rfl | (simp only [List.length_drop, List.length_take]; rfl)) ?_
          with_reducible refine (octroilaw38_same.calls k2 _ _ t317 _ _ t321 false _ ?side1 ?side2 ?side3 ?side4 A54.out).mono ?_
          (case side1 => repeat (first | exact (Kd.R_reads' HO319.out).2.2 | (with_reducible refine Kd.C_alloc ?_ _) | (with_reducible refine Kd.C_drewN ?_ _) | (with_reducible refine Kd.C_drew ?_)))
          (case side2 => exact (Kd.R_reads' HO319.out).2.1)
          (case side3 => repeat (first | exact (Kd.R_reads' HO323.out).2.2 | (with_reducible refine Kd.C_alloc ?_ _) | (with_reducible refine Kd.C_drewN ?_ _) | (with_reducible refine Kd.C_drew ?_)))
          (case side4 => exact (Kd.R_reads' HO323.out).2.1)
          rintro e w' ⟨rfl, ⟨nd, rfl⟩⟩
          refine ⟨_, rfl, ?_⟩
          refine hK.out _ _ trivial (fun hHeld => ?_)
          clear hK K
          refine norm_ (a' := ?_) ?_ ?_
          rotate_left
          ·show Act.put _ (some 60) _ = _
           simp only [Act.put, List.setIfInBounds_toArray, List.set_cons_zero, List.set_cons_succ, i64_w, i32_w]
           rfl
          refine pure_ (i := 3) (N := some 61) (v := ?_) (a' := ?_) #[true, true, true, true, false, false, false, false, false, false, false, false, false, false, false, false, false, false, false, false, false, false, false] rfl rfl (any_of HT_.out (by kernel_rfl)) (fun _ _ _ h => h) (Or.inl ⟨by rfl, ?_⟩) ?_ ?_
          rotate_left
          ·intro w'
           go_simp
           with_reducible rfl
          rotate_left
          ·simp only [Act.put, List.setIfInBounds_toArray, List.set_cons_zero, List.set_cons_succ, i64_w, i32_w]
           rfl
          refine pure_ (i := 4) (N := some 62) (v := ?_) (a' := ?_) #[true, true, true, true, true, false, false, false, false, false, false, false, false, false, false, false, false, false, false, false, false, false, false] rfl rfl (any_of HT_.out (by kernel_rfl)) (fun _ _ _ h => h) (Or.inl ⟨by rfl, ?_⟩) ?_ ?_
          rotate_left
          ·intro w'
           go_simp
           with_reducible rfl
          rotate_left
          ·simp only [Act.put, List.setIfInBounds_toArray, List.set_cons_zero, List.set_cons_succ, i64_w, i32_w]
           rfl
          refine pure_ (i := 5) (N := some 63) (v := undef) (a' := ?_) #[true, true, true, true, true, true, false, false, false, false, false, false, false, false, false, false, false, false, false, false, false, false, false] rfl rfl (any_of HT_.out (by kernel_rfl)) (fun _ _ _ h => h) (Or.inr ⟨by rfl, rfl⟩) ?_ ?_
          rotate_left
          ·simp only [Act.put, List.setIfInBounds_toArray, List.set_cons_zero, List.set_cons_succ, i64_w, i32_w]
           rfl
          refine pure_ (i := 6) (N := some 64) (v := undef) (a' := ?_) #[true, true, true, true, true, true, true, false, false, false, false, false, false, false, false, false, false, false, false, false, false, false, false] rfl rfl (any_of HT_.out (by kernel_rfl)) (fun _ _ _ h => h) (Or.inr ⟨by rfl, rfl⟩) ?_ ?_
          rotate_left
          ·simp only [Act.put, List.setIfInBounds_toArray, List.set_cons_zero, List.set_cons_succ, i64_w, i32_w]
           rfl
          refine pure_ (i := 7) (N := some 65) (v := undef) (a' := ?_) #[true, true, true, true, true, true, true, true, false, false, false, false, false, false, false, false, false, false, false, false, false, false, false] rfl rfl (any_of HT_.out (by kernel_rfl)) (fun _ _ _ h => h) (Or.inr ⟨by rfl, rfl⟩) ?_ ?_
          rotate_left
          ·simp only [Act.put, List.setIfInBounds_toArray, List.set_cons_zero, List.set_cons_succ, i64_w, i32_w]
           rfl
          refine pure_ (i := 8) (N := some 66) (v := ?_) (a' := ?_) #[true, true, true, true, true, true, true, true, true, false, false, false, false, false, false, false, false, false, false, false, false, false, false] rfl rfl (any_of HT_.out (by kernel_rfl)) (fun _ _ _ h => h) (Or.inl ⟨by rfl, ?_⟩) ?_ ?_
          rotate_left
          ·intro w'
           go_simp
           with_reducible rfl
          rotate_left
          ·simp only [Act.put, List.setIfInBounds_toArray, List.set_cons_zero, List.set_cons_succ, i64_w, i32_w]
           rfl
          refine pure_ (i := 9) (N := some 67) (v := ?_) (a' := ?_) #[true, true, true, true, true, true, true, true, true, true, false, false, false, false, false, false, false, false, false, false, false, false, false] rfl rfl (any_of HT_.out (by kernel_rfl)) (fun _ _ _ h => h) (Or.inl ⟨by rfl, ?_⟩) ?_ ?_
          rotate_left
          ·intro w'
           go_simp
           with_reducible rfl
          rotate_left
          ·simp only [Act.put, List.setIfInBounds_toArray, List.set_cons_zero, List.set_cons_succ, i64_w, i32_w]
           rfl
          refine pure_ (i := 10) (N := some 68) (v := undef) (a' := ?_) #[true, true, true, true, true, true, true, true, true, true, true, false, false, false, false, false, false, false, false, false, false, false, false] rfl rfl (any_of HT_.out (by kernel_rfl)) (fun _ _ _ h => h) (Or.inr ⟨by rfl, rfl⟩) ?_ ?_
          rotate_left
          ·simp only [Act.put, List.setIfInBounds_toArray, List.set_cons_zero, List.set_cons_succ, i64_w, i32_w]
           rfl
          refine pure_ (i := 11) (N := some 69) (v := undef) (a' := ?_) #[true, true, true, true, true, true, true, true, true, true, true, true, false, false, false, false, false, false, false, false, false, false, false] rfl rfl (any_of HT_.out (by kernel_rfl)) (fun _ _ _ h => h) (Or.inr ⟨by rfl, rfl⟩) ?_ ?_
          rotate_left
          ·simp only [Act.put, List.setIfInBounds_toArray, List.set_cons_zero, List.set_cons_succ, i64_w, i32_w]
           rfl
          refine pure_ (i := 12) (N := some 70) (v := undef) (a' := ?_) #[true, true, true, true, true, true, true, true, true, true, true, true, true, false, false, false, false, false, false, false, false, false, false] rfl rfl (any_of HT_.out (by kernel_rfl)) (fun _ _ _ h => h) (Or.inr ⟨by rfl, rfl⟩) ?_ ?_
          rotate_left
          ·simp only [Act.put, List.setIfInBounds_toArray, List.set_cons_zero, List.set_cons_succ, i64_w, i32_w]
           rfl
          refine pure_ (i := 13) (N := some 71) (v := undef) (a' := ?_) #[true, true, true, true, true, true, true, true, true, true, true, true, true, true, false, false, false, false, false, false, false, false, false] rfl rfl (any_of HT_.out (by kernel_rfl)) (fun _ _ _ h => h) (Or.inr ⟨by rfl, rfl⟩) ?_ ?_
          rotate_left
          ·simp only [Act.put, List.setIfInBounds_toArray, List.set_cons_zero, List.set_cons_succ, i64_w, i32_w]
           rfl
          refine pure_ (i := 14) (N := some 72) (v := undef) (a' := ?_) #[true, true, true, true, true, true, true, true, true, true, true, true, true, true, true, false, false, false, false, false, false, false, false] rfl rfl (any_of HT_.out (by kernel_rfl)) (fun _ _ _ h => h) (Or.inr ⟨by rfl, rfl⟩) ?_ ?_
          rotate_left
          ·simp only [Act.put, List.setIfInBounds_toArray, List.set_cons_zero, List.set_cons_succ, i64_w, i32_w]
           rfl
          refine pure_ (i := 15) (N := some 73) (v := ?_) (a' := ?_) #[true, true, true, true, true, true, true, true, true, true, true, true, true, true, true, true, false, false, false, false, false, false, false] rfl rfl (any_of HT_.out (by kernel_rfl)) (fun _ _ _ h => h) (Or.inl ⟨by rfl, ?_⟩) ?_ ?_
          rotate_left
          ·intro w'
           go_simp
           with_reducible rfl
          rotate_left
          ·simp only [Act.put, List.setIfInBounds_toArray, List.set_cons_zero, List.set_cons_succ, i64_w, i32_w]
           rfl
          refine pure_ (i := 16) (N := some 74) (v := ?_) (a' := ?_) #[true, true, true, true, true, true, true, true, true, true, true, true, true, true, true, true, true, false, false, false, false, false, false] rfl rfl (any_of HT_.out (by kernel_rfl)) (fun _ _ _ h => h) (Or.inl ⟨by rfl, ?_⟩) ?_ ?_
          rotate_left
          ·intro w'
           go_simp
           with_reducible rfl
          rotate_left
          ·simp only [Act.put, List.setIfInBounds_toArray, List.set_cons_zero, List.set_cons_succ, i64_w, i32_w]
           rfl
          refine pure_ (i := 17) (N := some 75) (v := undef) (a' := ?_) #[true, true, true, true, true, true, true, true, true, true, true, true, true, true, true, true, true, true, false, false, false, false, false] rfl rfl (any_of HT_.out (by kernel_rfl)) (fun _ _ _ h => h) (Or.inr ⟨by rfl, rfl⟩) ?_ ?_
          rotate_left
          ·simp only [Act.put, List.setIfInBounds_toArray, List.set_cons_zero, List.set_cons_succ, i64_w, i32_w]
           rfl
          refine pure_ (i := 18) (N := some 76) (v := undef) (a' := ?_) #[true, true, true, true, true, true, true, true, true, true, true, true, true, true, true, true, true, true, true, false, false, false, false] rfl rfl (any_of HT_.out (by kernel_rfl)) (fun _ _ _ h => h) (Or.inr ⟨by rfl, rfl⟩) ?_ ?_
          rotate_left
          ·simp only [Act.put, List.setIfInBounds_toArray, List.set_cons_zero, List.set_cons_succ, i64_w, i32_w]
           rfl
          refine pure_ (i := 19) (N := some 77) (v := undef) (a' := ?_) #[true, true, true, true, true, true, true, true, true, true, true, true, true, true, true, true, true, true, true, true, false, false, false] rfl rfl (any_of HT_.out (by kernel_rfl)) (fun _ _ _ h => h) (Or.inr ⟨by rfl, rfl⟩) ?_ ?_
          rotate_left
          ·simp only [Act.put, List.setIfInBounds_toArray, List.set_cons_zero, List.set_cons_succ, i64_w, i32_w]
           rfl
          refine pure_ (i := 20) (N := some 78) (v := undef) (a' := ?_) #[true, true, true, true, true, true, true, true, true, true, true, true, true, true, true, true, true, true, true, true, true, false, false] rfl rfl (any_of HT_.out (by kernel_rfl)) (fun _ _ _ h => h) (Or.inr ⟨by rfl, rfl⟩) ?_ ?_
          rotate_left
          ·simp only [Act.put, List.setIfInBounds_toArray, List.set_cons_zero, List.set_cons_succ, i64_w, i32_w]
           rfl
          refine pure_ (i := 21) (N := some 79) (v := undef) (a' := ?_) #[true, true, true, true, true, true, true, true, true, true, true, true, true, true, true, true, true, true, true, true, true, true, false] rfl rfl (any_of HT_.out (by kernel_rfl)) (fun _ _ _ h => h) (Or.inr ⟨by rfl, rfl⟩) ?_ ?_
          rotate_left
          ·simp only [Act.put, List.setIfInBounds_toArray, List.set_cons_zero, List.set_cons_succ, i64_w, i32_w]
           rfl
          refine pure_ (i := 22) (N := some 80) (v := ?_) (a' := ?_) #[true, true, true, true, true, true, true, true, true, true, true, true, true, true, true, true, true, true, true, true, true, true, true] rfl rfl (any_of HT_.out (by kernel_rfl)) (fun _ _ _ h => h) (Or.inl ⟨by rfl, ?_⟩) ?_ ?_
          rotate_left
          ·intro w'
           go_simp
           with_reducible rfl
          rotate_left
          ·simp only [Act.put, List.setIfInBounds_toArray, List.set_cons_zero, List.set_cons_succ, i64_w, i32_w]
           rfl
          refine done_ (done_of HT_.out (by kernel_rfl)) ?_
          try go_wp2
          go_ret
          exact ⟨by first | rfl | (simp [errW_none, errW_some] <;> rfl) | (simp [*, errW_none, errW_some] <;> rfl), by repeat (first | (with_reducible first | exact HB.out | apply bA | apply bN | apply bD | refine bS ?_ GE295.out | refine bS ?_ GE296.out | refine bS ?_ GE303.out | refine bS ?_ GE310.out | refine bS ?_ GE316.out) | exact HB.out)⟩
        ·rw [if_neg c51] at H
         exact absurd H (by simp)
       ·rw [if_neg c50] at H
        exact absurd H (by simp)
      ·rw [if_neg c49] at H
       have c49b0 : decide (x44_2 < (y311.length : Int)) = false := decide_eq_false c49
       clear c49
       replace H := Option.bind_eq_some_iff.mp H
       obtain ⟨t314, A1330, H⟩ := H
       replace H : (some t314) = some r := H
       have A133 := A0m A1330
       clear A1330
       obtain rfl := Option.some.inj H
       go_wp2_with (first | ((with_reducible refine gate_callee (f := 15) rfl ?_); refine goesL_ (some 82) rfl rfl Tryd.func15 (by kernel_rfl) rfl #[] rfl (by (try simp only [List.map_toArray, List.map_cons, List.map_nil]); first | done | rfl | (simp only [List.length_drop, List.length_take]; rfl)) ?_; (with_reducible refine (octroilaw38_lives.calls k2  t314 _ ?side1 A133.out).mono ?_); (case side1 => exact BX.Tab.below HTab_.out (by repeat (first | (with_reducible first | exact HB.out | apply bA | apply bN | apply bD | refine bS ?_ GE295.out | refine bS ?_ GE296.out | refine bS ?_ GE303.out | refine bS ?_ GE310.out) | exact HB.out))); rintro e w134 ⟨rfl, hb⟩; refine ⟨_, rfl, ?_⟩; have n0_ := A0m (Kd.R_below (by (with_reducible repeat (first | apply rA | apply rN | apply rD)); exact HO_42.out) hb); have n1_ := A0m (blk_below (g := gb295) (o := .cells #[.int .i64 a0_0, .int .i64 a0_1, .int .i64 a0_2] 36 (0, 0)) (by (with_reducible repeat (first | refine kN ?_ _ | refine kD ?_ | refine kA ?_ _)); exact BK295.out) hb); have n2_ := A0m (blk_below (g := gb296) (o := .cells #[.int .i64 a2_0, .int .i64 a2_1, .int .i64 a2_2, .int .i64 a2_3, .int .i64 a2_4] 41 (0, 0)) (by (with_reducible repeat (first | refine kN ?_ _ | refine kD ?_ | refine kA ?_ _)); exact BK296.out) hb); have n3_ := A0m (blk_below (g := gb303) (o := .cells #[.int .i64 t297, .int .i64 t298, .int .i64 t299, .int .i64 t300, .int .i64 t301] 41 (0, 0)) (by (with_reducible repeat (first | refine kN ?_ _ | refine kD ?_ | refine kA ?_ _)); exact BK303.out) hb); have n4_ := A0m (blk_below (g := gb310) (o := .cells #[.int .i64 t304, .int .i64 t305, .int .i64 t306, .int .i64 t307, .int .i64 t308] 38 (0, 0)) (by (with_reducible repeat (first | refine kN ?_ _ | refine kD ?_ | refine kA ?_ _)); exact BK310.out) hb); have n5_ := A0m (below_step (by repeat (first | (with_reducible first | exact HB.out | apply bA | apply bN | apply bD | refine bS ?_ GE295.out | refine bS ?_ GE296.out | refine bS ?_ GE303.out | refine bS ?_ GE310.out) | exact HB.out)) hb); clear HO_42; clear BK295; clear BK296; clear BK303; clear BK310; clear HB; have HO_42 := n0_; have BK295 := n1_; have BK296 := n2_; have BK303 := n3_; have BK310 := n4_; have HB := n5_; clear n0_ n1_ n2_ n3_ n4_ n5_; (try clear hb); (try clear hb2); (try clear hk); (try clear hi)))
       go_ret
       exact ⟨by first | rfl | (simp [errW_none, errW_some] <;> rfl) | (simp [*, errW_none, errW_some] <;> rfl), by repeat (first | (with_reducible first | exact HB.out | apply bA | apply bN | apply bD | refine bS ?_ GE295.out | refine bS ?_ GE296.out | refine bS ?_ GE303.out | refine bS ?_ GE310.out) | exact HB.out)⟩

end Go.Proofs.YtlciddgncngniaaDoor.XSettleOf
