/-
  The reference's SameExpr of one and the same expression: the walk.
-/
import Derived.Test.YtmkalnljclhigaaGreatQCkA
import Derived.Test.YtmkalnljclhigaaGreatQWEqStruct
import Derived.Test.YtmkalnljclhigaaGreatQChB
namespace Go.Proofs.YtmkalnljclhigaaGreat.Ch
set_option linter.unusedVariables false
set_option linter.unusedSimpArgs false
set_option linter.unnecessarySimpa false
open Go.RowKit Go.Maps Go.Proofs.YtmkalnljclhigaaGreatK Go.Proofs.YtmkalnljclhigaaGreat.XCheckerChecks Go.Proofs.YtmkalnljclhigaaGreatW.PrintWords Go.Proofs.YtmkalnljclhigaaGreatW.PrintLast

theorem eqF (d : Nat) (w : World) (x : S62) : (Op.equalIn (d + 2) 62 (fV x) (fV x)).run Tryz.prog w = .ok true w := by
  have h : (Op.equalIn (d + 2) 62 (fV x) (fV x)).run Tryz.prog w = .ok (x.f0.toList == x.f0.toList && (x.f1 == x.f1 && (x.f2 == x.f2))) w := by
    refine eqA_of Tryz.underlying62 (by kernel_rfl) ?_
    refine eqf_cons (by rfl) (by go_simp; rfl) (by go_simp; rfl) (by go_simp) ?_
    refine eqf_cons (by rfl) (by go_simp; rfl) (by go_simp; rfl) (by go_simp) ?_
    exact eqf_last (by rfl) (by go_simp; rfl) (by go_simp; rfl) (by go_simp)
  rw [h]
  simp
def SameAt (x : S33) : Prop := ∀ (A4 : Option Addr) (c4 : Nat) (A5 : Option Addr) (c5 : Nat) (B4 : Option Addr) (d4 : Nat) (B5 : Option Addr) (d5 : Nat) (w : World), EIn w x A4 c4 A5 c5 → EIn w x B4 d4 B5 d5 → Calls Tryz.prog 19 #[eV x A4 c4 A5 c5, eV x B4 d4 B5 d5] w fun e w' => e = .returned (.bool true) ∧ Below w.heap.size w w'
set_option maxRecDepth 100000 in
set_option maxHeartbeats 8000000 in
theorem same_step (x : S33) (hs : Small x) (ih : ∀ y ∈ x.f4, SameAt y) : SameAt x := by
  intro A4 c4 A5 c5 B4 d4 B5 d5 w hin hin2
  obtain ⟨k, n, f, fs, ks⟩ := x
  rw [Small] at hs
  obtain ⟨hfl, hkl, _⟩ := hs
  dsimp only at *
  obtain ⟨wa, hwa⟩ : ∃ W : World, W = w.alloc (.cells #[.int .i64 k, .int .i64 n, .string f, .slice A4 fs.length c4, .slice A5 ks.length c5] 33) := ⟨_, rfl⟩
  obtain ⟨wb, hwb⟩ : ∃ W : World, W = wa.alloc (.cells #[.int .i64 k, .int .i64 n, .string f, .slice B4 fs.length d4, .slice B5 ks.length d5] 33) := ⟨_, rfl⟩
  have hba : Below w.heap.size w wa := by rw [hwa]; exact s_alloc (Below.refl _ _) _
  have hbb : Below wa.heap.size wa wb := by rw [hwb]; exact s_alloc (Below.refl _ _) _
  have hza : wa.heap.size = w.heap.size + 1 := by rw [hwa]; simp
  have hxa : wa.heap[w.heap.size]? = some (.cells #[.int .i64 k, .int .i64 n, .string f, .slice A4 fs.length c4, .slice A5 ks.length c5] 33 (0, 0)) := by rw [hwa]; exact Array.getElem?_push_size
  have hxb : wb.heap[w.heap.size + 1]? = some (.cells #[.int .i64 k, .int .i64 n, .string f, .slice B4 fs.length d4, .slice B5 ks.length d5] 33 (0, 0)) := by rw [← hza, hwb]; exact Array.getElem?_push_size
  have HX := Lib.hid (block_on hbb hxa)
  have HY := Lib.hid hxb
  have HB := Lib.hid (s_trans hba hbb)
  have HI := Lib.hid hin
  have HJ := Lib.hid hin2
  have HIH := Lib.hid ih
  obtain ⟨x0, x1, x2, x3, x4⟩ := cells5 HX.out
  obtain ⟨y0, y1, y2, y3, y4⟩ := cells5 HY.out
  clear hin hin2 ih hba hbb hza hxa hxb
  go_enter Tryz.func19, Tryz.ntmps19
  go_upto_region 1 with fail
  rw [← hwa, ← hwb]
  clear hwa hwb
  go_wp2
  clear x0 x1 x2 x3 x4 y0 y1 y2 y3 y4
  go_loopw [5] (fun i wr => ∃ q : Nat, q ≤ fs.length ∧ i = .int .i64 q ∧ Hid (Below wb.heap.size wb wr)) (fun i _ => fs.length - (intOf i).toNat)
  case atStart => exact ⟨0, Nat.zero_le _, rfl, Lib.hid (Below.refl _ _)⟩
  case round =>
    obtain ⟨q, hq, rfl, HBr⟩ := hrel
    obtain ⟨x0, x1, x2, x3, x4⟩ := cells5 (block_on HBr.out HX.out)
    obtain ⟨y0, y1, y2, y3, y4⟩ := cells5 (block_on HBr.out HY.out)
    by_cases hlt : q < fs.length
    · obtain ⟨ad0, e0, q0, q1, q2⟩ := at_T62 (Kd.C_below HI.out.c3 (s_trans HB.out HBr.out)) (q : Int) (by omega) (by dsimp only; omega)
      obtain ⟨bd0, e1, r0, r1, r2⟩ := at_T62 (Kd.C_below HJ.out.c3 (s_trans HB.out HBr.out)) (q : Int) (by omega) (by dsimp only; omega)
      have hl3 := HI.out.l3
      have hl4 := HJ.out.l3
      dsimp only at hl3 hl4 q0 q1 q2 r0 r1 r2
      rw [rd64 fs q hlt] at q0 q1 q2 r0 r1 r2
      rw [Int.toNat_natCast] at q0 q1 q2 r0 r1 r2
      cases e0
      cases e1
      generalize fs[q] = y at *
      have heq : ∀ w : World, (Op.equalIn 10000 62 (fV y) (fV y)).run Tryz.prog w = .ok true w := fun w => eqF 9998 w y
      unfold fV at heq
      go_upto_region 6 with fail
      go_region
      go_wp2
      go_roundw
      case rel => exact ⟨q + 1, by omega, by go_num, Lib.hid (s_drew HBr.out)⟩
      case measure => simp [intOf]; omega
    · obtain rfl : q = fs.length := by omega
      go_wp2
      clear x0 x1 x2 x3 x4 y0 y1 y2 y3 y4
      have HB0 := Lib.hid (s_trans HB.out HBr.out)
      have HX0 := Lib.hid (block_on HBr.out HX.out)
      have HY0 := Lib.hid (block_on HBr.out HY.out)
      clear HX HY HB HBr
      obtain ⟨ws, hws⟩ : ∃ W : World, W = wr := ⟨_, rfl⟩
      rw [← hws] at HB0 HX0 HY0 ⊢
      clear hws
      go_loopw [6] (fun i wr => ∃ q : Nat, q ≤ ks.length ∧ i = .int .i64 q ∧ Hid (Below ws.heap.size ws wr)) (fun i _ => ks.length - (intOf i).toNat)
      case atStart => exact ⟨0, Nat.zero_le _, rfl, Lib.hid (Below.refl _ _)⟩
      case round =>
        obtain ⟨q, hq, rfl, HBr⟩ := hrel
        obtain ⟨x0, x1, x2, x3, x4⟩ := cells5 (block_on HBr.out HX0.out)
        obtain ⟨y0, y1, y2, y3, y4⟩ := cells5 (block_on HBr.out HY0.out)
        by_cases hlt : q < ks.length
        · obtain ⟨ad0, A6, c6, A7, c7, e0, p0, p1, p2, p3, p4, g5, g6, g7, g8⟩ := at_T33 (Kd.C_below HI.out.c4 (s_trans HB0.out HBr.out)) (q : Int) (by omega) (by dsimp only; omega)
          obtain ⟨bd0, B6, d6, B7, d7, e1, r0, r1, r2, r3, r4, h5, h6, h7, h8⟩ := at_T33 (Kd.C_below HJ.out.c4 (s_trans HB0.out HBr.out)) (q : Int) (by omega) (by dsimp only; omega)
          have hl5 := HI.out.l4
          have hl6 := HJ.out.l4
          have hy : rd_T33 ks (q : Int) = ks[q] := by unfold rd_T33; rw [Int.toNat_natCast, List.getD_eq_getElem?_getD, List.getElem?_eq_getElem hlt]; rfl
          dsimp only at hl5 hl6 p0 p1 p2 p3 p4 g5 g6 g7 g8 r0 r1 r2 r3 r4 h5 h6 h7 h8
          rw [hy] at p0 p1 p2 p3 p4 g5 g6 g7 g8 r0 r1 r2 r3 r4 h5 h6 h7 h8
          rw [Int.toNat_natCast] at p0 p1 p2 p3 p4 r0 r1 r2 r3 r4
          cases e0
          cases e1
          have hmem := List.getElem_mem hlt
          generalize ks[q] = y at *
          clear hy
          have hiy := fun W (hb : Below wr.heap.size wr W) => HIH.out y hmem A6 c6 A7 c7 B6 d6 B7 d7 W (EIn.below ⟨g5, g6, g7, g8⟩ hb) (EIn.below ⟨h5, h6, h7, h8⟩ hb)
          have h12 : ∀ W, Below wr.heap.size wr W → W.cell? ⟨w.heap.size, 4, none⟩ = some (.slice (some ad0) ks.length c5) ∧ W.cell? ⟨w.heap.size + 1, 4, none⟩ = some (.slice (some bd0) ks.length d5) ∧ W.cell? (ad0.add (q * 5)) = some (.int .i64 y.f0) ∧ W.cell? ⟨(ad0.add (q * 5)).block, (ad0.add (q * 5)).off + 1, none⟩ = some (.int .i64 y.f1) ∧ W.cell? ⟨(ad0.add (q * 5)).block, (ad0.add (q * 5)).off + 2, none⟩ = some (.string y.f2) ∧ W.cell? ⟨(ad0.add (q * 5)).block, (ad0.add (q * 5)).off + 3, none⟩ = some (.slice A6 y.f3.length c6) ∧ W.cell? ⟨(ad0.add (q * 5)).block, (ad0.add (q * 5)).off + 4, none⟩ = some (.slice A7 y.f4.length c7) ∧ W.cell? (bd0.add (q * 5)) = some (.int .i64 y.f0) ∧ W.cell? ⟨(bd0.add (q * 5)).block, (bd0.add (q * 5)).off + 1, none⟩ = some (.int .i64 y.f1) ∧ W.cell? ⟨(bd0.add (q * 5)).block, (bd0.add (q * 5)).off + 2, none⟩ = some (.string y.f2) ∧ W.cell? ⟨(bd0.add (q * 5)).block, (bd0.add (q * 5)).off + 3, none⟩ = some (.slice B6 y.f3.length d6) ∧ W.cell? ⟨(bd0.add (q * 5)).block, (bd0.add (q * 5)).off + 4, none⟩ = some (.slice B7 y.f4.length d7) := fun W hb => ⟨(hb.cell (p := _) (World.block_lt_of_cell? wr _ x4)).trans x4, (hb.cell (p := _) (World.block_lt_of_cell? wr _ y4)).trans y4, (hb.cell (p := _) (World.block_lt_of_cell? wr _ p0)).trans p0, (hb.cell (p := _) (World.block_lt_of_cell? wr _ p1)).trans p1, (hb.cell (p := _) (World.block_lt_of_cell? wr _ p2)).trans p2, (hb.cell (p := _) (World.block_lt_of_cell? wr _ p3)).trans p3, (hb.cell (p := _) (World.block_lt_of_cell? wr _ p4)).trans p4, (hb.cell (p := _) (World.block_lt_of_cell? wr _ r0)).trans r0, (hb.cell (p := _) (World.block_lt_of_cell? wr _ r1)).trans r1, (hb.cell (p := _) (World.block_lt_of_cell? wr _ r2)).trans r2, (hb.cell (p := _) (World.block_lt_of_cell? wr _ r3)).trans r3, (hb.cell (p := _) (World.block_lt_of_cell? wr _ r4)).trans r4⟩
          have HIY := Lib.hid hiy
          have H12 := Lib.hid h12
          clear hiy h12 g5 g6 g7 g8 h5 h6 h7 h8 p0 p1 p2 p3 p4 r0 r1 r2 r3 r4
          go_upto_region 11 with fail
          clear x0 x1 x2 x3 x4 y0 y1 y2 y3 y4
          obtain ⟨x0, x1, p0, p1, p2, p3, p4, r0, r1, r2, r3, r4⟩ := H12.out wr (Below.refl _ _)
          refine start_ (n := 12) (S := fun w' => w'.cell? ⟨w.heap.size, 4, none⟩ = some (.slice (some ad0) ks.length c5) ∧ w'.cell? ⟨w.heap.size + 1, 4, none⟩ = some (.slice (some bd0) ks.length d5) ∧ w'.cell? (ad0.add (q * 5)) = some (.int .i64 y.f0) ∧ w'.cell? ⟨(ad0.add (q * 5)).block, (ad0.add (q * 5)).off + 1, none⟩ = some (.int .i64 y.f1) ∧ w'.cell? ⟨(ad0.add (q * 5)).block, (ad0.add (q * 5)).off + 2, none⟩ = some (.string y.f2) ∧ w'.cell? ⟨(ad0.add (q * 5)).block, (ad0.add (q * 5)).off + 3, none⟩ = some (.slice A6 y.f3.length c6) ∧ w'.cell? ⟨(ad0.add (q * 5)).block, (ad0.add (q * 5)).off + 4, none⟩ = some (.slice A7 y.f4.length c7) ∧ w'.cell? (bd0.add (q * 5)) = some (.int .i64 y.f0) ∧ w'.cell? ⟨(bd0.add (q * 5)).block, (bd0.add (q * 5)).off + 1, none⟩ = some (.int .i64 y.f1) ∧ w'.cell? ⟨(bd0.add (q * 5)).block, (bd0.add (q * 5)).off + 2, none⟩ = some (.string y.f2) ∧ w'.cell? ⟨(bd0.add (q * 5)).block, (bd0.add (q * 5)).off + 3, none⟩ = some (.slice B6 y.f3.length d6) ∧ w'.cell? ⟨(bd0.add (q * 5)).block, (bd0.add (q * 5)).off + 4, none⟩ = some (.slice B7 y.f4.length d7)) (ds := []) #[false, false, false, false, false, false, false, false, false, false, false, false] (by kernel_rfl) rfl rfl ⟨x0, x1, p0, p1, p2, p3, p4, r0, r1, r2, r3, r4⟩ (fun hHeld => ?_)
          obtain ⟨wd, hwd⟩ : ∃ W, W = wr.drew := ⟨_, rfl⟩
          rw [← hwd] at hHeld
          rw [← hwd]
          have hdr : Below wr.heap.size wr wd := by rw [hwd]; exact s_drew (Below.refl _ _)
          have HBd := Lib.hid hdr
          clear hwd hdr
          refine pure_ (i := 0) (N := some 69) (v := ?_) (a' := ?_) #[true, false, false, false, false, false, false, false, false, false, false, false] rfl rfl (by kernel_rfl) (fun _ _ _ h => h) (Or.inl ⟨by rfl, ?_⟩) ?_ ?_
          rotate_left
          · intro w'
            go_simp
            with_reducible rfl
          rotate_left
          · simp only [Act.put, List.setIfInBounds_toArray, List.set_cons_zero, List.set_cons_succ, i64_w, i32_w]
            rfl
          refine pure_ (i := 2) (N := some 71) (v := ?_) (a' := ?_) #[true, false, true, false, false, false, false, false, false, false, false, false] rfl rfl (by kernel_rfl) (fun _ _ _ h => h) (Or.inl ⟨by rfl, ?_⟩) ?_ ?_
          rotate_left
          · intro w'
            go_simp
            with_reducible rfl
          rotate_left
          · simp only [Act.put, List.setIfInBounds_toArray, List.set_cons_zero, List.set_cons_succ, i64_w, i32_w]
            rfl
          refine pure_ (i := 5) (N := some 74) (v := ?_) (a' := ?_) #[true, false, true, false, false, true, false, false, false, false, false, false] rfl rfl (by kernel_rfl) (fun _ _ _ h => h) (Or.inl ⟨by rfl, ?_⟩) ?_ ?_
          rotate_left
          · intro w'
            go_simp
            with_reducible rfl
          rotate_left
          · simp only [Act.put, List.setIfInBounds_toArray, List.set_cons_zero, List.set_cons_succ, i64_w, i32_w]
            rfl
          refine pure_ (i := 7) (N := some 76) (v := ?_) (a' := ?_) #[true, false, true, false, false, true, false, true, false, false, false, false] rfl rfl (by kernel_rfl) (fun _ _ _ h => h) (Or.inl ⟨by rfl, ?_⟩) ?_ ?_
          rotate_left
          · intro w'
            go_simp
            with_reducible rfl
          rotate_left
          · simp only [Act.put, List.setIfInBounds_toArray, List.set_cons_zero, List.set_cons_succ, i64_w, i32_w]
            rfl
          refine take_ (i := 1) (N := some 70) (v := ?_) (a' := ?_) #[true, true, true, false, false, true, false, true, false, false, false, false] rfl rfl (by kernel_rfl) (fun _ _ _ h => h) (Or.inl ⟨by rfl, ?_⟩) hHeld ?_ ?_
          rotate_left
          · rintro w' ⟨s0, s1, s2, s3, s4, s5, s6, s7, s8, s9, s10, s11⟩
            go_simp
            with_reducible rfl
          rotate_left
          · simp only [Act.put, List.setIfInBounds_toArray, List.set_cons_zero, List.set_cons_succ, i64_w, i32_w]
            rfl
          refine pure_ (i := 3) (N := some 72) (v := ?_) (a' := ?_) #[true, true, true, true, false, true, false, true, false, false, false, false] rfl rfl (by kernel_rfl) (fun _ _ _ h => h) (Or.inl ⟨by rfl, ?_⟩) ?_ ?_
          rotate_left
          · intro w'
            go_simp
            with_reducible rfl
          rotate_left
          · simp only [Act.put, List.setIfInBounds_toArray, List.set_cons_zero, List.set_cons_succ, i64_w, i32_w]
            rfl
          refine take_ (i := 4) (N := some 73) (v := ?_) (a' := ?_) #[true, true, true, true, true, true, false, true, false, false, false, false] rfl rfl (by kernel_rfl) (fun _ _ _ h => h) (Or.inl ⟨by rfl, ?_⟩) hHeld ?_ ?_
          rotate_left
          · rintro w' ⟨s0, s1, s2, s3, s4, s5, s6, s7, s8, s9, s10, s11⟩
            go_simp
            with_reducible rfl
          rotate_left
          · simp only [Act.put, List.setIfInBounds_toArray, List.set_cons_zero, List.set_cons_succ, i64_w, i32_w]
            rfl
          refine take_ (i := 6) (N := some 75) (v := ?_) (a' := ?_) #[true, true, true, true, true, true, true, true, false, false, false, false] rfl rfl (by kernel_rfl) (fun _ _ _ h => h) (Or.inl ⟨by rfl, ?_⟩) hHeld ?_ ?_
          rotate_left
          · rintro w' ⟨s0, s1, s2, s3, s4, s5, s6, s7, s8, s9, s10, s11⟩
            go_simp
            with_reducible rfl
          rotate_left
          · simp only [Act.put, List.setIfInBounds_toArray, List.set_cons_zero, List.set_cons_succ, i64_w, i32_w]
            rfl
          refine pure_ (i := 8) (N := some 77) (v := ?_) (a' := ?_) #[true, true, true, true, true, true, true, true, true, false, false, false] rfl rfl (by kernel_rfl) (fun _ _ _ h => h) (Or.inl ⟨by rfl, ?_⟩) ?_ ?_
          rotate_left
          · intro w'
            go_simp
            with_reducible rfl
          rotate_left
          · simp only [Act.put, List.setIfInBounds_toArray, List.set_cons_zero, List.set_cons_succ, i64_w, i32_w]
            rfl
          refine take_ (i := 9) (N := some 78) (v := ?_) (a' := ?_) #[true, true, true, true, true, true, true, true, true, true, false, false] rfl rfl (by kernel_rfl) (fun _ _ _ h => h) (Or.inl ⟨by rfl, ?_⟩) hHeld ?_ ?_
          rotate_left
          · rintro w' ⟨s0, s1, s2, s3, s4, s5, s6, s7, s8, s9, s10, s11⟩
            go_simp
            with_reducible rfl
          rotate_left
          · simp only [Act.put, List.setIfInBounds_toArray, List.set_cons_zero, List.set_cons_succ, i64_w, i32_w]
            rfl
          refine one_ (i := 10) (N := some 79) #[true, true, true, true, true, true, true, true, true, true, true, false] rfl rfl (by kernel_rfl) (by decide) (fun K hK => ?_)
          refine goes_ Tryz.func19 (by kernel_rfl) rfl #[eV y A6 c6 A7 c7, eV y B6 d6 B7 d7] (by rfl) rfl rfl (by simp only [List.map_toArray, List.map_cons, List.map_nil]; rfl) ?_
          with_reducible refine (HIY.out wd HBd.out).mono ?_
          rintro e w4 ⟨rfl, hb4⟩
          refine ⟨_, rfl, ?_⟩
          have HB4 := Lib.hid (s_trans HBd.out hb4)
          have hz := H12.out w4 HB4.out
          clear hb4
          refine hK.out _ _ ⟨hz.1, hz.2.1, hz.2.2.1, hz.2.2.2.1, hz.2.2.2.2.1, hz.2.2.2.2.2.1, hz.2.2.2.2.2.2.1, hz.2.2.2.2.2.2.2.1, hz.2.2.2.2.2.2.2.2.1, hz.2.2.2.2.2.2.2.2.2.1, hz.2.2.2.2.2.2.2.2.2.2.1, hz.2.2.2.2.2.2.2.2.2.2.2⟩ (fun hHeld => ?_)
          clear hK K
          refine norm_ (a' := ?_) ?_ ?_
          rotate_left
          · show Act.put _ (some 79) _ = _
            simp only [Act.put, List.setIfInBounds_toArray, List.set_cons_zero, List.set_cons_succ, i64_w, i32_w]
            rfl
          refine pure_ (i := 11) (N := some 80) (v := ?_) (a' := ?_) #[true, true, true, true, true, true, true, true, true, true, true, true] rfl rfl (by kernel_rfl) (fun _ _ _ h => h) (Or.inl ⟨by rfl, ?_⟩) ?_ ?_
          rotate_left
          · intro w'
            go_simp
            with_reducible rfl
          rotate_left
          · simp only [Act.put, List.setIfInBounds_toArray, List.set_cons_zero, List.set_cons_succ, i64_w, i32_w]
            rfl
          refine done_ (by kernel_rfl) ?_
          go_wp2
          go_roundw
          case rel => exact ⟨q + 1, by omega, by go_num, Lib.hid (s_trans HBr.out HB4.out)⟩
          case measure => simp [intOf]; omega
        · obtain rfl : q = ks.length := by omega
          go_wp2
          go_ret
          exact ⟨rfl, s_trans HB0.out HBr.out⟩
theorem same_walk : ∀ (n : Nat) (x : S33), SizeOf.sizeOf x < n → Small x → SameAt x
  | 0, x, h, _ => by omega
  | n + 1, x, h, hs => same_step x hs (fun y hy => same_walk n y (by have := kid_lt hy; omega) (hs.kids.2 y hy))
end Go.Proofs.YtmkalnljclhigaaGreat.Ch
