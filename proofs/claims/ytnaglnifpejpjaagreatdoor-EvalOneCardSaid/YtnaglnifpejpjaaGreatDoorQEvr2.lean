/-
  octroiref34.total (written by mkevr.py).
-/
import Derived.Test.YtnaglnifpejpjaaGreatDoorQEvr1
import Derived.Test.YtnaglnifpejpjaaGreatDoorQCkA
namespace Go.Proofs.YtnaglnifpejpjaaGreatDoor.Ch
set_option linter.unusedVariables false
set_option linter.unusedSimpArgs false
set_option linter.unnecessarySimpa false
open Go.RowKit Go.Proofs.YtnaglnifpejpjaaGreatDoorK Go.Proofs.YtnaglnifpejpjaaGreatDoor.XEvalRuns Go.Proofs.YtnaglnifpejpjaaGreatDoorW.PrintWords Go.Proofs.YtnaglnifpejpjaaGreatDoorW.PrintLast
theorem own_kd {w : World} {b : Nat} {l : List Int} {A : Option Addr} {c : Nat} (h : w.ownsRow b 3 1 (.slice A l.length c) l.length (l.map (Value.int .i64))) (hl : l.length ≤ 1000000) : Kd.C (Kd.int .i64) w A l.length l ∧ l.length ≤ c := by
 have hlc : l.length ≤ c := by
  rcases h.2 with ⟨e, h0⟩ | ⟨g', cap, cur, e, _, _, h1, _⟩
  ·omega
  ·cases e; exact h1
 refine ⟨⟨by simp, ?_, fun hn => ?_⟩, hlc⟩
 ·omega
 ·obtain ⟨g, cap, u, e, _, _, _, hu, hc⟩ := own_at h (show 0 < l.length from hn)
  cases e
  refine ⟨_, rfl, fun j p hp => ⟨[.int .i64 p], rfl, rfl, fun i u hu => ?_⟩⟩
  have hj : j < l.length := (List.getElem?_eq_some_iff.1 hp).1
  obtain ⟨g2, cap2, u2, e2, _, _, _, hu2, hc2⟩ := own_at h hj
  cases e2
  have hi : i = 0 := by have := (List.getElem?_eq_some_iff.1 hu).1; simpa using this
  subst hi
  have hs : (Kd.int .i64).sz = 1 := rfl
  rw [List.getElem?_map, hp] at hu2
  obtain rfl := (Option.some.inj hu2).symm
  have hu3 : u = .int .i64 p := by simpa using hu.symm
  subst hu3
  rw [hs, Nat.mul_one, Nat.add_zero, Addr.add_mid, Nat.zero_add]
  exact hc2
/-- The reference's sum is the program's. -/
def SumR : Prop := ∀ l : List Int, l.length ≤ 700 → ∃ a, octroiref01_Sum.f a l = some (Go.Proofs.YtnaglnifpejpjaaGreatDoorK.sumV l, Go.Proofs.YtnaglnifpejpjaaGreatDoorK.sumE l)
theorem sumr_any (hS : SumR) (A : Option Addr) (c : Nat) (l : List Int) (w : World) (hr : Kd.C (Kd.int .i64) w A l.length l) (hc : l.length ≤ c) (hl : l.length ≤ 700) : Calls Tryz.prog 16 #[.slice A l.length c] w fun e w' => e = .returned (.tuple #[.int .i64 (Go.Proofs.YtnaglnifpejpjaaGreatDoorK.sumV l), .int .i64 (Go.Proofs.YtnaglnifpejpjaaGreatDoorK.sumE l)]) ∧ Below w.heap.size w w' := by
 obtain ⟨a, ha⟩ := hS l hl
 exact octroiref01_Sum.calls a A c l _ _ w hr hc ha
set_option maxRecDepth 100000 in
set_option maxHeartbeats 8000000 in
theorem totr_any (hS : SumR) (x : S25) (hf : Fit x) (hsm : Small x) (A4 : Option Addr) (c4 : Nat) (A5 : Option Addr) (c5 : Nat) (A : Option Addr) (c : Nat) (rows : List S45) (w : World) (hin : EIn w x A4 c4 A5 c5) (hr : Kd.C k45 w A rows.length rows) (hc : rows.length ≤ c) (hl : rows.length ≤ 700) :
 Calls Tryz.prog 64 #[eV x A4 c4 A5 c5, .slice A rows.length c] w fun e w' => e = .returned (.tuple #[.int .i64 (totE rows x).1, .int .i64 (totE rows x).2]) ∧ Below w.heap.size w w' := by
 have hnm := fun W (hb : Below w.heap.size w W) => namesr_any x hf A4 c4 A5 c5 W (hin.below hb)
 obtain ⟨i0, hi0, hz0, hzs, hzb⟩ := info_parts infoI
 have hx1 : (w.alloc (.cells #[.int .i64 x.f0, .int .i64 x.f1, .string x.f2, .slice A4 x.f3.length c4, .slice A5 x.f4.length c5] 25)).heap[w.heap.size]? = some (.cells #[.int .i64 x.f0, .int .i64 x.f1, .string x.f2, .slice A4 x.f3.length c4, .slice A5 x.f4.length c5] 25 (0, 0)) := heap_alloc_last _ _
 have hb0 : Below w.heap.size w (w.alloc (.cells #[.int .i64 x.f0, .int .i64 x.f1, .string x.f2, .slice A4 x.f3.length c4, .slice A5 x.f4.length c5] 25)) := s_alloc (Below.refl _ _) _
 obtain ⟨W1, hW⟩ : ∃ W : World, W = (w.alloc (.cells #[.int .i64 x.f0, .int .i64 x.f1, .string x.f2, .slice A4 x.f3.length c4, .slice A5 x.f4.length c5] 25)) := ⟨_, rfl⟩
 rw [← hW] at hx1 hb0
 have HX1 := Lib.hid hx1
 have HB0 := Lib.hid hb0
 have HR := Lib.hid (Kd.C_below hr hb0)
 have HIN := Lib.hid (hin.below hb0)
 have hfl := hin.l3
 clear hr hin
 unfold totE
 obtain ⟨nb, hnb⟩ : ∃ nb, namesB x = nb := ⟨_, rfl⟩
 rw [hnb] at hnm ⊢
 have HNM := Lib.hid (hnm W1 hb0)
 clear hnm hnb
 obtain ⟨y0, y1, y2, y3, y4⟩ := cells5 hx1
 cases nb with
 | false =>
   clear hx1 hb0
   go_enter Tryz.func64, Tryz.ntmps64
   go_upto_region 1 with fail
   rw [← hW]
   clear hW
   go_wp2_with (go_at_call 111; refine HNM.out.mono ?_; rintro e w2 ⟨rfl, hb⟩; have HB2 := Lib.hid (s_trans HB0.out hb); clear hb)
   go_ret2
   exact ⟨rfl, HB2.out⟩
 | true =>
   clear hx1 hb0
   go_enter Tryz.func64, Tryz.ntmps64
   go_upto_region 1 with fail
   rw [← hW]
   clear hW
   go_upto_region 4 with (go_at_call 111; refine HNM.out.mono ?_; rintro e w2 ⟨rfl, hb⟩; have HB2 := Lib.hid hb; clear hb)
   clear y0 y1 y2 y3 y4
   go_wp2
   have HXE := Lib.hid (block_on HB2.out HX1.out)
   have HR2 := Lib.hid (Kd.C_below HR.out HB2.out)
   have HIN2 := Lib.hid (HIN.out.below HB2.out)
   go_loopw [6, 7] (fun v i wr => ∃ k : Nat, k ≤ rows.length ∧ i = .int .i64 k ∧ Hid (Below w2.heap.size w2 wr) ∧ Hid (wr.ownsRow w2.heap.size 3 1 v (amounts (rows.take k) x).length ((amounts (rows.take k) x).map (Value.int .i64)))) (fun _ i _ => rows.length - (intOf i).toNat)
   case atStart => exact ⟨0, Nat.zero_le _, rfl, Lib.hid (Below.refl _ _), by rw [List.take_zero]; exact Lib.hid (World.ownsRow_nil _ _ _ _)⟩
   case round =>
    obtain ⟨k, hk, rfl, HB, HO⟩ := hrel
    by_cases hlt : k < rows.length
    ·obtain ⟨ad0, e0, hrow⟩ := row_at (Kd.C_below HR2.out HB.out) k hlt
     have hsn := amounts_snoc rows x k hlt
     have hlen := amounts_len (rows.take k) x
     rw [List.length_take] at hlen
     cases e0
     generalize rows[k] = y at *
     generalize amounts (rows.take k) x = L at *
     have hsel := fun W (hb : Below wr.heap.size wr W) => selr_any y A4 c4 x.f3 W (Kd.C_below (Kd.C_below (HIN2.out.below HB.out).c3 (Below.refl _ _)) hb) hfl hsm.filters
     have hfld := fun W => fieldr_calls y x.f2 W
     generalize (fieldV y x.f2).1 = fvl at *
     generalize (fieldV y x.f2).2 = fok at *
     obtain ⟨y0, y1, y2, y3, y4⟩ := cells5 (block_on HB.out HXE.out)
     have hyy : (fun W : World => RowTake.At W (ad0.add (k * 17)) (rC y).toList ∧ W.cell? ⟨w.heap.size, 3, none⟩ = some (.slice A4 x.f3.length c4) ∧ W.cell? ⟨w.heap.size, 2, none⟩ = some (.string x.f2)) wr := ⟨hrow, y3, y2⟩
     have hcc : ∀ W : World, Below wr.heap.size wr W → RowTake.At W (ad0.add (k * 17)) (rC y).toList ∧ W.cell? ⟨w.heap.size, 3, none⟩ = some (.slice A4 x.f3.length c4) ∧ W.cell? ⟨w.heap.size, 2, none⟩ = some (.string x.f2) := fun W hb => by
      have q : ∀ (p : Addr) (v : Value), wr.cell? p = some v → W.cell? p = some v := fun p v e => (hb.cell (p := p) (World.block_lt_of_cell? wr _ e)).trans e
      exact ⟨At.on hrow hb, q _ _ y3, q _ _ y2⟩
     have HSN := Lib.hid hsn
     have HFLD := Lib.hid hfld
     have HC := Lib.hid hcc
     have HSEL := Lib.hid hsel
     have HY := Lib.hid hyy
     clear hrow hsn hfld hsel hcc hyy y0 y1 y2 y3 y4
     generalize hSS : selB y x.f3 = S at *
     clear hSS
     go_upto_region 7 with fail
     have hy := HY.out
     refine start_ (n := 7) (S := fun w' => RowTake.At w' (ad0.add (k * 17)) (rC y).toList ∧ w'.cell? ⟨w.heap.size, 3, none⟩ = some (.slice A4 x.f3.length c4) ∧ w'.cell? ⟨w.heap.size, 2, none⟩ = some (.string x.f2)) (ds := []) #[false, false, false, false, false, false, false] (by kernel_rfl) rfl rfl ⟨hy.1, hy.2.1, hy.2.2⟩ (fun hHeld => ?_)
     obtain ⟨wd, hwd⟩ : ∃ W, W = wr.drew := ⟨_, rfl⟩
     rw [← hwd] at hHeld
     rw [← hwd]
     have hdr : Below wr.heap.size wr wd := by rw [hwd]; exact s_drew (Below.refl _ _)
     have HBd := Lib.hid hdr
     clear hwd hdr
     refine pure_ (i := 0) (N := some 19) (v := ?_) (a' := ?_) #[true, false, false, false, false, false, false] rfl rfl (by kernel_rfl) (fun _ _ _ h => h) (Or.inl ⟨by rfl, ?_⟩) ?_ ?_
     rotate_left
     ·intro w'
      go_simp
      with_reducible rfl
     rotate_left
     ·simp only [Act.put, List.setIfInBounds_toArray, List.set_cons_zero, List.set_cons_succ, i64_w, i32_w]
      rfl
     refine pure_ (i := 2) (N := some 21) (v := ?_) (a' := ?_) #[true, false, true, false, false, false, false] rfl rfl (by kernel_rfl) (fun _ _ _ h => h) (Or.inl ⟨by rfl, ?_⟩) ?_ ?_
     rotate_left
     ·intro w'
      go_simp
      with_reducible rfl
     rotate_left
     ·simp only [Act.put, List.setIfInBounds_toArray, List.set_cons_zero, List.set_cons_succ, i64_w, i32_w]
      rfl
     refine pure_ (i := 3) (N := some 22) (v := ?_) (a' := ?_) #[true, false, true, true, false, false, false] rfl rfl (by kernel_rfl) (fun _ _ _ h => h) (Or.inl ⟨by rfl, ?_⟩) ?_ ?_
     rotate_left
     ·intro w'
      go_simp
      with_reducible rfl
     rotate_left
     ·simp only [Act.put, List.setIfInBounds_toArray, List.set_cons_zero, List.set_cons_succ, i64_w, i32_w]
      rfl
     refine pure_ (i := 4) (N := some 23) (v := ?_) (a' := ?_) #[true, false, true, true, true, false, false] rfl rfl (by kernel_rfl) (fun _ _ _ h => h) (Or.inl ⟨by rfl, ?_⟩) ?_ ?_
     rotate_left
     ·intro w'
      go_simp
      with_reducible rfl
     rotate_left
     ·simp only [Act.put, List.setIfInBounds_toArray, List.set_cons_zero, List.set_cons_succ, i64_w, i32_w]
      rfl
     refine take_ (i := 1) (N := some 20) (v := ?_) (a' := ?_) #[true, true, true, true, true, false, false] rfl rfl (by kernel_rfl) (fun _ _ _ h => h) (Or.inl ⟨by rfl, ?_⟩) hHeld ?_ ?_
     rotate_left
     ·rintro w' ⟨s0, s1, s2⟩
      go_simp
      with_reducible rfl
     rotate_left
     ·simp only [Act.put, List.setIfInBounds_toArray, List.set_cons_zero, List.set_cons_succ, i64_w, i32_w]
      rfl
     refine take_ (i := 5) (N := some 24) (v := ?_) (a' := ?_) #[true, true, true, true, true, true, false] rfl rfl (by kernel_rfl) (fun _ _ _ h => h) (Or.inl ⟨by rfl, ?_⟩) hHeld ?_ ?_
     rotate_left
     ·rintro w' ⟨s0, s1, s2⟩
      apply RowTake.row_take_at (ty := 45) (cs := rC y) (hu := Tryz.underlying45) (hd := rfl); (case ho => rfl); (case hx => rfl); (case hc => exact s0); (case hi => kernel_rfl); (case hr => with_reducible rfl)
     rotate_left
     ·simp only [Act.put, List.setIfInBounds_toArray, List.set_cons_zero, List.set_cons_succ, i64_w, i32_w]
      rfl
     refine one_ (i := 6) (N := some 25) #[true, true, true, true, true, true, true] rfl rfl (by kernel_rfl) (by decide) (fun K hK => ?_)
     refine goes_ Tryz.func14 (by kernel_rfl) rfl #[.slice A4 x.f3.length c4, rV y] (by rfl) rfl rfl (by simp only [List.map_toArray, List.map_cons, List.map_nil]; rfl) ?_
     with_reducible refine (HSEL.out wd HBd.out).mono ?_
     rintro e w4 ⟨rfl, hb4⟩
     refine ⟨_, rfl, ?_⟩
     have HB4 := Lib.hid (s_trans HBd.out hb4)
     have hz := HC.out _ HB4.out
     clear hb4
     refine hK.out _ _ ⟨hz.1, hz.2.1, hz.2.2⟩ (fun hHeld => ?_)
     clear hK K
     refine norm_ (a' := ?_) ?_ ?_
     rotate_left
     ·show Act.put _ (some 25) _ = _
      simp only [Act.put, List.setIfInBounds_toArray, List.set_cons_zero, List.set_cons_succ, i64_w, i32_w]
      rfl
     refine done_ (by kernel_rfl) ?_
     cases S
     ·have hsn : amounts (rows.take (k + 1)) x = L := by rw [HSN.out, if_neg (by decide), List.append_nil]
      have HSN2 := Lib.hid hsn
      clear hsn HSN HFLD hz
      go_wp2
      go_roundw
      case rel => exact ⟨k + 1, by omega, by go_num, Lib.hid (s_trans HB.out HB4.out), by rw [HSN2.out]; exact Lib.hid (own_on HO.out HB4.out)⟩
      case measure => simp [intOf]; omega
     ·have hsn : amounts (rows.take (k + 1)) x = L ++ [fvl] := by rw [HSN.out, if_pos rfl]
      have HSN2 := Lib.hid hsn
      clear hsn HSN
      have HZ := Lib.hid hz
      clear hz
      go_upto_region 8 with fail
      have hz := HZ.out
      refine start_ (n := 12) (S := fun w' => RowTake.At w' (ad0.add (k * 17)) (rC y).toList ∧ w'.cell? ⟨w.heap.size, 3, none⟩ = some (.slice A4 x.f3.length c4) ∧ w'.cell? ⟨w.heap.size, 2, none⟩ = some (.string x.f2)) (ds := []) #[false, false, false, false, false, false, false, false, false, false, false, false] (by kernel_rfl) rfl rfl ⟨hz.1, hz.2.1, hz.2.2⟩ (fun hHeld => ?_)
      obtain ⟨we, hwe⟩ : ∃ W, W = w4.drew := ⟨_, rfl⟩
      rw [← hwe] at hHeld
      rw [← hwe]
      have hdr2 : Below w4.heap.size w4 we := by rw [hwe]; exact s_drew (Below.refl _ _)
      have HBe := Lib.hid (s_trans HB4.out hdr2)
      clear hwe hdr2
      refine pure_ (i := 0) (N := some 27) (v := ?_) (a' := ?_) #[true, false, false, false, false, false, false, false, false, false, false, false] rfl rfl (by kernel_rfl) (fun _ _ _ h => h) (Or.inl ⟨by rfl, ?_⟩) ?_ ?_
      rotate_left
      ·intro w'
       go_simp
       with_reducible rfl
      rotate_left
      ·simp only [Act.put, List.setIfInBounds_toArray, List.set_cons_zero, List.set_cons_succ, i64_w, i32_w]
       rfl
      refine pure_ (i := 1) (N := some 28) (v := ?_) (a' := ?_) #[true, true, false, false, false, false, false, false, false, false, false, false] rfl rfl (by kernel_rfl) (fun _ _ _ h => h) (Or.inl ⟨by rfl, ?_⟩) ?_ ?_
      rotate_left
      ·intro w'
       go_simp
       with_reducible rfl
      rotate_left
      ·simp only [Act.put, List.setIfInBounds_toArray, List.set_cons_zero, List.set_cons_succ, i64_w, i32_w]
       rfl
      refine pure_ (i := 2) (N := some 29) (v := ?_) (a' := ?_) #[true, true, true, false, false, false, false, false, false, false, false, false] rfl rfl (by kernel_rfl) (fun _ _ _ h => h) (Or.inl ⟨by rfl, ?_⟩) ?_ ?_
      rotate_left
      ·intro w'
       go_simp
       with_reducible rfl
      rotate_left
      ·simp only [Act.put, List.setIfInBounds_toArray, List.set_cons_zero, List.set_cons_succ, i64_w, i32_w]
       rfl
      refine pure_ (i := 4) (N := some 31) (v := ?_) (a' := ?_) #[true, true, true, false, true, false, false, false, false, false, false, false] rfl rfl (by kernel_rfl) (fun _ _ _ h => h) (Or.inl ⟨by rfl, ?_⟩) ?_ ?_
      rotate_left
      ·intro w'
       go_simp
       with_reducible rfl
      rotate_left
      ·simp only [Act.put, List.setIfInBounds_toArray, List.set_cons_zero, List.set_cons_succ, i64_w, i32_w]
       rfl
      refine take_ (i := 3) (N := some 30) (v := ?_) (a' := ?_) #[true, true, true, true, true, false, false, false, false, false, false, false] rfl rfl (by kernel_rfl) (fun _ _ _ h => h) (Or.inl ⟨by rfl, ?_⟩) hHeld ?_ ?_
      rotate_left
      ·rintro w' ⟨s0, s1, s2⟩
       apply RowTake.row_take_at (ty := 45) (cs := rC y) (hu := Tryz.underlying45) (hd := rfl); (case ho => rfl); (case hx => rfl); (case hc => exact s0); (case hi => kernel_rfl); (case hr => with_reducible rfl)
      rotate_left
      ·simp only [Act.put, List.setIfInBounds_toArray, List.set_cons_zero, List.set_cons_succ, i64_w, i32_w]
       rfl
      refine take_ (i := 5) (N := some 32) (v := ?_) (a' := ?_) #[true, true, true, true, true, true, false, false, false, false, false, false] rfl rfl (by kernel_rfl) (fun _ _ _ h => h) (Or.inl ⟨by rfl, ?_⟩) hHeld ?_ ?_
      rotate_left
      ·rintro w' ⟨s0, s1, s2⟩
       go_simp
       with_reducible rfl
      rotate_left
      ·simp only [Act.put, List.setIfInBounds_toArray, List.set_cons_zero, List.set_cons_succ, i64_w, i32_w]
       rfl
      refine one_ (i := 6) (N := some 33) #[true, true, true, true, true, true, true, false, false, false, false, false] rfl rfl (by kernel_rfl) (by decide) (fun K hK => ?_)
      refine goes_ Tryz.func112 (by kernel_rfl) rfl #[rV y, .string x.f2] (by rfl) rfl rfl (by simp only [List.map_toArray, List.map_cons, List.map_nil]; rfl) ?_
      with_reducible refine (HFLD.out we).mono ?_
      rintro e w5 ⟨rfl, hb5⟩
      refine ⟨_, rfl, ?_⟩
      have HB5 := Lib.hid (s_trans HBe.out hb5)
      have hz := HC.out _ HB5.out
      clear hb5
      refine hK.out _ _ ⟨hz.1, hz.2.1, hz.2.2⟩ (fun hHeld => ?_)
      clear hK K
      refine norm_ (a' := ?_) ?_ ?_
      rotate_left
      ·show Act.put _ (some 33) _ = _
       simp only [Act.put, List.setIfInBounds_toArray, List.set_cons_zero, List.set_cons_succ, i64_w, i32_w]
       rfl
      refine pure_ (i := 7) (N := some 26) (v := ?_) (a' := ?_) #[true, true, true, true, true, true, true, true, false, false, false, false] rfl rfl (by kernel_rfl) (fun _ _ _ h => h) (Or.inl ⟨by rfl, ?_⟩) ?_ ?_
      rotate_left
      ·intro w'
       go_simp
       with_reducible rfl
      rotate_left
      ·simp only [Act.put, List.setIfInBounds_toArray, List.set_cons_zero, List.set_cons_succ, i64_w, i32_w]
       rfl
      refine pure_ (i := 8) (N := some 34) (v := ?_) (a' := ?_) #[true, true, true, true, true, true, true, true, true, false, false, false] rfl rfl (by kernel_rfl) (fun _ _ _ h => h) (Or.inl ⟨by rfl, ?_⟩) ?_ ?_
      rotate_left
      ·intro w'
       go_simp
       with_reducible rfl
      rotate_left
      ·simp only [Act.put, List.setIfInBounds_toArray, List.set_cons_zero, List.set_cons_succ, i64_w, i32_w]
       rfl
      refine pure_ (i := 9) (N := some 35) (v := ?_) (a' := ?_) #[true, true, true, true, true, true, true, true, true, true, false, false] rfl rfl (by kernel_rfl) (fun _ _ _ h => h) (Or.inl ⟨by rfl, ?_⟩) ?_ ?_
      rotate_left
      ·intro w'
       go_simp
       with_reducible rfl
      rotate_left
      ·simp only [Act.put, List.setIfInBounds_toArray, List.set_cons_zero, List.set_cons_succ, i64_w, i32_w]
       rfl
      refine pure_ (i := 10) (N := some 8) (v := ?_) (a' := ?_) #[true, true, true, true, true, true, true, true, true, true, true, false] rfl rfl (by kernel_rfl) (fun _ _ _ h => h) (Or.inl ⟨by rfl, ?_⟩) ?_ ?_
      rotate_left
      ·intro w'
       go_simp
       with_reducible rfl
      rotate_left
      ·simp only [Act.put, List.setIfInBounds_toArray, List.set_cons_zero, List.set_cons_succ, i64_w, i32_w]
       rfl
      refine pure_ (i := 11) (N := some 9) (v := ?_) (a' := ?_) #[true, true, true, true, true, true, true, true, true, true, true, true] rfl rfl (by kernel_rfl) (fun _ _ _ h => h) (Or.inl ⟨by rfl, ?_⟩) ?_ ?_
      rotate_left
      ·intro w'
       go_simp
       with_reducible rfl
      rotate_left
      ·simp only [Act.put, List.setIfInBounds_toArray, List.set_cons_zero, List.set_cons_succ, i64_w, i32_w]
       rfl
      refine done_ (by kernel_rfl) ?_
      clear hz
      go_upto_region 9 with fail
      obtain ⟨wy, hwy⟩ : ∃ W : World, W = w5.alloc (.cells #[.int .i64 fvl] 3) := ⟨_, rfl⟩
      have hby : Below w5.heap.size w5 wy := by rw [hwy]; exact s_alloc (Below.refl _ _) _
      have hOy := own_on (own_on HO.out HB5.out) hby
      have hnews := int_news w5 fvl
      rw [← hwy] at hnews
      have hBy := s_trans (s_trans HB.out HB5.out) hby
      have hbase : w2.heap.size ≤ wy.heap.size := hBy.size
      have HOY := Lib.hid hOy
      have HNW := Lib.hid hnews
      have HBY := Lib.hid hBy
      obtain ⟨ad5, cap5, e5⟩ := own_slice hOy
      cases e5
      clear hby hOy hnews hBy
      go_wp2_with (at_builtin; (try rw [← hwy]); refine wpList_append_own_at _ rfl _ _ 49 rfl w2.heap.size 3 i0 _ 1 8 Tryz.underlying49 hi0 hz0 hzs hzb rfl (by decide) _ _ _ rfl HOY.out ⟨w5.heap.size, 0, none⟩ 1 1 [.int .i64 fvl] rfl rfl HNW.out (by simp [Value.oneCell']) (by unfold maxLen; omega) (by omega) hbase ?_; intro v' w6 hown5 hg5 _ hat5; obtain ⟨ad', cap', rfl⟩ := own_slice hown5; have HO5 := Lib.hid hown5; have HG5 := Lib.hid hg5; clear hown5 hg5 hat5 hwy)
      go_roundw
      case rel => exact ⟨k + 1, by omega, by go_num, Lib.hid (low_grow HBY.out HOY.out HG5.out), by rw [HSN2.out, List.length_append, List.map_append]; exact HO5⟩
      case measure => simp [intOf]; omega
    ·obtain rfl : k = rows.length := by omega
     have hO := HO.out
     rw [List.take_length] at hO
     have hlen := amounts_len rows x
     obtain ⟨L, hL⟩ : ∃ L, L = amounts rows x := ⟨_, rfl⟩
     rw [← hL] at hO hlen
     have HL := Lib.hid hL
     clear hL
     obtain ⟨ad5, cap5, rfl⟩ := own_slice hO
     have hkd := own_kd hO (by omega)
     have HRI := Lib.hid (sumr_any hS ad5 cap5 L wr hkd.1 hkd.2 (by omega))
     clear hO hkd
     go_wp2_with (go_at_call 16; refine HRI.out.mono ?_; rintro e w3 ⟨rfl, hb⟩; have HB3 := Lib.hid (s_trans (s_trans HB2.out HB.out) hb); clear hb)
     go_ret2
     exact ⟨by rw [← HL.out]; rfl, s_trans HB0.out HB3.out⟩
end Go.Proofs.YtnaglnifpejpjaaGreatDoor.Ch
