/-
 CheckerChecks: the law's walk.
-/
import Derived.Test.YtmkalnljclhigaaGreatQCk11
import Derived.Test.YtmkalnljclhigaaGreatQXCheckerChecksx4
import Derived.Test.YtmkalnljclhigaaGreatQCh34v
namespace Go.Proofs.YtmkalnljclhigaaGreat.Ch
set_option linter.unusedVariables false
set_option linter.unusedSimpArgs false
set_option linter.unnecessarySimpa false
open Go.RowKit Go.Maps Go.Proofs.YtmkalnljclhigaaGreatK Go.Proofs.YtmkalnljclhigaaGreat.XCheckerChecks Go.Proofs.YtmkalnljclhigaaGreatW.PrintWords Go.Proofs.YtmkalnljclhigaaGreatW.PrintLast

theorem tOf_not : ∀ (ns : List Int) (y : Int), y ∉ ns → tOf ns y = 0
 | [], y, _ => rfl
 | n :: ns, y, h => by
  rw [tOf, if_neg (fun e => h (by rw [e]; exact List.mem_cons_self)), if_neg (fun e => h (List.mem_cons_of_mem _ e))]
set_option maxRecDepth 100000 in
theorem box_out (w : World) (p : Nat) (l : List S35) (o : List Nat) (i : Int) (hi : ¬ (0 ≤ i ∧ i < l.length)) (h : PlanIn w p l o) : Calls Tryz.prog 17 #[.pointer (some ⟨p, 0, none⟩), .int .i64 i] w fun e w' => e = .returned (.tuple #[.agg zBox, .bool false]) ∧ Below w.heap.size w w' := by
 obtain ⟨wa, hwa⟩ : ∃ W : World, W = w.alloc (.cells zBox 35) := ⟨_, rfl⟩
 have hba : Below w.heap.size w wa := by rw [hwa]; exact s_alloc (Below.refl _ _) _
 have hxa : wa.heap[w.heap.size]? = some (.cells zBox 35 (0, 0)) := by rw [hwa]; exact Array.getElem?_push_size
 have hn := has_plan wa p l o i (h.below hba)
 rw [decide_eq_false hi] at hn
 have HN := Lib.hid hn
 have HB := Lib.hid hba
 have HX := Lib.hid hxa
 clear hn h hba hxa
 go_enter Tryz.func17, Tryz.ntmps17
 go_upto_region 1 with fail
 rw [← hwa]
 clear hwa
 go_wp2_with (go_at_call 44; refine HN.out.mono ?_; rintro e w1 ⟨rfl, hb⟩; have HB1 := Lib.hid (s_trans HB.out hb); have HX1 := Lib.hid (block_on hb HX.out); obtain ⟨x0, x1, x2, x3, x4, x5⟩ := cells6 HX1.out; have f0 := blockFree HX1.out 0; have f1 := blockFree HX1.out 1; have f2 := blockFree HX1.out 2; have f3 := blockFree HX1.out 3; have f4 := blockFree HX1.out 4; have f5 := blockFree HX1.out 5; clear hb)
 have hq : ((((((w1.setCell ⟨w.heap.size, 0, none⟩ (.int .i64 0)).setCell ⟨w.heap.size, 1, none⟩ (.int .i64 0)).setCell ⟨w.heap.size, 2, none⟩ (.int .i64 0)).setCell ⟨w.heap.size, 3, none⟩ (.string ⟨#[]⟩)).setCell ⟨w.heap.size, 4, none⟩ (.slice none 0 0)).setCell ⟨w.heap.size, 5, none⟩ (.slice none 0 0)).heap[w.heap.size]? = some (.cells zBox 35 (0, 0)) := by
  have h0 := Go.Joins.block_setCell (i := 0) HX1.out (.int .i64 0)
  have h1 := Go.Joins.block_setCell (i := 1) h0 (.int .i64 0)
  have h2 := Go.Joins.block_setCell (i := 2) h1 (.int .i64 0)
  have h3 := Go.Joins.block_setCell (i := 3) h2 (.string ⟨#[]⟩)
  have h4 := Go.Joins.block_setCell (i := 4) h3 (.slice none 0 0)
  have h5 := Go.Joins.block_setCell (i := 5) h4 (.slice none 0 0)
  simpa using h5
 have hz := s_set (s_set (s_set (s_set (s_set (s_set HB1.out ⟨w.heap.size, 0, none⟩ (.int .i64 0) (Nat.le_refl _)) ⟨w.heap.size, 1, none⟩ (.int .i64 0) (Nat.le_refl _)) ⟨w.heap.size, 2, none⟩ (.int .i64 0) (Nat.le_refl _)) ⟨w.heap.size, 3, none⟩ (.string ⟨#[]⟩) (Nat.le_refl _)) ⟨w.heap.size, 4, none⟩ (.slice none 0 0) (Nat.le_refl _)) ⟨w.heap.size, 5, none⟩ (.slice none 0 0) (Nat.le_refl _)
 generalize ((((((w1.setCell ⟨w.heap.size, 0, none⟩ (.int .i64 0)).setCell ⟨w.heap.size, 1, none⟩ (.int .i64 0)).setCell ⟨w.heap.size, 2, none⟩ (.int .i64 0)).setCell ⟨w.heap.size, 3, none⟩ (.string ⟨#[]⟩)).setCell ⟨w.heap.size, 4, none⟩ (.slice none 0 0)).setCell ⟨w.heap.size, 5, none⟩ (.slice none 0 0)) = wz at *
 obtain ⟨y0, y1, y2, y3, y4, y5⟩ := cells6 hq
 refine bodyPost_ret (v := .tuple #[.agg zBox, .bool false]) (by simp [results, Tryz.results17, go_sem, y0, y1, y2, y3, y4, y5]) rfl ⟨rfl, hz⟩
theorem find_two (ns : List Int) (n : Int) : ∃ T F : Int, ∃ K : Bool, tOf ns n = T ∧ findB ns n = F ∧ kOf ns n = K ∧ decide (0 ≤ F) = K ∧ (if F < 0 then 0 else F) = T ∧ -1 ≤ F := by
 refine ⟨_, _, _, rfl, rfl, rfl, (kOf_find ns n).symm, ?_, ?_⟩
 ·unfold findB
  have := tOf_nonneg ns n
  by_cases h : n ∈ ns
  ·rw [if_pos h, if_neg (by omega)]
  ·rw [if_neg h, if_pos (by omega), tOf_not ns n h]
 ·unfold findB
  have := tOf_nonneg ns n
  split <;> omega
open Go.Proofs.YtmkalnljclhigaaGreatW.PrintMore in
attribute [local go_sem] max2_int max_two
set_option maxRecDepth 100000 in
set_option maxHeartbeats 16000000 in
theorem checks_any (w : World) (A : Option Addr) (c : Nat) (l : List S35) (n i : Int) (hr : Kd.C k35 w A l.length l) (hc : l.length ≤ c) (hl : l.length ≤ 140737488351232) (hf : ∀ x ∈ l, Fit x.f1 ∧ Thin x.f1) (hn : (Lit.int .i64 n).wf = true) :
  Calls Tryz.prog 3 #[.slice A l.length c, .int .i64 n, .int .i64 i] w fun e w' => e = .returned (.bool true) ∧ Below w.heap.size w w' := by
 obtain ⟨a, r, hfew, hmean⟩ := Few_at l hl (fun x hx => (hf x hx).1)
 have hF := octroilaw31_Few.calls a A c l r w hr hc hfew
 cases r with
 | false =>
  have HF := Lib.hid hF
  clear hF hr hc hmean hfew hf hl hn
  go_enter Tryz.func3, Tryz.ntmps3
  go_wp2_with (first
   | (go_at_call 4; refine HF.out.mono ?_; rintro e w1 ⟨rfl, hb1⟩; have HB1 := Lib.hid hb1; clear hb1)
   | (go_at_call 5; refine (lives_any _).mono ?_; rintro e w2 ⟨rfl, hb2⟩; have HB2 := Lib.hid (s_trans HB1.out hb2); clear hb2))
  go_ret
  exact ⟨rfl, HB2.out⟩
 | true =>
  obtain ⟨hlen, hsm⟩ := hmean rfl
  have hx0 : ∀ x ∈ l, Fit x.f1 ∧ Thin x.f1 ∧ parts x.f1 ≤ 400 := fun x hx => ⟨(hf x hx).1, (hf x hx).2, (hsm x hx).2⟩
  have hsmall := fun x hx => (small_of x.f1 400 (hsm x hx).2 (by omega)).1
  have hrefs : ∀ x ∈ l, (refsB x.f1).length ≤ 1000000 := fun x hx => by
   have h1 := (small_of x.f1 400 (hsm x hx).2 (by omega)).2
   have h2 := (hsm x hx).2
   omega
  have hchk := fun W (hb : Below w.heap.size w W) => check_any W A c l (Kd.C_below hr hb) hc hsmall hrefs
  have hckr := fun W (hb : Below w.heap.size w W) => checkr_any W A c l (Kd.C_below hr hb) hc hlen hx0
  have HF := Lib.hid hF
  have HCHK := Lib.hid hchk
  have HCKR := Lib.hid hckr
  have HX0 := Lib.hid hx0
  have HR := Lib.hid hr
  clear hF hr hmean hfew hf hl hsm hsmall hrefs hchk hckr hx0
  go_enter Tryz.func3, Tryz.ntmps3
  go_upto_region 3 with (go_at_call 4; refine HF.out.mono ?_; rintro e w1 ⟨rfl, hb1⟩; have HB1 := Lib.hid hb1; clear hb1)
  by_cases he : checkE l = 0
  ·have hck : Calls Tryz.prog 6 #[.slice A l.length c] w1 fun e w' => ∃ p o, arr (needsL l) = some o ∧ e = .returned (.tuple #[.pointer (some ⟨p, 0, none⟩), .int .i64 0]) ∧ PlanIn w' p l o ∧ Below w1.heap.size w1 w' := (HCHK.out w1 HB1.out).mono fun e w' h => by
    obtain ⟨h1, h2⟩ := h
    rcases h2 with ⟨h2, _⟩ | ⟨_, p, o, h3, h4, h5⟩
    ·exact absurd he h2
    ·exact ⟨p, o, h3, h4, h5, h1⟩
   have hckr := HCKR.out
   rw [he] at hckr
   have HCK2 := Lib.hid hckr
   have HCK := Lib.hid hck
   have hknown := known_of hlen HX0.out he
   have HKN := Lib.hid hknown
   clear hck hckr he hknown HCKR HCHK
   go_wp2_with (first
    | (go_at_call 6; refine HCK.out.mono ?_; rintro e w2 ⟨p, o, ho, rfl, hp2, hb2⟩; have HO := Lib.hid ho; have HP2 := Lib.hid hp2; have HB2 := Lib.hid (s_trans HB1.out hb2); clear hb2 hp2 ho)
    | (go_at_call 7; refine (HCK2.out w2 HB2.out).mono ?_; rintro e w3 ⟨rfl, hb3⟩; have HB3 := Lib.hid (s_trans HB2.out hb3); have HP3 := Lib.hid (HP2.out.below hb3); clear hb3))
   go_loopw [40] (fun v wr => ∃ k : Nat, k ≤ l.length ∧ v = .int .i64 k ∧ Hid (Below w3.heap.size w3 wr)) (fun v _ => l.length - (intOf v).toNat)
   case atStart => exact ⟨0, Nat.zero_le _, rfl, Lib.hid (Below.refl _ _)⟩
   case round =>
    obtain ⟨k, hk, rfl, HBr⟩ := hrel
    by_cases hlt : k < l.length
    ·obtain ⟨ad0, A4, c4, A5, c5, e0, q0, q1, q2, q3, q4, q5, g3, g4, g5, g6⟩ := at_T35 (Kd.C_below HR.out (s_trans HB3.out HBr.out)) (k : Int) (by omega) (by omega)
     rw [rd43 l k hlt] at q0 q1 q2 q3 q4 q5 g3 g4 g5 g6
     rw [Int.toNat_natCast] at q0 q1 q2 q3 q4 q5
     cases e0
     have hx := HX0.out _ (List.getElem_mem hlt)
     have hsm := (small_of l[k].f1 400 hx.2.2 (by omega)).1
     generalize l[k] = y at *
     obtain ⟨wa, hwa⟩ : ∃ W : World, W = wr.alloc (.cells #[.int .i64 y.f0, .int .i64 y.f1.f0, .int .i64 y.f1.f1, .string y.f1.f2, .slice A4 y.f1.f3.length c4, .slice A5 y.f1.f4.length c5] 35) := ⟨_, rfl⟩
     have hba : Below wr.heap.size wr wa := by rw [hwa]; exact s_alloc (Below.refl _ _) _
     have hxa : wa.heap[wr.heap.size]? = some (.cells #[.int .i64 y.f0, .int .i64 y.f1.f0, .int .i64 y.f1.f1, .string y.f1.f2, .slice A4 y.f1.f3.length c4, .slice A5 y.f1.f4.length c5] 35 (0, 0)) := by rw [hwa]; exact Array.getElem?_push_size
     have hin : EIn wa y.f1 A4 c4 A5 c5 := EIn.below ⟨g3, g4, g5, g6⟩ hba
     have hgr := fun W (hb : Below wa.heap.size wa W) => goodr_any y.f1 hx.1 hx.2.1 A4 c4 A5 c5 W (hin.below hb)
     have hnp := fun W (hb : Below wa.heap.size wa W) => names_at y.f1 hsm A4 c4 A5 c5 W (hin.below hb)
     have hnr := fun W (hb : Below wa.heap.size wa W) => namesr_any y.f1 hx.1 A4 c4 A5 c5 W (hin.below hb)
     have HX := Lib.hid hxa
     have HBA := Lib.hid (s_trans HBr.out hba)
     clear g3 g4 g5 g6 hxa hba hin hx hsm
     generalize namesB y.f1 = NB at *
     have HNP := Lib.hid hnp
     have HNR := Lib.hid hnr
     clear hnp hnr
     cases hgb : goodB y.f1 with
     | true =>
      rw [hgb] at hgr
      have HGR := Lib.hid hgr
      clear hgr hgb
      cases NB
      all_goals
       go_upto_region 10 with fail
       rw [← hwa]
       clear hwa q0 q1 q2 q3 q4 q5
       obtain ⟨x0, x1, x2, x3, x4, x5⟩ := cells6 HX.out
       refine start_ (n := 12) (S := fun w' => w'.cell? ⟨wr.heap.size, 1, none⟩ = some (.int .i64 y.f1.f0) ∧ w'.cell? ⟨wr.heap.size, 2, none⟩ = some (.int .i64 y.f1.f1) ∧ w'.cell? ⟨wr.heap.size, 3, none⟩ = some (.string y.f1.f2) ∧ w'.cell? ⟨wr.heap.size, 4, none⟩ = some (.slice A4 y.f1.f3.length c4) ∧ w'.cell? ⟨wr.heap.size, 5, none⟩ = some (.slice A5 y.f1.f4.length c5)) (ds := []) #[false, false, false, false, false, false, false, false, false, false, false, false] (by kernel_rfl) rfl rfl ⟨x1, x2, x3, x4, x5⟩ (fun hHeld => ?_)
       obtain ⟨wd, hwd⟩ : ∃ W, W = wa.drew := ⟨_, rfl⟩
       rw [← hwd] at hHeld
       rw [← hwd]
       have hdr : Below wa.heap.size wa wd := by rw [hwd]; exact s_drew (Below.refl _ _)
       have HBd := Lib.hid hdr
       clear hwd hdr
       refine pure_ (i := 0) (N := some 44) (v := ?_) (a' := ?_) #[true, false, false, false, false, false, false, false, false, false, false, false] rfl rfl (by kernel_rfl) (fun _ _ _ h => h) (Or.inl ⟨by rfl, ?_⟩) ?_ ?_
       rotate_left
       ·intro w'
        go_simp
        with_reducible rfl
       rotate_left
       ·simp only [Act.put, List.setIfInBounds_toArray, List.set_cons_zero, List.set_cons_succ, i64_w, i32_w]
        rfl
       refine take_ (i := 1) (N := some 45) (v := ?_) (a' := ?_) #[true, true, false, false, false, false, false, false, false, false, false, false] rfl rfl (by kernel_rfl) (fun _ _ _ h => h) (Or.inl ⟨by rfl, ?_⟩) hHeld ?_ ?_
       rotate_left
       ·rintro w' ⟨s0, s1, s2, s3, s4⟩
        go_simp
        with_reducible rfl
       rotate_left
       ·simp only [Act.put, List.setIfInBounds_toArray, List.set_cons_zero, List.set_cons_succ, i64_w, i32_w]
        rfl
       refine one_ (i := 2) (N := some 46) #[true, true, true, false, false, false, false, false, false, false, false, false] rfl rfl (by kernel_rfl) (by decide) (fun K hK => ?_)
       refine goes_ Tryz.func8 (by kernel_rfl) rfl #[eV y.f1 A4 c4 A5 c5] (by rfl) rfl rfl (by simp only [List.map_toArray, List.map_cons, List.map_nil]; rfl) ?_
       with_reducible refine (HGR.out wd HBd.out).mono ?_
       rintro e w4 ⟨rfl, hb4⟩
       refine ⟨_, rfl, ?_⟩
       have HB4 := Lib.hid (s_trans HBd.out hb4)
       have hz := cells6 (block_on HB4.out HX.out)
       clear hb4
       refine hK.out _ _ ⟨hz.2.1, hz.2.2.1, hz.2.2.2.1, hz.2.2.2.2.1, hz.2.2.2.2.2⟩ (fun hHeld => ?_)
       clear hK K
       refine norm_ (a' := ?_) ?_ ?_
       rotate_left
       ·show Act.put _ (some 46) _ = _
        simp only [Act.put, List.setIfInBounds_toArray, List.set_cons_zero, List.set_cons_succ, i64_w, i32_w]
        rfl
       refine pure_ (i := 3) (N := some 47) (v := ?_) (a' := ?_) #[true, true, true, true, false, false, false, false, false, false, false, false] rfl rfl (by kernel_rfl) (fun _ _ _ h => h) (Or.inl ⟨by rfl, ?_⟩) ?_ ?_
       rotate_left
       ·intro w'
        go_simp
        with_reducible rfl
       rotate_left
       ·simp only [Act.put, List.setIfInBounds_toArray, List.set_cons_zero, List.set_cons_succ, i64_w, i32_w]
        rfl
       refine pure_ (i := 4) (N := some 48) (v := ?_) (a' := ?_) #[true, true, true, true, true, false, false, false, false, false, false, false] rfl rfl (by kernel_rfl) (fun _ _ _ h => h) (Or.inl ⟨by rfl, ?_⟩) ?_ ?_
       rotate_left
       ·intro w'
        go_simp
        with_reducible rfl
       rotate_left
       ·simp only [Act.put, List.setIfInBounds_toArray, List.set_cons_zero, List.set_cons_succ, i64_w, i32_w]
        rfl
       refine pure_ (i := 7) (N := some 51) (v := ?_) (a' := ?_) #[true, true, true, true, true, false, false, true, false, false, false, false] rfl rfl (by kernel_rfl) (fun _ _ _ h => h) (Or.inl ⟨by rfl, ?_⟩) ?_ ?_
       rotate_left
       ·intro w'
        go_simp
        with_reducible rfl
       rotate_left
       ·simp only [Act.put, List.setIfInBounds_toArray, List.set_cons_zero, List.set_cons_succ, i64_w, i32_w]
        rfl
       refine take_ (i := 5) (N := some 49) (v := ?_) (a' := ?_) #[true, true, true, true, true, true, false, true, false, false, false, false] rfl rfl (by kernel_rfl) (fun _ _ _ h => h) (Or.inl ⟨by rfl, ?_⟩) hHeld ?_ ?_
       rotate_left
       ·rintro w' ⟨s0, s1, s2, s3, s4⟩
        go_simp
        with_reducible rfl
       rotate_left
       ·simp only [Act.put, List.setIfInBounds_toArray, List.set_cons_zero, List.set_cons_succ, i64_w, i32_w]
        rfl
       refine take_ (i := 8) (N := some 52) (v := ?_) (a' := ?_) #[true, true, true, true, true, true, false, true, true, false, false, false] rfl rfl (by kernel_rfl) (fun _ _ _ h => h) (Or.inl ⟨by rfl, ?_⟩) hHeld ?_ ?_
       rotate_left
       ·rintro w' ⟨s0, s1, s2, s3, s4⟩
        go_simp
        with_reducible rfl
       rotate_left
       ·simp only [Act.put, List.setIfInBounds_toArray, List.set_cons_zero, List.set_cons_succ, i64_w, i32_w]
        rfl
       refine one_ (i := 6) (N := some 50) #[true, true, true, true, true, true, true, true, true, false, false, false] rfl rfl (by kernel_rfl) (by decide) (fun K hK => ?_)
       refine goes_ Tryz.func9 (by kernel_rfl) rfl #[eV y.f1 A4 c4 A5 c5] (by rfl) rfl rfl (by simp only [List.map_toArray, List.map_cons, List.map_nil]; rfl) ?_
       with_reducible refine (HNP.out w4 HB4.out).mono ?_
       rintro e w5 ⟨rfl, hb5⟩
       refine ⟨_, rfl, ?_⟩
       have HB5 := Lib.hid (s_trans HB4.out hb5)
       have hz := cells6 (block_on HB5.out HX.out)
       clear hb5
       refine hK.out _ _ ⟨hz.2.1, hz.2.2.1, hz.2.2.2.1, hz.2.2.2.2.1, hz.2.2.2.2.2⟩ (fun hHeld => ?_)
       clear hK K
       refine norm_ (a' := ?_) ?_ ?_
       rotate_left
       ·show Act.put _ (some 50) _ = _
        simp only [Act.put, List.setIfInBounds_toArray, List.set_cons_zero, List.set_cons_succ, i64_w, i32_w]
        rfl
       refine one_ (i := 9) (N := some 53) #[true, true, true, true, true, true, true, true, true, true, false, false] rfl rfl (by kernel_rfl) (by decide) (fun K hK => ?_)
       refine goes_ Tryz.func10 (by kernel_rfl) rfl #[eV y.f1 A4 c4 A5 c5] (by rfl) rfl rfl (by simp only [List.map_toArray, List.map_cons, List.map_nil]; rfl) ?_
       with_reducible refine (HNR.out w5 HB5.out).mono ?_
       rintro e w6 ⟨rfl, hb6⟩
       refine ⟨_, rfl, ?_⟩
       have HB6 := Lib.hid (s_trans HB5.out hb6)
       have hz := cells6 (block_on HB6.out HX.out)
       clear hb6
       refine hK.out _ _ ⟨hz.2.1, hz.2.2.1, hz.2.2.2.1, hz.2.2.2.2.1, hz.2.2.2.2.2⟩ (fun hHeld => ?_)
       clear hK K
       refine norm_ (a' := ?_) ?_ ?_
       rotate_left
       ·show Act.put _ (some 53) _ = _
        simp only [Act.put, List.setIfInBounds_toArray, List.set_cons_zero, List.set_cons_succ, i64_w, i32_w]
        rfl
       refine pure_ (i := 10) (N := some 54) (v := ?_) (a' := ?_) #[true, true, true, true, true, true, true, true, true, true, true, false] rfl rfl (by kernel_rfl) (fun _ _ _ h => h) (Or.inl ⟨by rfl, ?_⟩) ?_ ?_
       rotate_left
       ·intro w'
        go_simp
        with_reducible rfl
       rotate_left
       ·simp only [Act.put, List.setIfInBounds_toArray, List.set_cons_zero, List.set_cons_succ, i64_w, i32_w]
        rfl
       refine pure_ (i := 11) (N := some 55) (v := ?_) (a' := ?_) #[true, true, true, true, true, true, true, true, true, true, true, true] rfl rfl (by kernel_rfl) (fun _ _ _ h => h) (Or.inl ⟨by rfl, ?_⟩) ?_ ?_
       rotate_left
       ·intro w'
        go_simp
        with_reducible rfl
       rotate_left
       ·simp only [Act.put, List.setIfInBounds_toArray, List.set_cons_zero, List.set_cons_succ, i64_w, i32_w]
        rfl
       refine done_ (by kernel_rfl) ?_
       go_wp2
       go_roundw
       case rel => exact ⟨k + 1, by omega, by go_num, Lib.hid (s_trans HBA.out HB6.out)⟩
       case measure => simp [intOf]; omega
     | false =>
      rw [hgb] at hgr
      have HGR := Lib.hid hgr
      clear hgr hgb
      go_upto_region 10 with fail
      rw [← hwa]
      clear hwa q0 q1 q2 q3 q4 q5
      obtain ⟨x0, x1, x2, x3, x4, x5⟩ := cells6 HX.out
      refine start_ (n := 12) (S := fun w' => w'.cell? ⟨wr.heap.size, 1, none⟩ = some (.int .i64 y.f1.f0) ∧ w'.cell? ⟨wr.heap.size, 2, none⟩ = some (.int .i64 y.f1.f1) ∧ w'.cell? ⟨wr.heap.size, 3, none⟩ = some (.string y.f1.f2) ∧ w'.cell? ⟨wr.heap.size, 4, none⟩ = some (.slice A4 y.f1.f3.length c4) ∧ w'.cell? ⟨wr.heap.size, 5, none⟩ = some (.slice A5 y.f1.f4.length c5)) (ds := []) #[false, false, false, false, false, false, false, false, false, false, false, false] (by kernel_rfl) rfl rfl ⟨x1, x2, x3, x4, x5⟩ (fun hHeld => ?_)
      obtain ⟨wd, hwd⟩ : ∃ W, W = wa.drew := ⟨_, rfl⟩
      rw [← hwd] at hHeld
      rw [← hwd]
      have hdr : Below wa.heap.size wa wd := by rw [hwd]; exact s_drew (Below.refl _ _)
      have HBd := Lib.hid hdr
      clear hwd hdr
      refine pure_ (i := 0) (N := some 44) (v := ?_) (a' := ?_) #[true, false, false, false, false, false, false, false, false, false, false, false] rfl rfl (by kernel_rfl) (fun _ _ _ h => h) (Or.inl ⟨by rfl, ?_⟩) ?_ ?_
      rotate_left
      ·intro w'
       go_simp
       with_reducible rfl
      rotate_left
      ·simp only [Act.put, List.setIfInBounds_toArray, List.set_cons_zero, List.set_cons_succ, i64_w, i32_w]
       rfl
      refine take_ (i := 1) (N := some 45) (v := ?_) (a' := ?_) #[true, true, false, false, false, false, false, false, false, false, false, false] rfl rfl (by kernel_rfl) (fun _ _ _ h => h) (Or.inl ⟨by rfl, ?_⟩) hHeld ?_ ?_
      rotate_left
      ·rintro w' ⟨s0, s1, s2, s3, s4⟩
       go_simp
       with_reducible rfl
      rotate_left
      ·simp only [Act.put, List.setIfInBounds_toArray, List.set_cons_zero, List.set_cons_succ, i64_w, i32_w]
       rfl
      refine one_ (i := 2) (N := some 46) #[true, true, true, false, false, false, false, false, false, false, false, false] rfl rfl (by kernel_rfl) (by decide) (fun K hK => ?_)
      refine goes_ Tryz.func8 (by kernel_rfl) rfl #[eV y.f1 A4 c4 A5 c5] (by rfl) rfl rfl (by simp only [List.map_toArray, List.map_cons, List.map_nil]; rfl) ?_
      with_reducible refine (HGR.out wd HBd.out).mono ?_
      rintro e w4 ⟨rfl, hb4⟩
      refine ⟨_, rfl, ?_⟩
      have HB4 := Lib.hid (s_trans HBd.out hb4)
      have hz := cells6 (block_on HB4.out HX.out)
      clear hb4
      refine hK.out _ _ ⟨hz.2.1, hz.2.2.1, hz.2.2.2.1, hz.2.2.2.2.1, hz.2.2.2.2.2⟩ (fun hHeld => ?_)
      clear hK K
      refine norm_ (a' := ?_) ?_ ?_
      rotate_left
      ·show Act.put _ (some 46) _ = _
       simp only [Act.put, List.setIfInBounds_toArray, List.set_cons_zero, List.set_cons_succ, i64_w, i32_w]
       rfl
      refine pure_ (i := 3) (N := some 47) (v := ?_) (a' := ?_) #[true, true, true, true, false, false, false, false, false, false, false, false] rfl rfl (by kernel_rfl) (fun _ _ _ h => h) (Or.inl ⟨by rfl, ?_⟩) ?_ ?_
      rotate_left
      ·intro w'
       go_simp
       with_reducible rfl
      rotate_left
      ·simp only [Act.put, List.setIfInBounds_toArray, List.set_cons_zero, List.set_cons_succ, i64_w, i32_w]
       rfl
      refine pure_ (i := 4) (N := some 48) (v := undef) (a' := ?_) #[true, true, true, true, true, false, false, false, false, false, false, false] rfl rfl (by kernel_rfl) (fun _ _ _ h => h) (Or.inr ⟨by rfl, rfl⟩) ?_ ?_
      rotate_left
      ·simp only [Act.put, List.setIfInBounds_toArray, List.set_cons_zero, List.set_cons_succ, i64_w, i32_w]
       rfl
      refine pure_ (i := 5) (N := some 49) (v := undef) (a' := ?_) #[true, true, true, true, true, true, false, false, false, false, false, false] rfl rfl (by kernel_rfl) (fun _ _ _ h => h) (Or.inr ⟨by rfl, rfl⟩) ?_ ?_
      rotate_left
      ·simp only [Act.put, List.setIfInBounds_toArray, List.set_cons_zero, List.set_cons_succ, i64_w, i32_w]
       rfl
      refine pure_ (i := 6) (N := some 50) (v := undef) (a' := ?_) #[true, true, true, true, true, true, true, false, false, false, false, false] rfl rfl (by kernel_rfl) (fun _ _ _ h => h) (Or.inr ⟨by rfl, rfl⟩) ?_ ?_
      rotate_left
      ·simp only [Act.put, List.setIfInBounds_toArray, List.set_cons_zero, List.set_cons_succ, i64_w, i32_w]
       rfl
      refine pure_ (i := 7) (N := some 51) (v := undef) (a' := ?_) #[true, true, true, true, true, true, true, true, false, false, false, false] rfl rfl (by kernel_rfl) (fun _ _ _ h => h) (Or.inr ⟨by rfl, rfl⟩) ?_ ?_
      rotate_left
      ·simp only [Act.put, List.setIfInBounds_toArray, List.set_cons_zero, List.set_cons_succ, i64_w, i32_w]
       rfl
      refine pure_ (i := 8) (N := some 52) (v := undef) (a' := ?_) #[true, true, true, true, true, true, true, true, true, false, false, false] rfl rfl (by kernel_rfl) (fun _ _ _ h => h) (Or.inr ⟨by rfl, rfl⟩) ?_ ?_
      rotate_left
      ·simp only [Act.put, List.setIfInBounds_toArray, List.set_cons_zero, List.set_cons_succ, i64_w, i32_w]
       rfl
      refine pure_ (i := 9) (N := some 53) (v := undef) (a' := ?_) #[true, true, true, true, true, true, true, true, true, true, false, false] rfl rfl (by kernel_rfl) (fun _ _ _ h => h) (Or.inr ⟨by rfl, rfl⟩) ?_ ?_
      rotate_left
      ·simp only [Act.put, List.setIfInBounds_toArray, List.set_cons_zero, List.set_cons_succ, i64_w, i32_w]
       rfl
      refine pure_ (i := 10) (N := some 54) (v := undef) (a' := ?_) #[true, true, true, true, true, true, true, true, true, true, true, false] rfl rfl (by kernel_rfl) (fun _ _ _ h => h) (Or.inr ⟨by rfl, rfl⟩) ?_ ?_
      rotate_left
      ·simp only [Act.put, List.setIfInBounds_toArray, List.set_cons_zero, List.set_cons_succ, i64_w, i32_w]
       rfl
      refine pure_ (i := 11) (N := some 55) (v := ?_) (a' := ?_) #[true, true, true, true, true, true, true, true, true, true, true, true] rfl rfl (by kernel_rfl) (fun _ _ _ h => h) (Or.inl ⟨by rfl, ?_⟩) ?_ ?_
      rotate_left
      ·intro w'
       go_simp
       with_reducible rfl
      rotate_left
      ·simp only [Act.put, List.setIfInBounds_toArray, List.set_cons_zero, List.set_cons_succ, i64_w, i32_w]
       rfl
      refine done_ (by kernel_rfl) ?_
      go_wp2
      go_roundw
      case rel => exact ⟨k + 1, by omega, by go_num, Lib.hid (s_trans HBA.out HB4.out)⟩
      case measure => simp [intOf]; omega
    ·obtain rfl : k = l.length := by omega
     have HPr := Lib.hid (HP3.out.below HBr.out)
     have HBw := Lib.hid (s_trans HB3.out HBr.out)
     obtain ⟨T, F, K, hT, hF2, hK, hFK, hFT, hF1⟩ := find_two (nums l) n
     have hfp := find_plan wr p l o n hn HPr.out
     have hfr := fun W (hb : Below wr.heap.size wr W) => findr_any W A c l (Kd.C_below (Kd.C_below HR.out HBw.out) hb) hc hlen n
     rw [hT, hK] at hfp
     rw [hF2] at hfr
     have HFP := Lib.hid hfp
     have HFR := Lib.hid hfr
     have hol : o.length = l.length := by
      have := (arr_valid HO.out).2
      unfold needsL at this
      rw [List.length_map] at this
      exact this
     have hil : (ints o).length ≤ 20 := by rw [ints_len]; omega
     clear hT hF2 hK hfp hfr
     go_upto_region 17 with (first
      | (go_at_call 11; refine HFP.out.mono ?_; rintro e w4 ⟨rfl, hb4⟩; have HB4 := Lib.hid hb4; clear hb4)
      | (go_at_call 12; refine (HFR.out w4 HB4.out).mono ?_; rintro e w5 ⟨rfl, hb5⟩; have HB5 := Lib.hid (s_trans HB4.out hb5); clear hb5))
     have HP5 := Lib.hid (HPr.out.below HB5.out)
     have hlp := fun W (hb : Below w5.heap.size w5 W) => len_plan W p l o (HP5.out.below hb)
     have hop := fun W (hb : Below w5.heap.size w5 W) => porder_any W p l o (HP5.out.below hb) (by omega)
     have hor := fun W (hb : Below w5.heap.size w5 W) => orderr_any W A c l (Kd.C_below (Kd.C_below (Kd.C_below HR.out HBw.out) HB5.out) hb) hc HKN.out o HO.out
     have HLP := Lib.hid hlp
     have HOP := Lib.hid hop
     have HOR := Lib.hid hor
     clear hlp hop hor
     have hsz : ∀ W B d B2 d2, Rd W B d (ints o) → Rd W B2 d2 (ints o) → _ := fun W B d B2 d2 h1 h2 => samez_any W B B2 d d2 (ints o) (by omega) h1 h2
     have HSZ := Lib.hid hsz
     clear hsz
     go_upto_region 18 with (first
      | (go_at_call 13; refine (HLP.out w5 (Below.refl _ _)).mono ?_; rintro e w6 ⟨rfl, hb6⟩; have HB6 := Lib.hid hb6; clear hb6)
      | (go_at_call 15; refine (HOP.out w6 HB6.out).mono ?_; rintro e w7 ⟨B1, d1, rfl, hr1, hb7⟩; have HR1 := Lib.hid hr1; have HB7 := Lib.hid (s_trans HB6.out hb7); clear hr1 hb7)
      | (go_at_call 16; refine (HOR.out w7 HB7.out).mono ?_; rintro e w8 ⟨B2, d2, rfl, hr2, hb8⟩; have HR2 := Lib.hid hr2; have HR1b := Lib.hid (HR1.out.below hb8); have HB8 := Lib.hid (s_trans HB7.out hb8); clear hr2 hb8)
      | (go_at_call 14; refine (HSZ.out w8 B1 d1 B2 d2 HR1b.out HR2.out).mono ?_; rintro e w9 ⟨rfl, hb9⟩; have HB9 := Lib.hid (s_trans HB8.out hb9); clear hb9))
     have HP9 := Lib.hid (HP5.out.below HB9.out)
     have HBW9 := Lib.hid (s_trans HBw.out (s_trans HB5.out HB9.out))
     by_cases hi : 0 ≤ i ∧ i < l.length
     ·obtain ⟨k, rfl⟩ : ∃ k : Nat, i = k := ⟨i.toNat, by omega⟩
      have hkl : k < l.length := by omega
      have hbp := box_plan w9 p l o k hkl (by omega) HP9.out
      have hx := HX0.out _ (List.getElem_mem hkl)
      have hnp := fun W (hb : Below w9.heap.size w9 W) => pneeds_any W p l o (HP9.out.below hb) k hkl hx.2.2
      have hnr := fun W (hb : Below w9.heap.size w9 W) => needsr_any W A c l (Kd.C_below (Kd.C_below HR.out HBW9.out) hb) hc HKN.out k hkl
      have hzl : (needZ (nums l) l[k]).length ≤ 1000000 := by
       have h1 := refsR_few hx.2.2
       have h2 : (needZ (nums l) l[k]).length = (refsR l[k].f1).length := by unfold needZ; rw [sortI_len, List.length_map]
       omega
      have hsa : ∀ W B d B2 d2, Rd W B d (needZ (nums l) l[k]) → Rd W B2 d2 (needZ (nums l) l[k]) → _ := fun W B d B2 d2 h1 h2 => samez_any W B B2 d d2 _ hzl h1 h2
      obtain ⟨ad0, B4, d4, B5, d5, e0, p0, p1, p2, p3, p4, p5, g3, g4, g5, g6⟩ := at_T35 (Kd.C_below HR.out HBW9.out) (k : Int) (by omega) (by omega)
      rw [rd43 l k hkl] at p0 p1 p2 p3 p4 p5 g3 g4 g5 g6
      rw [Int.toNat_natCast] at p0 p1 p2 p3 p4 p5
      cases e0
      have hse := fun (A4 : Option Addr) (c4 : Nat) (A5 : Option Addr) (c5 : Nat) W (h1 : EIn W l[k].f1 A4 c4 A5 c5) (hb : Below w9.heap.size w9 W) => samer_any l[k].f1 (small_of l[k].f1 400 hx.2.2 (by omega)).1 A4 c4 A5 c5 B4 d4 B5 d5 W h1 (EIn.below ⟨g3, g4, g5, g6⟩ hb)
      generalize needZ (nums l) l[k] = zs at *
      generalize l[k] = y at *
      have HBP := Lib.hid hbp
      have HNP0 := Lib.hid hnp
      have HNR0 := Lib.hid hnr
      have HSA := Lib.hid hsa
      have HSE0 := Lib.hid hse
      have HPC := Lib.hid (And.intro p0 (And.intro p1 (And.intro p2 (And.intro p3 (And.intro p4 p5)))))
      have e1 : decide ((k : Int) < 0) = false := decide_eq_false (by omega)
      have e2 : decide ((l.length : Int) ≤ k) = false := decide_eq_false (by omega)
      clear hbp hnp hnr hsa hse hx p0 p1 p2 p3 p4 p5 g3 g4 g5 g6
      go_upto_region 20 with (go_at_call 17; refine HBP.out.mono ?_; rintro e w10 ⟨A4, c4, A5, c5, rfl, hbi, hb10⟩; have HBI := Lib.hid hbi; have HB10 := Lib.hid hb10; clear hbi hb10)
      obtain ⟨wa, hwa⟩ : ∃ W : World, W = w10.alloc (.cells #[.int .i64 y.f0, .int .i64 y.f1.f0, .int .i64 y.f1.f1, .string y.f1.f2, .slice A4 y.f1.f3.length c4, .slice A5 y.f1.f4.length c5] 35) := ⟨_, rfl⟩
      rw [← hwa]
      have hba : Below w10.heap.size w10 wa := by rw [hwa]; exact s_alloc (Below.refl _ _) _
      have hxa : wa.heap[w10.heap.size]? = some (.cells #[.int .i64 y.f0, .int .i64 y.f1.f0, .int .i64 y.f1.f1, .string y.f1.f2, .slice A4 y.f1.f3.length c4, .slice A5 y.f1.f4.length c5] 35 (0, 0)) := by rw [hwa]; exact Array.getElem?_push_size
      have hb9a := s_trans HB10.out hba
      have h12 : ∀ W, Below wa.heap.size wa W → W.cell? ⟨w10.heap.size, 0, none⟩ = some (.int .i64 y.f0) ∧ W.cell? ⟨w10.heap.size, 1, none⟩ = some (.int .i64 y.f1.f0) ∧ W.cell? ⟨w10.heap.size, 2, none⟩ = some (.int .i64 y.f1.f1) ∧ W.cell? ⟨w10.heap.size, 3, none⟩ = some (.string y.f1.f2) ∧ W.cell? ⟨w10.heap.size, 4, none⟩ = some (.slice A4 y.f1.f3.length c4) ∧ W.cell? ⟨w10.heap.size, 5, none⟩ = some (.slice A5 y.f1.f4.length c5) ∧ W.cell? (ad0.add (k * 6)) = some (.int .i64 y.f0) ∧ W.cell? ⟨(ad0.add (k * 6)).block, (ad0.add (k * 6)).off + 1, none⟩ = some (.int .i64 y.f1.f0) ∧ W.cell? ⟨(ad0.add (k * 6)).block, (ad0.add (k * 6)).off + 2, none⟩ = some (.int .i64 y.f1.f1) ∧ W.cell? ⟨(ad0.add (k * 6)).block, (ad0.add (k * 6)).off + 3, none⟩ = some (.string y.f1.f2) ∧ W.cell? ⟨(ad0.add (k * 6)).block, (ad0.add (k * 6)).off + 4, none⟩ = some (.slice B4 y.f1.f3.length d4) ∧ W.cell? ⟨(ad0.add (k * 6)).block, (ad0.add (k * 6)).off + 5, none⟩ = some (.slice B5 y.f1.f4.length d5) := fun W hb => by
       obtain ⟨z0, z1, z2, z3, z4, z5⟩ := cells6 (block_on hb hxa)
       obtain ⟨p0, p1, p2, p3, p4, p5⟩ := HPC.out
       have hb2 := s_trans hb9a hb
       exact ⟨z0, z1, z2, z3, z4, z5, (hb2.cell (p := _) (World.block_lt_of_cell? w9 _ p0)).trans p0, (hb2.cell (p := _) (World.block_lt_of_cell? w9 _ p1)).trans p1, (hb2.cell (p := _) (World.block_lt_of_cell? w9 _ p2)).trans p2, (hb2.cell (p := _) (World.block_lt_of_cell? w9 _ p3)).trans p3, (hb2.cell (p := _) (World.block_lt_of_cell? w9 _ p4)).trans p4, (hb2.cell (p := _) (World.block_lt_of_cell? w9 _ p5)).trans p5⟩
      have HSE := Lib.hid (fun W (hb : Below wa.heap.size wa W) => HSE0.out A4 c4 A5 c5 W (EIn.below HBI.out (s_trans hba hb)) (s_trans hb9a hb))
      have HNP := Lib.hid (fun W (hb : Below wa.heap.size wa W) => HNP0.out W (s_trans hb9a hb))
      have HNR := Lib.hid (fun W (hb : Below wa.heap.size wa W) => HNR0.out W (s_trans hb9a hb))
      have HBA := Lib.hid hb9a
      have H12 := Lib.hid h12
      clear hwa hba hxa hb9a h12
      go_upto_region 22 with fail
      obtain ⟨x0, x1, x2, x3, x4, x5, p0, p1, p2, p3, p4, p5⟩ := H12.out wa (Below.refl _ _)
      refine start_ (n := 34) (S := fun w' => w'.cell? ⟨w10.heap.size, 0, none⟩ = some (.int .i64 y.f0) ∧ w'.cell? ⟨w10.heap.size, 1, none⟩ = some (.int .i64 y.f1.f0) ∧ w'.cell? ⟨w10.heap.size, 2, none⟩ = some (.int .i64 y.f1.f1) ∧ w'.cell? ⟨w10.heap.size, 3, none⟩ = some (.string y.f1.f2) ∧ w'.cell? ⟨w10.heap.size, 4, none⟩ = some (.slice A4 y.f1.f3.length c4) ∧ w'.cell? ⟨w10.heap.size, 5, none⟩ = some (.slice A5 y.f1.f4.length c5) ∧ w'.cell? (ad0.add (k * 6)) = some (.int .i64 y.f0) ∧ w'.cell? ⟨(ad0.add (k * 6)).block, (ad0.add (k * 6)).off + 1, none⟩ = some (.int .i64 y.f1.f0) ∧ w'.cell? ⟨(ad0.add (k * 6)).block, (ad0.add (k * 6)).off + 2, none⟩ = some (.int .i64 y.f1.f1) ∧ w'.cell? ⟨(ad0.add (k * 6)).block, (ad0.add (k * 6)).off + 3, none⟩ = some (.string y.f1.f2) ∧ w'.cell? ⟨(ad0.add (k * 6)).block, (ad0.add (k * 6)).off + 4, none⟩ = some (.slice B4 y.f1.f3.length d4) ∧ w'.cell? ⟨(ad0.add (k * 6)).block, (ad0.add (k * 6)).off + 5, none⟩ = some (.slice B5 y.f1.f4.length d5)) (ds := []) #[false, false, false, false, false, false, false, false, false, false, false, false, false, false, false, false, false, false, false, false, false, false, false, false, false, false, false, false, false, false, false, false, false, false] (by kernel_rfl) rfl rfl ⟨x0, x1, x2, x3, x4, x5, p0, p1, p2, p3, p4, p5⟩ (fun hHeld => ?_)
      obtain ⟨wd, hwd⟩ : ∃ W, W = wa.drew := ⟨_, rfl⟩
      rw [← hwd] at hHeld
      rw [← hwd]
      have hdr : Below wa.heap.size wa wd := by rw [hwd]; exact s_drew (Below.refl _ _)
      have HBd := Lib.hid hdr
      clear hwd hdr
      refine pure_ (i := 0) (N := some 125) (v := ?_) (a' := ?_) #[true, false, false, false, false, false, false, false, false, false, false, false, false, false, false, false, false, false, false, false, false, false, false, false, false, false, false, false, false, false, false, false, false, false] rfl rfl (by kernel_rfl) (fun _ _ _ h => h) (Or.inl ⟨by rfl, ?_⟩) ?_ ?_
      rotate_left
      ·intro w'
       go_simp
       with_reducible rfl
      rotate_left
      ·simp only [Act.put, List.setIfInBounds_toArray, List.set_cons_zero, List.set_cons_succ, i64_w, i32_w]
       rfl
      refine pure_ (i := 1) (N := some 126) (v := ?_) (a' := ?_) #[true, true, false, false, false, false, false, false, false, false, false, false, false, false, false, false, false, false, false, false, false, false, false, false, false, false, false, false, false, false, false, false, false, false] rfl rfl (by kernel_rfl) (fun _ _ _ h => h) (Or.inl ⟨by rfl, ?_⟩) ?_ ?_
      rotate_left
      ·intro w'
       go_simp
       with_reducible rfl
      rotate_left
      ·simp only [Act.put, List.setIfInBounds_toArray, List.set_cons_zero, List.set_cons_succ, i64_w, i32_w]
       rfl
      refine pure_ (i := 2) (N := some 127) (v := ?_) (a' := ?_) #[true, true, true, false, false, false, false, false, false, false, false, false, false, false, false, false, false, false, false, false, false, false, false, false, false, false, false, false, false, false, false, false, false, false] rfl rfl (by kernel_rfl) (fun _ _ _ h => h) (Or.inl ⟨by rfl, ?_⟩) ?_ ?_
      rotate_left
      ·intro w'
       go_simp
       with_reducible rfl
      rotate_left
      ·simp only [Act.put, List.setIfInBounds_toArray, List.set_cons_zero, List.set_cons_succ, i64_w, i32_w]
       rfl
      refine pure_ (i := 4) (N := some 129) (v := ?_) (a' := ?_) #[true, true, true, false, true, false, false, false, false, false, false, false, false, false, false, false, false, false, false, false, false, false, false, false, false, false, false, false, false, false, false, false, false, false] rfl rfl (by kernel_rfl) (fun _ _ _ h => h) (Or.inl ⟨by rfl, ?_⟩) ?_ ?_
      rotate_left
      ·intro w'
       go_simp
       with_reducible rfl
      rotate_left
      ·simp only [Act.put, List.setIfInBounds_toArray, List.set_cons_zero, List.set_cons_succ, i64_w, i32_w]
       rfl
      refine pure_ (i := 5) (N := some 130) (v := ?_) (a' := ?_) #[true, true, true, false, true, true, false, false, false, false, false, false, false, false, false, false, false, false, false, false, false, false, false, false, false, false, false, false, false, false, false, false, false, false] rfl rfl (by kernel_rfl) (fun _ _ _ h => h) (Or.inl ⟨by rfl, ?_⟩) ?_ ?_
      rotate_left
      ·intro w'
       go_simp
       with_reducible rfl
      rotate_left
      ·simp only [Act.put, List.setIfInBounds_toArray, List.set_cons_zero, List.set_cons_succ, i64_w, i32_w]
       rfl
      refine pure_ (i := 6) (N := some 131) (v := ?_) (a' := ?_) #[true, true, true, false, true, true, true, false, false, false, false, false, false, false, false, false, false, false, false, false, false, false, false, false, false, false, false, false, false, false, false, false, false, false] rfl rfl (by kernel_rfl) (fun _ _ _ h => h) (Or.inl ⟨by rfl, ?_⟩) ?_ ?_
      rotate_left
      ·intro w'
       go_simp
       with_reducible rfl
      rotate_left
      ·simp only [Act.put, List.setIfInBounds_toArray, List.set_cons_zero, List.set_cons_succ, i64_w, i32_w]
       rfl
      refine pure_ (i := 7) (N := some 132) (v := ?_) (a' := ?_) #[true, true, true, false, true, true, true, true, false, false, false, false, false, false, false, false, false, false, false, false, false, false, false, false, false, false, false, false, false, false, false, false, false, false] rfl rfl (by kernel_rfl) (fun _ _ _ h => h) (Or.inl ⟨by rfl, ?_⟩) ?_ ?_
      rotate_left
      ·intro w'
       go_simp
       with_reducible rfl
      rotate_left
      ·simp only [Act.put, List.setIfInBounds_toArray, List.set_cons_zero, List.set_cons_succ, i64_w, i32_w]
       rfl
      refine take_ (i := 3) (N := some 128) (v := ?_) (a' := ?_) #[true, true, true, true, true, true, true, true, false, false, false, false, false, false, false, false, false, false, false, false, false, false, false, false, false, false, false, false, false, false, false, false, false, false] rfl rfl (by kernel_rfl) (fun _ _ _ h => h) (Or.inl ⟨by rfl, ?_⟩) hHeld ?_ ?_
      rotate_left
      ·rintro w' ⟨s0, s1, s2, s3, s4, s5, s6, s7, s8, s9, s10, s11⟩
       go_simp
       with_reducible rfl
      rotate_left
      ·simp only [Act.put, List.setIfInBounds_toArray, List.set_cons_zero, List.set_cons_succ, i64_w, i32_w]
       rfl
      refine take_ (i := 8) (N := some 133) (v := ?_) (a' := ?_) #[true, true, true, true, true, true, true, true, true, false, false, false, false, false, false, false, false, false, false, false, false, false, false, false, false, false, false, false, false, false, false, false, false, false] rfl rfl (by kernel_rfl) (fun _ _ _ h => h) (Or.inl ⟨by rfl, ?_⟩) hHeld ?_ ?_
      rotate_left
      ·rintro w' ⟨s0, s1, s2, s3, s4, s5, s6, s7, s8, s9, s10, s11⟩
       go_simp
       with_reducible rfl
      rotate_left
      ·simp only [Act.put, List.setIfInBounds_toArray, List.set_cons_zero, List.set_cons_succ, i64_w, i32_w]
       rfl
      refine pure_ (i := 9) (N := some 134) (v := ?_) (a' := ?_) #[true, true, true, true, true, true, true, true, true, true, false, false, false, false, false, false, false, false, false, false, false, false, false, false, false, false, false, false, false, false, false, false, false, false] rfl rfl (by kernel_rfl) (fun _ _ _ h => h) (Or.inl ⟨by rfl, ?_⟩) ?_ ?_
      rotate_left
      ·intro w'
       go_simp
       with_reducible rfl
      rotate_left
      ·simp only [Act.put, List.setIfInBounds_toArray, List.set_cons_zero, List.set_cons_succ, i64_w, i32_w]
       rfl
      refine pure_ (i := 10) (N := some 135) (v := ?_) (a' := ?_) #[true, true, true, true, true, true, true, true, true, true, true, false, false, false, false, false, false, false, false, false, false, false, false, false, false, false, false, false, false, false, false, false, false, false] rfl rfl (by kernel_rfl) (fun _ _ _ h => h) (Or.inl ⟨by rfl, ?_⟩) ?_ ?_
      rotate_left
      ·intro w'
       go_simp
       with_reducible rfl
      rotate_left
      ·simp only [Act.put, List.setIfInBounds_toArray, List.set_cons_zero, List.set_cons_succ, i64_w, i32_w]
       rfl
      refine pure_ (i := 11) (N := some 136) (v := ?_) (a' := ?_) #[true, true, true, true, true, true, true, true, true, true, true, true, false, false, false, false, false, false, false, false, false, false, false, false, false, false, false, false, false, false, false, false, false, false] rfl rfl (by kernel_rfl) (fun _ _ _ h => h) (Or.inl ⟨by rfl, ?_⟩) ?_ ?_
      rotate_left
      ·intro w'
       go_simp
       with_reducible rfl
      rotate_left
      ·simp only [Act.put, List.setIfInBounds_toArray, List.set_cons_zero, List.set_cons_succ, i64_w, i32_w]
       rfl
      refine pure_ (i := 12) (N := some 137) (v := ?_) (a' := ?_) #[true, true, true, true, true, true, true, true, true, true, true, true, true, false, false, false, false, false, false, false, false, false, false, false, false, false, false, false, false, false, false, false, false, false] rfl rfl (by kernel_rfl) (fun _ _ _ h => h) (Or.inl ⟨by rfl, ?_⟩) ?_ ?_
      rotate_left
      ·intro w'
       go_simp
       with_reducible rfl
      rotate_left
      ·simp only [Act.put, List.setIfInBounds_toArray, List.set_cons_zero, List.set_cons_succ, i64_w, i32_w]
       rfl
      refine pure_ (i := 14) (N := some 139) (v := ?_) (a' := ?_) #[true, true, true, true, true, true, true, true, true, true, true, true, true, false, true, false, false, false, false, false, false, false, false, false, false, false, false, false, false, false, false, false, false, false] rfl rfl (by kernel_rfl) (fun _ _ _ h => h) (Or.inl ⟨by rfl, ?_⟩) ?_ ?_
      rotate_left
      ·intro w'
       go_simp
       with_reducible rfl
      rotate_left
      ·simp only [Act.put, List.setIfInBounds_toArray, List.set_cons_zero, List.set_cons_succ, i64_w, i32_w]
       rfl
      refine pure_ (i := 15) (N := some 140) (v := ?_) (a' := ?_) #[true, true, true, true, true, true, true, true, true, true, true, true, true, false, true, true, false, false, false, false, false, false, false, false, false, false, false, false, false, false, false, false, false, false] rfl rfl (by kernel_rfl) (fun _ _ _ h => h) (Or.inl ⟨by rfl, ?_⟩) ?_ ?_
      rotate_left
      ·intro w'
       go_simp
       with_reducible rfl
      rotate_left
      ·simp only [Act.put, List.setIfInBounds_toArray, List.set_cons_zero, List.set_cons_succ, i64_w, i32_w]
       rfl
      refine pure_ (i := 16) (N := some 141) (v := ?_) (a' := ?_) #[true, true, true, true, true, true, true, true, true, true, true, true, true, false, true, true, true, false, false, false, false, false, false, false, false, false, false, false, false, false, false, false, false, false] rfl rfl (by kernel_rfl) (fun _ _ _ h => h) (Or.inl ⟨by rfl, ?_⟩) ?_ ?_
      rotate_left
      ·intro w'
       go_simp
       with_reducible rfl
      rotate_left
      ·simp only [Act.put, List.setIfInBounds_toArray, List.set_cons_zero, List.set_cons_succ, i64_w, i32_w]
       rfl
      refine pure_ (i := 17) (N := some 142) (v := ?_) (a' := ?_) #[true, true, true, true, true, true, true, true, true, true, true, true, true, false, true, true, true, true, false, false, false, false, false, false, false, false, false, false, false, false, false, false, false, false] rfl rfl (by kernel_rfl) (fun _ _ _ h => h) (Or.inl ⟨by rfl, ?_⟩) ?_ ?_
      rotate_left
      ·intro w'
       go_simp
       with_reducible rfl
      rotate_left
      ·simp only [Act.put, List.setIfInBounds_toArray, List.set_cons_zero, List.set_cons_succ, i64_w, i32_w]
       rfl
      refine take_ (i := 13) (N := some 138) (v := ?_) (a' := ?_) #[true, true, true, true, true, true, true, true, true, true, true, true, true, true, true, true, true, true, false, false, false, false, false, false, false, false, false, false, false, false, false, false, false, false] rfl rfl (by kernel_rfl) (fun _ _ _ h => h) (Or.inl ⟨by rfl, ?_⟩) hHeld ?_ ?_
      rotate_left
      ·rintro w' ⟨s0, s1, s2, s3, s4, s5, s6, s7, s8, s9, s10, s11⟩
       go_simp
       with_reducible rfl
      rotate_left
      ·simp only [Act.put, List.setIfInBounds_toArray, List.set_cons_zero, List.set_cons_succ, i64_w, i32_w]
       rfl
      refine take_ (i := 18) (N := some 143) (v := ?_) (a' := ?_) #[true, true, true, true, true, true, true, true, true, true, true, true, true, true, true, true, true, true, true, false, false, false, false, false, false, false, false, false, false, false, false, false, false, false] rfl rfl (by kernel_rfl) (fun _ _ _ h => h) (Or.inl ⟨by rfl, ?_⟩) hHeld ?_ ?_
      rotate_left
      ·rintro w' ⟨s0, s1, s2, s3, s4, s5, s6, s7, s8, s9, s10, s11⟩
       go_simp
       with_reducible rfl
      rotate_left
      ·simp only [Act.put, List.setIfInBounds_toArray, List.set_cons_zero, List.set_cons_succ, i64_w, i32_w]
       rfl
      refine one_ (i := 19) (N := some 144) #[true, true, true, true, true, true, true, true, true, true, true, true, true, true, true, true, true, true, true, true, false, false, false, false, false, false, false, false, false, false, false, false, false, false] rfl rfl (by kernel_rfl) (by decide) (fun K hK => ?_)
      refine goes_ Tryz.func19 (by kernel_rfl) rfl #[eV y.f1 A4 c4 A5 c5, eV y.f1 B4 d4 B5 d5] (by rfl) rfl rfl (by simp only [List.map_toArray, List.map_cons, List.map_nil]; rfl) ?_
      with_reducible refine (HSE.out wd HBd.out).mono ?_
      rintro e w11 ⟨rfl, hb11⟩
      refine ⟨_, rfl, ?_⟩
      have HB11 := Lib.hid (s_trans HBd.out hb11)
      have hz := H12.out _ HB11.out
      clear hb11
      refine hK.out _ _ ⟨hz.1, hz.2.1, hz.2.2.1, hz.2.2.2.1, hz.2.2.2.2.1, hz.2.2.2.2.2.1, hz.2.2.2.2.2.2.1, hz.2.2.2.2.2.2.2.1, hz.2.2.2.2.2.2.2.2.1, hz.2.2.2.2.2.2.2.2.2.1, hz.2.2.2.2.2.2.2.2.2.2.1, hz.2.2.2.2.2.2.2.2.2.2.2⟩ (fun hHeld => ?_)
      clear hK K
      refine norm_ (a' := ?_) ?_ ?_
      rotate_left
      ·show Act.put _ (some 144) _ = _
       simp only [Act.put, List.setIfInBounds_toArray, List.set_cons_zero, List.set_cons_succ, i64_w, i32_w]
       rfl
      refine pure_ (i := 20) (N := some 145) (v := ?_) (a' := ?_) #[true, true, true, true, true, true, true, true, true, true, true, true, true, true, true, true, true, true, true, true, true, false, false, false, false, false, false, false, false, false, false, false, false, false] rfl rfl (by kernel_rfl) (fun _ _ _ h => h) (Or.inl ⟨by rfl, ?_⟩) ?_ ?_
      rotate_left
      ·intro w'
       go_simp
       with_reducible rfl
      rotate_left
      ·simp only [Act.put, List.setIfInBounds_toArray, List.set_cons_zero, List.set_cons_succ, i64_w, i32_w]
       rfl
      refine pure_ (i := 21) (N := some 146) (v := ?_) (a' := ?_) #[true, true, true, true, true, true, true, true, true, true, true, true, true, true, true, true, true, true, true, true, true, true, false, false, false, false, false, false, false, false, false, false, false, false] rfl rfl (by kernel_rfl) (fun _ _ _ h => h) (Or.inl ⟨by rfl, ?_⟩) ?_ ?_
      rotate_left
      ·intro w'
       go_simp
       with_reducible rfl
      rotate_left
      ·simp only [Act.put, List.setIfInBounds_toArray, List.set_cons_zero, List.set_cons_succ, i64_w, i32_w]
       rfl
      refine pure_ (i := 22) (N := some 147) (v := ?_) (a' := ?_) #[true, true, true, true, true, true, true, true, true, true, true, true, true, true, true, true, true, true, true, true, true, true, true, false, false, false, false, false, false, false, false, false, false, false] rfl rfl (by kernel_rfl) (fun _ _ _ h => h) (Or.inl ⟨by rfl, ?_⟩) ?_ ?_
      rotate_left
      ·intro w'
       go_simp
       with_reducible rfl
      rotate_left
      ·simp only [Act.put, List.setIfInBounds_toArray, List.set_cons_zero, List.set_cons_succ, i64_w, i32_w]
       rfl
      refine pure_ (i := 23) (N := some 148) (v := ?_) (a' := ?_) #[true, true, true, true, true, true, true, true, true, true, true, true, true, true, true, true, true, true, true, true, true, true, true, true, false, false, false, false, false, false, false, false, false, false] rfl rfl (by kernel_rfl) (fun _ _ _ h => h) (Or.inl ⟨by rfl, ?_⟩) ?_ ?_
      rotate_left
      ·intro w'
       go_simp
       with_reducible rfl
      rotate_left
      ·simp only [Act.put, List.setIfInBounds_toArray, List.set_cons_zero, List.set_cons_succ, i64_w, i32_w]
       rfl
      refine pure_ (i := 25) (N := some 150) (v := ?_) (a' := ?_) #[true, true, true, true, true, true, true, true, true, true, true, true, true, true, true, true, true, true, true, true, true, true, true, true, false, true, false, false, false, false, false, false, false, false] rfl rfl (by kernel_rfl) (fun _ _ _ h => h) (Or.inl ⟨by rfl, ?_⟩) ?_ ?_
      rotate_left
      ·intro w'
       go_simp
       with_reducible rfl
      rotate_left
      ·simp only [Act.put, List.setIfInBounds_toArray, List.set_cons_zero, List.set_cons_succ, i64_w, i32_w]
       rfl
      refine pure_ (i := 26) (N := some 151) (v := ?_) (a' := ?_) #[true, true, true, true, true, true, true, true, true, true, true, true, true, true, true, true, true, true, true, true, true, true, true, true, false, true, true, false, false, false, false, false, false, false] rfl rfl (by kernel_rfl) (fun _ _ _ h => h) (Or.inl ⟨by rfl, ?_⟩) ?_ ?_
      rotate_left
      ·intro w'
       go_simp
       with_reducible rfl
      rotate_left
      ·simp only [Act.put, List.setIfInBounds_toArray, List.set_cons_zero, List.set_cons_succ, i64_w, i32_w]
       rfl
      refine one_ (i := 24) (N := some 149) #[true, true, true, true, true, true, true, true, true, true, true, true, true, true, true, true, true, true, true, true, true, true, true, true, true, true, true, false, false, false, false, false, false, false] rfl rfl (by kernel_rfl) (by decide) (fun K hK => ?_)
      refine goes_ Tryz.func18 (by kernel_rfl) rfl #[.pointer (some ⟨p, 0, none⟩), .int .i64 k] (by rfl) rfl rfl (by simp only [List.map_toArray, List.map_cons, List.map_nil]; rfl) ?_
      with_reducible refine (HNP.out w11 HB11.out).mono ?_
      rintro e w12 ⟨B6, d6, rfl, hr6, hb12⟩
      refine ⟨_, rfl, ?_⟩
      have HR6 := Lib.hid hr6
      have HB12 := Lib.hid (s_trans HB11.out hb12)
      have hz := H12.out _ HB12.out
      clear hb12
      refine hK.out _ _ ⟨hz.1, hz.2.1, hz.2.2.1, hz.2.2.2.1, hz.2.2.2.2.1, hz.2.2.2.2.2.1, hz.2.2.2.2.2.2.1, hz.2.2.2.2.2.2.2.1, hz.2.2.2.2.2.2.2.2.1, hz.2.2.2.2.2.2.2.2.2.1, hz.2.2.2.2.2.2.2.2.2.2.1, hz.2.2.2.2.2.2.2.2.2.2.2⟩ (fun hHeld => ?_)
      clear hK K
      refine norm_ (a' := ?_) ?_ ?_
      rotate_left
      ·show Act.put _ (some 149) _ = _
       simp only [Act.put, List.setIfInBounds_toArray, List.set_cons_zero, List.set_cons_succ, i64_w, i32_w]
       rfl
      refine one_ (i := 27) (N := some 152) #[true, true, true, true, true, true, true, true, true, true, true, true, true, true, true, true, true, true, true, true, true, true, true, true, true, true, true, true, false, false, false, false, false, false] rfl rfl (by kernel_rfl) (by decide) (fun K hK => ?_)
      refine goes_ Tryz.func20 (by kernel_rfl) rfl #[.slice (some ad0) l.length c, .int .i64 k] (by rfl) rfl rfl (by simp only [List.map_toArray, List.map_cons, List.map_nil]; rfl) ?_
      with_reducible refine (HNR.out w12 HB12.out).mono ?_
      rintro e w13 ⟨B7, d7, rfl, hr7, hb13⟩
      refine ⟨_, rfl, ?_⟩
      have HR7 := Lib.hid hr7
      have HR6 := Lib.hid (HR6.out.below hb13)
      have HB13 := Lib.hid (s_trans HB12.out hb13)
      have hz := H12.out _ HB13.out
      clear hb13
      refine hK.out _ _ ⟨hz.1, hz.2.1, hz.2.2.1, hz.2.2.2.1, hz.2.2.2.2.1, hz.2.2.2.2.2.1, hz.2.2.2.2.2.2.1, hz.2.2.2.2.2.2.2.1, hz.2.2.2.2.2.2.2.2.1, hz.2.2.2.2.2.2.2.2.2.1, hz.2.2.2.2.2.2.2.2.2.2.1, hz.2.2.2.2.2.2.2.2.2.2.2⟩ (fun hHeld => ?_)
      clear hK K
      refine norm_ (a' := ?_) ?_ ?_
      rotate_left
      ·show Act.put _ (some 152) _ = _
       simp only [Act.put, List.setIfInBounds_toArray, List.set_cons_zero, List.set_cons_succ, i64_w, i32_w]
       rfl
      refine one_ (i := 28) (N := some 153) #[true, true, true, true, true, true, true, true, true, true, true, true, true, true, true, true, true, true, true, true, true, true, true, true, true, true, true, true, true, false, false, false, false, false] rfl rfl (by kernel_rfl) (by decide) (fun K hK => ?_)
      refine goes_ Tryz.func14 (by kernel_rfl) rfl #[.slice B6 zs.length d6, .slice B7 zs.length d7] (by rfl) rfl rfl (by simp only [List.map_toArray, List.map_cons, List.map_nil]; rfl) ?_
      with_reducible refine (HSA.out w13 B6 d6 B7 d7 HR6.out HR7.out).mono ?_
      rintro e w14 ⟨rfl, hb14⟩
      refine ⟨_, rfl, ?_⟩
      have HB14 := Lib.hid (s_trans HB13.out hb14)
      have hz := H12.out _ HB14.out
      clear hb14
      refine hK.out _ _ ⟨hz.1, hz.2.1, hz.2.2.1, hz.2.2.2.1, hz.2.2.2.2.1, hz.2.2.2.2.2.1, hz.2.2.2.2.2.2.1, hz.2.2.2.2.2.2.2.1, hz.2.2.2.2.2.2.2.2.1, hz.2.2.2.2.2.2.2.2.2.1, hz.2.2.2.2.2.2.2.2.2.2.1, hz.2.2.2.2.2.2.2.2.2.2.2⟩ (fun hHeld => ?_)
      clear hK K
      refine norm_ (a' := ?_) ?_ ?_
      rotate_left
      ·show Act.put _ (some 153) _ = _
       simp only [Act.put, List.setIfInBounds_toArray, List.set_cons_zero, List.set_cons_succ, i64_w, i32_w]
       rfl
      refine pure_ (i := 29) (N := some 154) (v := ?_) (a' := ?_) #[true, true, true, true, true, true, true, true, true, true, true, true, true, true, true, true, true, true, true, true, true, true, true, true, true, true, true, true, true, true, false, false, false, false] rfl rfl (by kernel_rfl) (fun _ _ _ h => h) (Or.inl ⟨by rfl, ?_⟩) ?_ ?_
      rotate_left
      ·intro w'
       go_simp
       with_reducible rfl
      rotate_left
      ·simp only [Act.put, List.setIfInBounds_toArray, List.set_cons_zero, List.set_cons_succ, i64_w, i32_w]
       rfl
      refine pure_ (i := 30) (N := some 155) (v := ?_) (a' := ?_) #[true, true, true, true, true, true, true, true, true, true, true, true, true, true, true, true, true, true, true, true, true, true, true, true, true, true, true, true, true, true, true, false, false, false] rfl rfl (by kernel_rfl) (fun _ _ _ h => h) (Or.inl ⟨by rfl, ?_⟩) ?_ ?_
      rotate_left
      ·intro w'
       go_simp
       with_reducible rfl
      rotate_left
      ·simp only [Act.put, List.setIfInBounds_toArray, List.set_cons_zero, List.set_cons_succ, i64_w, i32_w]
       rfl
      refine one_ (i := 31) (N := some 156) #[true, true, true, true, true, true, true, true, true, true, true, true, true, true, true, true, true, true, true, true, true, true, true, true, true, true, true, true, true, true, true, true, false, false] rfl rfl (by kernel_rfl) (by decide) (fun K hK => ?_)
      refine goes_ Tryz.func5 (by kernel_rfl) rfl #[] (by rfl) rfl rfl (by simp only [List.map_toArray, List.map_cons, List.map_nil]) ?_
      with_reducible refine (lives_any w14).mono ?_
      rintro e w15 ⟨rfl, hb15⟩
      refine ⟨_, rfl, ?_⟩
      have HB15 := Lib.hid (s_trans HB14.out hb15)
      have hz := H12.out _ HB15.out
      clear hb15
      refine hK.out _ _ ⟨hz.1, hz.2.1, hz.2.2.1, hz.2.2.2.1, hz.2.2.2.2.1, hz.2.2.2.2.2.1, hz.2.2.2.2.2.2.1, hz.2.2.2.2.2.2.2.1, hz.2.2.2.2.2.2.2.2.1, hz.2.2.2.2.2.2.2.2.2.1, hz.2.2.2.2.2.2.2.2.2.2.1, hz.2.2.2.2.2.2.2.2.2.2.2⟩ (fun hHeld => ?_)
      clear hK K
      refine norm_ (a' := ?_) ?_ ?_
      rotate_left
      ·show Act.put _ (some 156) _ = _
       simp only [Act.put, List.setIfInBounds_toArray, List.set_cons_zero, List.set_cons_succ, i64_w, i32_w]
       rfl
      refine pure_ (i := 32) (N := some 157) (v := ?_) (a' := ?_) #[true, true, true, true, true, true, true, true, true, true, true, true, true, true, true, true, true, true, true, true, true, true, true, true, true, true, true, true, true, true, true, true, true, false] rfl rfl (by kernel_rfl) (fun _ _ _ h => h) (Or.inl ⟨by rfl, ?_⟩) ?_ ?_
      rotate_left
      ·intro w'
       go_simp
       with_reducible rfl
      rotate_left
      ·simp only [Act.put, List.setIfInBounds_toArray, List.set_cons_zero, List.set_cons_succ, i64_w, i32_w]
       rfl
      refine pure_ (i := 33) (N := some 6) (v := ?_) (a' := ?_) #[true, true, true, true, true, true, true, true, true, true, true, true, true, true, true, true, true, true, true, true, true, true, true, true, true, true, true, true, true, true, true, true, true, true] rfl rfl (by kernel_rfl) (fun _ _ _ h => h) (Or.inl ⟨by rfl, ?_⟩) ?_ ?_
      rotate_left
      ·intro w'
       go_simp
       with_reducible rfl
      rotate_left
      ·simp only [Act.put, List.setIfInBounds_toArray, List.set_cons_zero, List.set_cons_succ, i64_w, i32_w]
       rfl
      refine done_ (by kernel_rfl) ?_
      go_wp2
      go_ret
      exact ⟨rfl, s_trans HBW9.out (s_trans HBA.out HB15.out)⟩
     ·have hbp := box_out w9 p l o i hi HP9.out
      have hno := fun W (hb : Below w9.heap.size w9 W) => needs_out W p l o i hi (HP9.out.below hb)
      have HBP := Lib.hid hbp
      have HNO := Lib.hid hno
      clear hbp hno
      obtain ⟨bv, e1, e2⟩ : ∃ bv, decide (i < 0) = bv ∧ (bv = false → decide ((l.length : Int) ≤ i) = true) := ⟨_, rfl, fun h => by have := of_decide_eq_false h; exact decide_eq_true (by omega)⟩
      cases bv
      all_goals
       try have e3 := e2 rfl
       clear e2
       go_upto_region 20 with (go_at_call 17; refine HBP.out.mono ?_; rintro e w10 ⟨rfl, hb10⟩; have HB10 := Lib.hid hb10; clear hb10)
       obtain ⟨wa, hwa⟩ : ∃ W : World, W = w10.alloc (.cells zBox 35) := ⟨_, rfl⟩
       have hba : Below w10.heap.size w10 wa := by rw [hwa]; exact s_alloc (Below.refl _ _) _
       have hxa : wa.heap[w10.heap.size]? = some (.cells zBox 35 (0, 0)) := by rw [hwa]; exact Array.getElem?_push_size
       unfold zBox at hwa
       rw [← hwa]
       obtain ⟨x0, x1, x2, x3, x4, x5⟩ := cells6 hxa
       have HBA := Lib.hid (s_trans HB10.out hba)
       clear hwa hba hxa
       go_wp2_with (first
        | (go_at_call 18; refine (HNO.out wa HBA.out).mono ?_; rintro e w11 ⟨rfl, hb11⟩; have HB11 := Lib.hid (s_trans HBA.out hb11); clear hb11)
        | (go_at_call 5; refine (lives_any _).mono ?_; rintro e w12 ⟨rfl, hb12⟩; have HB12 := Lib.hid (s_trans HB11.out hb12); clear hb12))
       go_ret
       exact ⟨rfl, s_trans HBW9.out HB12.out⟩
  ·have hck : Calls Tryz.prog 6 #[.slice A l.length c] w1 fun e w' => e = .returned (.tuple #[.pointer none, .int .i64 (checkE l)]) ∧ Below w1.heap.size w1 w' := (HCHK.out w1 HB1.out).mono fun e w' h => by
    obtain ⟨h1, h2⟩ := h
    rcases h2 with ⟨_, h2⟩ | ⟨h2, _⟩
    ·exact ⟨h2, h1⟩
    ·exact absurd h2 he
   have HCK := Lib.hid hck
   have he2 : (checkE l == 0) = false := beq_eq_false_iff_ne.2 he
   have he3 : decide (checkE l = 0) = false := decide_eq_false he
   have he4 : (checkE l != 0) = true := by simp [bne, he2]
   clear hck
   generalize checkE l = ce at *
   go_wp2_with (first
    | (go_at_call 6; refine HCK.out.mono ?_; rintro e w2 ⟨rfl, hb2⟩; have HB2 := Lib.hid (s_trans HB1.out hb2); clear hb2)
    | (go_at_call 7; refine (HCKR.out w2 HB2.out).mono ?_; rintro e w3 ⟨rfl, hb3⟩; have HB3 := Lib.hid (s_trans HB2.out hb3); clear hb3))
   go_loopw [40] (fun v wr => ∃ k : Nat, k ≤ l.length ∧ v = .int .i64 k ∧ Hid (Below w3.heap.size w3 wr)) (fun v _ => l.length - (intOf v).toNat)
   case atStart => exact ⟨0, Nat.zero_le _, rfl, Lib.hid (Below.refl _ _)⟩
   case round =>
    obtain ⟨k, hk, rfl, HBr⟩ := hrel
    by_cases hlt : k < l.length
    ·obtain ⟨ad0, A4, c4, A5, c5, e0, q0, q1, q2, q3, q4, q5, g3, g4, g5, g6⟩ := at_T35 (Kd.C_below HR.out (s_trans HB3.out HBr.out)) (k : Int) (by omega) (by omega)
     rw [rd43 l k hlt] at q0 q1 q2 q3 q4 q5 g3 g4 g5 g6
     rw [Int.toNat_natCast] at q0 q1 q2 q3 q4 q5
     cases e0
     have hx := HX0.out _ (List.getElem_mem hlt)
     have hsm := (small_of l[k].f1 400 hx.2.2 (by omega)).1
     generalize l[k] = y at *
     obtain ⟨wa, hwa⟩ : ∃ W : World, W = wr.alloc (.cells #[.int .i64 y.f0, .int .i64 y.f1.f0, .int .i64 y.f1.f1, .string y.f1.f2, .slice A4 y.f1.f3.length c4, .slice A5 y.f1.f4.length c5] 35) := ⟨_, rfl⟩
     have hba : Below wr.heap.size wr wa := by rw [hwa]; exact s_alloc (Below.refl _ _) _
     have hxa : wa.heap[wr.heap.size]? = some (.cells #[.int .i64 y.f0, .int .i64 y.f1.f0, .int .i64 y.f1.f1, .string y.f1.f2, .slice A4 y.f1.f3.length c4, .slice A5 y.f1.f4.length c5] 35 (0, 0)) := by rw [hwa]; exact Array.getElem?_push_size
     have hin : EIn wa y.f1 A4 c4 A5 c5 := EIn.below ⟨g3, g4, g5, g6⟩ hba
     have hgr := fun W (hb : Below wa.heap.size wa W) => goodr_any y.f1 hx.1 hx.2.1 A4 c4 A5 c5 W (hin.below hb)
     have hnp := fun W (hb : Below wa.heap.size wa W) => names_at y.f1 hsm A4 c4 A5 c5 W (hin.below hb)
     have hnr := fun W (hb : Below wa.heap.size wa W) => namesr_any y.f1 hx.1 A4 c4 A5 c5 W (hin.below hb)
     have HX := Lib.hid hxa
     have HBA := Lib.hid (s_trans HBr.out hba)
     clear g3 g4 g5 g6 hxa hba hin hx hsm
     generalize namesB y.f1 = NB at *
     have HNP := Lib.hid hnp
     have HNR := Lib.hid hnr
     clear hnp hnr
     cases hgb : goodB y.f1 with
     | true =>
      rw [hgb] at hgr
      have HGR := Lib.hid hgr
      clear hgr hgb
      cases NB
      all_goals
       go_upto_region 10 with fail
       rw [← hwa]
       clear hwa q0 q1 q2 q3 q4 q5
       obtain ⟨x0, x1, x2, x3, x4, x5⟩ := cells6 HX.out
       refine start_ (n := 12) (S := fun w' => w'.cell? ⟨wr.heap.size, 1, none⟩ = some (.int .i64 y.f1.f0) ∧ w'.cell? ⟨wr.heap.size, 2, none⟩ = some (.int .i64 y.f1.f1) ∧ w'.cell? ⟨wr.heap.size, 3, none⟩ = some (.string y.f1.f2) ∧ w'.cell? ⟨wr.heap.size, 4, none⟩ = some (.slice A4 y.f1.f3.length c4) ∧ w'.cell? ⟨wr.heap.size, 5, none⟩ = some (.slice A5 y.f1.f4.length c5)) (ds := []) #[false, false, false, false, false, false, false, false, false, false, false, false] (by kernel_rfl) rfl rfl ⟨x1, x2, x3, x4, x5⟩ (fun hHeld => ?_)
       obtain ⟨wd, hwd⟩ : ∃ W, W = wa.drew := ⟨_, rfl⟩
       rw [← hwd] at hHeld
       rw [← hwd]
       have hdr : Below wa.heap.size wa wd := by rw [hwd]; exact s_drew (Below.refl _ _)
       have HBd := Lib.hid hdr
       clear hwd hdr
       refine pure_ (i := 0) (N := some 44) (v := ?_) (a' := ?_) #[true, false, false, false, false, false, false, false, false, false, false, false] rfl rfl (by kernel_rfl) (fun _ _ _ h => h) (Or.inl ⟨by rfl, ?_⟩) ?_ ?_
       rotate_left
       ·intro w'
        go_simp
        with_reducible rfl
       rotate_left
       ·simp only [Act.put, List.setIfInBounds_toArray, List.set_cons_zero, List.set_cons_succ, i64_w, i32_w]
        rfl
       refine take_ (i := 1) (N := some 45) (v := ?_) (a' := ?_) #[true, true, false, false, false, false, false, false, false, false, false, false] rfl rfl (by kernel_rfl) (fun _ _ _ h => h) (Or.inl ⟨by rfl, ?_⟩) hHeld ?_ ?_
       rotate_left
       ·rintro w' ⟨s0, s1, s2, s3, s4⟩
        go_simp
        with_reducible rfl
       rotate_left
       ·simp only [Act.put, List.setIfInBounds_toArray, List.set_cons_zero, List.set_cons_succ, i64_w, i32_w]
        rfl
       refine one_ (i := 2) (N := some 46) #[true, true, true, false, false, false, false, false, false, false, false, false] rfl rfl (by kernel_rfl) (by decide) (fun K hK => ?_)
       refine goes_ Tryz.func8 (by kernel_rfl) rfl #[eV y.f1 A4 c4 A5 c5] (by rfl) rfl rfl (by simp only [List.map_toArray, List.map_cons, List.map_nil]; rfl) ?_
       with_reducible refine (HGR.out wd HBd.out).mono ?_
       rintro e w4 ⟨rfl, hb4⟩
       refine ⟨_, rfl, ?_⟩
       have HB4 := Lib.hid (s_trans HBd.out hb4)
       have hz := cells6 (block_on HB4.out HX.out)
       clear hb4
       refine hK.out _ _ ⟨hz.2.1, hz.2.2.1, hz.2.2.2.1, hz.2.2.2.2.1, hz.2.2.2.2.2⟩ (fun hHeld => ?_)
       clear hK K
       refine norm_ (a' := ?_) ?_ ?_
       rotate_left
       ·show Act.put _ (some 46) _ = _
        simp only [Act.put, List.setIfInBounds_toArray, List.set_cons_zero, List.set_cons_succ, i64_w, i32_w]
        rfl
       refine pure_ (i := 3) (N := some 47) (v := ?_) (a' := ?_) #[true, true, true, true, false, false, false, false, false, false, false, false] rfl rfl (by kernel_rfl) (fun _ _ _ h => h) (Or.inl ⟨by rfl, ?_⟩) ?_ ?_
       rotate_left
       ·intro w'
        go_simp
        with_reducible rfl
       rotate_left
       ·simp only [Act.put, List.setIfInBounds_toArray, List.set_cons_zero, List.set_cons_succ, i64_w, i32_w]
        rfl
       refine pure_ (i := 4) (N := some 48) (v := ?_) (a' := ?_) #[true, true, true, true, true, false, false, false, false, false, false, false] rfl rfl (by kernel_rfl) (fun _ _ _ h => h) (Or.inl ⟨by rfl, ?_⟩) ?_ ?_
       rotate_left
       ·intro w'
        go_simp
        with_reducible rfl
       rotate_left
       ·simp only [Act.put, List.setIfInBounds_toArray, List.set_cons_zero, List.set_cons_succ, i64_w, i32_w]
        rfl
       refine pure_ (i := 7) (N := some 51) (v := ?_) (a' := ?_) #[true, true, true, true, true, false, false, true, false, false, false, false] rfl rfl (by kernel_rfl) (fun _ _ _ h => h) (Or.inl ⟨by rfl, ?_⟩) ?_ ?_
       rotate_left
       ·intro w'
        go_simp
        with_reducible rfl
       rotate_left
       ·simp only [Act.put, List.setIfInBounds_toArray, List.set_cons_zero, List.set_cons_succ, i64_w, i32_w]
        rfl
       refine take_ (i := 5) (N := some 49) (v := ?_) (a' := ?_) #[true, true, true, true, true, true, false, true, false, false, false, false] rfl rfl (by kernel_rfl) (fun _ _ _ h => h) (Or.inl ⟨by rfl, ?_⟩) hHeld ?_ ?_
       rotate_left
       ·rintro w' ⟨s0, s1, s2, s3, s4⟩
        go_simp
        with_reducible rfl
       rotate_left
       ·simp only [Act.put, List.setIfInBounds_toArray, List.set_cons_zero, List.set_cons_succ, i64_w, i32_w]
        rfl
       refine take_ (i := 8) (N := some 52) (v := ?_) (a' := ?_) #[true, true, true, true, true, true, false, true, true, false, false, false] rfl rfl (by kernel_rfl) (fun _ _ _ h => h) (Or.inl ⟨by rfl, ?_⟩) hHeld ?_ ?_
       rotate_left
       ·rintro w' ⟨s0, s1, s2, s3, s4⟩
        go_simp
        with_reducible rfl
       rotate_left
       ·simp only [Act.put, List.setIfInBounds_toArray, List.set_cons_zero, List.set_cons_succ, i64_w, i32_w]
        rfl
       refine one_ (i := 6) (N := some 50) #[true, true, true, true, true, true, true, true, true, false, false, false] rfl rfl (by kernel_rfl) (by decide) (fun K hK => ?_)
       refine goes_ Tryz.func9 (by kernel_rfl) rfl #[eV y.f1 A4 c4 A5 c5] (by rfl) rfl rfl (by simp only [List.map_toArray, List.map_cons, List.map_nil]; rfl) ?_
       with_reducible refine (HNP.out w4 HB4.out).mono ?_
       rintro e w5 ⟨rfl, hb5⟩
       refine ⟨_, rfl, ?_⟩
       have HB5 := Lib.hid (s_trans HB4.out hb5)
       have hz := cells6 (block_on HB5.out HX.out)
       clear hb5
       refine hK.out _ _ ⟨hz.2.1, hz.2.2.1, hz.2.2.2.1, hz.2.2.2.2.1, hz.2.2.2.2.2⟩ (fun hHeld => ?_)
       clear hK K
       refine norm_ (a' := ?_) ?_ ?_
       rotate_left
       ·show Act.put _ (some 50) _ = _
        simp only [Act.put, List.setIfInBounds_toArray, List.set_cons_zero, List.set_cons_succ, i64_w, i32_w]
        rfl
       refine one_ (i := 9) (N := some 53) #[true, true, true, true, true, true, true, true, true, true, false, false] rfl rfl (by kernel_rfl) (by decide) (fun K hK => ?_)
       refine goes_ Tryz.func10 (by kernel_rfl) rfl #[eV y.f1 A4 c4 A5 c5] (by rfl) rfl rfl (by simp only [List.map_toArray, List.map_cons, List.map_nil]; rfl) ?_
       with_reducible refine (HNR.out w5 HB5.out).mono ?_
       rintro e w6 ⟨rfl, hb6⟩
       refine ⟨_, rfl, ?_⟩
       have HB6 := Lib.hid (s_trans HB5.out hb6)
       have hz := cells6 (block_on HB6.out HX.out)
       clear hb6
       refine hK.out _ _ ⟨hz.2.1, hz.2.2.1, hz.2.2.2.1, hz.2.2.2.2.1, hz.2.2.2.2.2⟩ (fun hHeld => ?_)
       clear hK K
       refine norm_ (a' := ?_) ?_ ?_
       rotate_left
       ·show Act.put _ (some 53) _ = _
        simp only [Act.put, List.setIfInBounds_toArray, List.set_cons_zero, List.set_cons_succ, i64_w, i32_w]
        rfl
       refine pure_ (i := 10) (N := some 54) (v := ?_) (a' := ?_) #[true, true, true, true, true, true, true, true, true, true, true, false] rfl rfl (by kernel_rfl) (fun _ _ _ h => h) (Or.inl ⟨by rfl, ?_⟩) ?_ ?_
       rotate_left
       ·intro w'
        go_simp
        with_reducible rfl
       rotate_left
       ·simp only [Act.put, List.setIfInBounds_toArray, List.set_cons_zero, List.set_cons_succ, i64_w, i32_w]
        rfl
       refine pure_ (i := 11) (N := some 55) (v := ?_) (a' := ?_) #[true, true, true, true, true, true, true, true, true, true, true, true] rfl rfl (by kernel_rfl) (fun _ _ _ h => h) (Or.inl ⟨by rfl, ?_⟩) ?_ ?_
       rotate_left
       ·intro w'
        go_simp
        with_reducible rfl
       rotate_left
       ·simp only [Act.put, List.setIfInBounds_toArray, List.set_cons_zero, List.set_cons_succ, i64_w, i32_w]
        rfl
       refine done_ (by kernel_rfl) ?_
       go_wp2
       go_roundw
       case rel => exact ⟨k + 1, by omega, by go_num, Lib.hid (s_trans HBA.out HB6.out)⟩
       case measure => simp [intOf]; omega
     | false =>
      rw [hgb] at hgr
      have HGR := Lib.hid hgr
      clear hgr hgb
      go_upto_region 10 with fail
      rw [← hwa]
      clear hwa q0 q1 q2 q3 q4 q5
      obtain ⟨x0, x1, x2, x3, x4, x5⟩ := cells6 HX.out
      refine start_ (n := 12) (S := fun w' => w'.cell? ⟨wr.heap.size, 1, none⟩ = some (.int .i64 y.f1.f0) ∧ w'.cell? ⟨wr.heap.size, 2, none⟩ = some (.int .i64 y.f1.f1) ∧ w'.cell? ⟨wr.heap.size, 3, none⟩ = some (.string y.f1.f2) ∧ w'.cell? ⟨wr.heap.size, 4, none⟩ = some (.slice A4 y.f1.f3.length c4) ∧ w'.cell? ⟨wr.heap.size, 5, none⟩ = some (.slice A5 y.f1.f4.length c5)) (ds := []) #[false, false, false, false, false, false, false, false, false, false, false, false] (by kernel_rfl) rfl rfl ⟨x1, x2, x3, x4, x5⟩ (fun hHeld => ?_)
      obtain ⟨wd, hwd⟩ : ∃ W, W = wa.drew := ⟨_, rfl⟩
      rw [← hwd] at hHeld
      rw [← hwd]
      have hdr : Below wa.heap.size wa wd := by rw [hwd]; exact s_drew (Below.refl _ _)
      have HBd := Lib.hid hdr
      clear hwd hdr
      refine pure_ (i := 0) (N := some 44) (v := ?_) (a' := ?_) #[true, false, false, false, false, false, false, false, false, false, false, false] rfl rfl (by kernel_rfl) (fun _ _ _ h => h) (Or.inl ⟨by rfl, ?_⟩) ?_ ?_
      rotate_left
      ·intro w'
       go_simp
       with_reducible rfl
      rotate_left
      ·simp only [Act.put, List.setIfInBounds_toArray, List.set_cons_zero, List.set_cons_succ, i64_w, i32_w]
       rfl
      refine take_ (i := 1) (N := some 45) (v := ?_) (a' := ?_) #[true, true, false, false, false, false, false, false, false, false, false, false] rfl rfl (by kernel_rfl) (fun _ _ _ h => h) (Or.inl ⟨by rfl, ?_⟩) hHeld ?_ ?_
      rotate_left
      ·rintro w' ⟨s0, s1, s2, s3, s4⟩
       go_simp
       with_reducible rfl
      rotate_left
      ·simp only [Act.put, List.setIfInBounds_toArray, List.set_cons_zero, List.set_cons_succ, i64_w, i32_w]
       rfl
      refine one_ (i := 2) (N := some 46) #[true, true, true, false, false, false, false, false, false, false, false, false] rfl rfl (by kernel_rfl) (by decide) (fun K hK => ?_)
      refine goes_ Tryz.func8 (by kernel_rfl) rfl #[eV y.f1 A4 c4 A5 c5] (by rfl) rfl rfl (by simp only [List.map_toArray, List.map_cons, List.map_nil]; rfl) ?_
      with_reducible refine (HGR.out wd HBd.out).mono ?_
      rintro e w4 ⟨rfl, hb4⟩
      refine ⟨_, rfl, ?_⟩
      have HB4 := Lib.hid (s_trans HBd.out hb4)
      have hz := cells6 (block_on HB4.out HX.out)
      clear hb4
      refine hK.out _ _ ⟨hz.2.1, hz.2.2.1, hz.2.2.2.1, hz.2.2.2.2.1, hz.2.2.2.2.2⟩ (fun hHeld => ?_)
      clear hK K
      refine norm_ (a' := ?_) ?_ ?_
      rotate_left
      ·show Act.put _ (some 46) _ = _
       simp only [Act.put, List.setIfInBounds_toArray, List.set_cons_zero, List.set_cons_succ, i64_w, i32_w]
       rfl
      refine pure_ (i := 3) (N := some 47) (v := ?_) (a' := ?_) #[true, true, true, true, false, false, false, false, false, false, false, false] rfl rfl (by kernel_rfl) (fun _ _ _ h => h) (Or.inl ⟨by rfl, ?_⟩) ?_ ?_
      rotate_left
      ·intro w'
       go_simp
       with_reducible rfl
      rotate_left
      ·simp only [Act.put, List.setIfInBounds_toArray, List.set_cons_zero, List.set_cons_succ, i64_w, i32_w]
       rfl
      refine pure_ (i := 4) (N := some 48) (v := undef) (a' := ?_) #[true, true, true, true, true, false, false, false, false, false, false, false] rfl rfl (by kernel_rfl) (fun _ _ _ h => h) (Or.inr ⟨by rfl, rfl⟩) ?_ ?_
      rotate_left
      ·simp only [Act.put, List.setIfInBounds_toArray, List.set_cons_zero, List.set_cons_succ, i64_w, i32_w]
       rfl
      refine pure_ (i := 5) (N := some 49) (v := undef) (a' := ?_) #[true, true, true, true, true, true, false, false, false, false, false, false] rfl rfl (by kernel_rfl) (fun _ _ _ h => h) (Or.inr ⟨by rfl, rfl⟩) ?_ ?_
      rotate_left
      ·simp only [Act.put, List.setIfInBounds_toArray, List.set_cons_zero, List.set_cons_succ, i64_w, i32_w]
       rfl
      refine pure_ (i := 6) (N := some 50) (v := undef) (a' := ?_) #[true, true, true, true, true, true, true, false, false, false, false, false] rfl rfl (by kernel_rfl) (fun _ _ _ h => h) (Or.inr ⟨by rfl, rfl⟩) ?_ ?_
      rotate_left
      ·simp only [Act.put, List.setIfInBounds_toArray, List.set_cons_zero, List.set_cons_succ, i64_w, i32_w]
       rfl
      refine pure_ (i := 7) (N := some 51) (v := undef) (a' := ?_) #[true, true, true, true, true, true, true, true, false, false, false, false] rfl rfl (by kernel_rfl) (fun _ _ _ h => h) (Or.inr ⟨by rfl, rfl⟩) ?_ ?_
      rotate_left
      ·simp only [Act.put, List.setIfInBounds_toArray, List.set_cons_zero, List.set_cons_succ, i64_w, i32_w]
       rfl
      refine pure_ (i := 8) (N := some 52) (v := undef) (a' := ?_) #[true, true, true, true, true, true, true, true, true, false, false, false] rfl rfl (by kernel_rfl) (fun _ _ _ h => h) (Or.inr ⟨by rfl, rfl⟩) ?_ ?_
      rotate_left
      ·simp only [Act.put, List.setIfInBounds_toArray, List.set_cons_zero, List.set_cons_succ, i64_w, i32_w]
       rfl
      refine pure_ (i := 9) (N := some 53) (v := undef) (a' := ?_) #[true, true, true, true, true, true, true, true, true, true, false, false] rfl rfl (by kernel_rfl) (fun _ _ _ h => h) (Or.inr ⟨by rfl, rfl⟩) ?_ ?_
      rotate_left
      ·simp only [Act.put, List.setIfInBounds_toArray, List.set_cons_zero, List.set_cons_succ, i64_w, i32_w]
       rfl
      refine pure_ (i := 10) (N := some 54) (v := undef) (a' := ?_) #[true, true, true, true, true, true, true, true, true, true, true, false] rfl rfl (by kernel_rfl) (fun _ _ _ h => h) (Or.inr ⟨by rfl, rfl⟩) ?_ ?_
      rotate_left
      ·simp only [Act.put, List.setIfInBounds_toArray, List.set_cons_zero, List.set_cons_succ, i64_w, i32_w]
       rfl
      refine pure_ (i := 11) (N := some 55) (v := ?_) (a' := ?_) #[true, true, true, true, true, true, true, true, true, true, true, true] rfl rfl (by kernel_rfl) (fun _ _ _ h => h) (Or.inl ⟨by rfl, ?_⟩) ?_ ?_
      rotate_left
      ·intro w'
       go_simp
       with_reducible rfl
      rotate_left
      ·simp only [Act.put, List.setIfInBounds_toArray, List.set_cons_zero, List.set_cons_succ, i64_w, i32_w]
       rfl
      refine done_ (by kernel_rfl) ?_
      go_wp2
      go_roundw
      case rel => exact ⟨k + 1, by omega, by go_num, Lib.hid (s_trans HBA.out HB4.out)⟩
      case measure => simp [intOf]; omega
    ·obtain rfl : k = l.length := by omega
     go_wp2_with (go_at_call 5; refine (lives_any _).mono ?_; rintro e w4 ⟨rfl, hb4⟩; have HB4 := Lib.hid (s_trans (s_trans HB3.out HBr.out) hb4); clear hb4)
     go_ret
     exact ⟨rfl, HB4.out⟩
end Go.Proofs.YtmkalnljclhigaaGreat.Ch
