import Derived.Test.YtejmbnahdkgpmaaQ2
import Derived.Deep.DeepCutAuto
namespace Go.Proofs.Ytejmbnahdkgpmaa.Thr
set_option linter.unusedVariables false
set_option linter.unusedSimpArgs false
set_option linter.unnecessarySimpa false
open Go.RowKit Go.Maps Go.Proofs.YtejmbnahdkgpmaaK Go.Proofs.Ytejmbnahdkgpmaa.Money

/-! ### Plain: what is added -/
theorem sumE2 (u v : Int) : sumE [u, v] = (if mayM u = true ∧ mayM v = true then (if mayM (u + v) = true then 0 else 3) else 2) := by
  have h : sumL [u, v] = u + v := by simp [sumL]
  unfold sumE
  rw [h]
  simp
theorem sumV2 (u v : Int) : sumV [u, v] = (if mayM u = true ∧ mayM v = true then (if mayM (u + v) = true then u + v else 0) else 0) := by
  have h : sumL [u, v] = u + v := by simp [sumL]
  unfold sumV
  rw [h]
  simp
theorem sumE2_ok {u v : Int} (h : sumE [u, v] = 0) : mayM u = true ∧ mayM v = true ∧ mayM (u + v) = true ∧ sumV [u, v] = u + v := by
  rw [sumE2] at h
  rw [sumV2]
  split at h
  · split at h
    · rename_i h1 h2; exact ⟨h1.1, h1.2, h2, by rw [if_pos h1, if_pos h2]⟩
    · cases h
  · cases h
theorem sumV2_may (u v : Int) : mayM (sumV [u, v]) = true := by
  rw [sumV2]
  split
  · split
    · assumption
    · rfl
  · rfl
theorem withV_may (T : Int → Int) (y a : Int) : mayM (withV T y a) = true := by
  unfold withV
  split
  · exact sumV2_may _ _
  · rfl
theorem withV_wf (T : Int → Int) (y a : Int) : (Lit.int .i64 (withV T y a)).wf = true := by
  have := (mayM_iff _).1 (withV_may T y a)
  exact wf64 (by omega) (by omega)

/-- What holds of every total: amounts, and nothing ahead of the first year. -/
def Good (T : Int → Int) : Prop := (∀ z, mayM (T z) = true) ∧ ∀ z, z < 1970 → T z = 0
theorem good0 : Good (fun _ => 0) := ⟨fun _ => rfl, fun _ _ => rfl⟩
theorem with_ok {T : Int → Int} {y a : Int} (h : withE T y a = 0) : 1970 ≤ y ∧ y ≤ 9999 ∧ mayM (T y) = true ∧ mayM a = true ∧ mayM (T y + a) = true ∧ withV T y a = T y + a := by
  unfold withE at h
  unfold withV
  split at h
  · rename_i hr
    obtain ⟨h1, h2, h3, h4⟩ := sumE2_ok h
    exact ⟨hr.1, hr.2, h1, h2, h3, by rw [if_pos hr]; exact h4⟩
  · cases h
theorem good_add {T : Int → Int} (h : Good T) (y a : Int) : Good (if withE T y a = 0 then upd T y (withV T y a) else T) := by
  split
  · rename_i he
    have := with_ok he
    refine ⟨fun z => ?_, fun z hz => ?_⟩
    · unfold upd; split
      · exact withV_may T y a
      · exact h.1 z
    · unfold upd; rw [if_neg (by omega)]; exact h.2 z hz
  · exact h

/-- A slice of what was sold: each cell's number. -/
def RSold (w : World) (A : Option Addr) (n : Nat) (xs : List (Int × Int)) : Prop :=
  xs.length = n ∧ ∀ j, j < n → ∃ ad, A = some ad ∧ w.cell? (ad.add (j * 2)) = some (.int .i64 (xs.getD j (0, 0)).1) ∧ w.cell? ((ad.add (j * 2)).add 1) = some (.int .i64 (xs.getD j (0, 0)).2) ∧ (Lit.int .i64 (xs.getD j (0, 0)).1).wf = true

theorem cell_thru {W w1 wr : World} {m : Nat} (hb : Below W.heap.size W w1) (hg : w1.grownBy wr (some m)) (hm : W.heap.size ≤ m) {a : Addr} {v : Value} (h : W.cell? a = some v) : wr.cell? a = some v := by
  have hlt := World.block_lt_of_cell? W a h
  exact hg.cell ((hb.cell hlt).trans h) (fun e => by have : a.block = m := by simpa using e
                                                     omega)
theorem wf_bd {y : Int} (h : (Lit.int .i64 y).wf = true) : -9223372036854775808 ≤ y ∧ y ≤ 9223372036854775807 := by
  have hmin : IntKind.i64.min = -9223372036854775808 := rfl
  have hmax : IntKind.i64.max = 9223372036854775807 := rfl
  simp only [Lit.wf, Bool.and_eq_true, decide_eq_true_eq] at h
  omega

set_option maxRecDepth 100000 in
set_option maxHeartbeats 4000000 in
theorem stays_any (A : Option Addr) (n c : Nat) (xs : List (Int × Int)) (y a : Int) (A2 : Option Addr) (n2 c2 : Nat) (ys : List Int) (W : World) (hx : RSold W A n xs) (hys : ∀ j, j < n2 → ∃ ad, A2 = some ad ∧ W.cell? (ad.add j) = some (.int .i64 (ys.getD j 0))) (hy : (Lit.int .i64 y).wf = true) (hn : n ≤ 9223372036854775807) :
    Calls Try.prog 3 #[.slice A n c, .agg #[.int .i64 y, .int .i64 a], .slice A2 n2 c2] W fun e w' => e = .returned (.bool true) ∧ Below W.heap.size W w' := by
  by_cases h1 : n ≤ 60 ∧ n2 ≤ 60 ∧ y < 9999
  · obtain ⟨h1, h2, h3⟩ := h1
    have d1 : decide (60 < n) = false := decide_eq_false (by omega)
    have d2 : decide (60 < n2) = false := decide_eq_false (by omega)
    have d3 : decide (9999 ≤ y) = false := decide_eq_false (by omega)
    have HX := Lib.hid hx
    have HY := Lib.hid hys
    clear hx hys
    go_enter Try.func3, Try.ntmps3
    go_wp2_with (go_at_call 12; refine (new_any _).mono ?_; rintro e w1 ⟨rfl, ht1, hb1⟩; have HT1 := Lib.hid ht1; have HB1 := Lib.hid hb1; clear ht1 hb1)
    have es : (W.alloc (.cells #[.int .i64 y, .int .i64 a] 24)).heap.size = W.heap.size + 1 := by simp
    have hbw := s_trans (s_alloc (Below.refl W.heap.size W) (.cells #[.int .i64 y, .int .i64 a] 24)) HB1.out
    have fb1 := block_kept HB1.out
    have ht1 := HT1.out
    rw [es] at ht1
    have HT := Lib.hid ht1
    have HBW := Lib.hid hbw
    have FB1 := Lib.hid fb1
    clear ht1 hbw fb1 es HT1 HB1
    go_loopw [38] (fun i wr => ∃ k : Nat, ∃ T : Int → Int, k ≤ n ∧ i = .int .i64 k ∧ Hid (Tot wr (W.heap.size + 1 + 1) (W.heap.size + 1) k T) ∧ Hid (Good T) ∧ Hid (w1.grownBy wr (some (W.heap.size + 1)))) (fun i _ => n - (intOf i).toNat)
    case atStart => exact ⟨0, _, by omega, rfl, HT.out, good0, grown_of_below (Below.refl _ _) _⟩
    case round =>
      obtain ⟨k, T, hk, rfl, HTk, HG, HR⟩ := hrel
      by_cases hkn : k < n
      · have hx := HX.out.2 k hkn
        obtain ⟨ad, rfl, hx1, hx2, hx3⟩ := hx
        have x1 := cell_thru HBW.out HR.out (by omega) hx1
        have x2 := cell_thru HBW.out HR.out (by omega) hx2
        have x2' : wr.cell? ⟨(ad.add (k * 2)).block, (ad.add (k * 2)).off + 1, none⟩ = _ := x2
        clear hx1 hx2 x2
        generalize xs.getD k (0, 0) = x at *
        obtain ⟨xy, xa⟩ := x
        dsimp only at x1 x2' hx3
        have HX3 := Lib.hid hx3
        clear hx3
        go_wp2_with fail
        refine (add_any _ _ _ _ T (HTk.out.below (s_alloc (Below.refl _ _) _)) xy xa HX3.out (by unfold maxLen; omega) (withV_wf _ _ _)).mono ?_
        rintro e w3 ⟨rfl, ht3, hg3⟩
        have HT3 := Lib.hid ht3
        have HG3 := Lib.hid (good_add HG.out xy xa)
        have HR3 := Lib.hid ((HR.out.trans (grown_of_below (s_alloc (Below.refl _ _) _) _)).trans hg3)
        clear ht3 hg3 x1 x2'
        go_wp2_with fail
        go_roundw
        case rel => exact ⟨k + 1, _, by omega, by go_num, HT3.out, HG3.out, HR3.out⟩
        case measure => simp [intOf]; omega
      · have hkn' : k = n := by omega
        subst hkn'
        have fk : wr.heap[W.heap.size]? = some _ := (HR.out.block W.heap.size (block_lt FB1.out) (by simp)).trans FB1.out
        obtain ⟨b0, b1⟩ := cells2 fk
        have hov := fun wx (hx : Tot wx _ _ _ T) => over_any wx (W.heap.size + 1 + 1) (W.heap.size + 1) k T hx y a false hy
        have hadd := fun wx (hx : Tot wx _ _ _ T) => add_any wx (W.heap.size + 1 + 1) (W.heap.size + 1) k T hx y a hy (by unfold maxLen; omega) (withV_wf _ _ _)
        have FK := Lib.hid fk
        clear fk
        have hfour : withE T y a ≠ 0 ∨ withE T y a = 0 ∧ overB T y a false = false ∨ withE T y a = 0 ∧ overB T y a false = true ∧ a < 0 ∨ withE T y a = 0 ∧ overB T y a false = true ∧ 0 ≤ a := by
          cases overB T y a false <;> simp <;> omega
        rcases hfour with hE | ⟨hE, hO⟩ | ⟨hE, hO, ha⟩ | ⟨hE, hO, ha⟩
        · have HO := Lib.hid hov
          have hE' : (withE T y a != 0) = true := by simpa using hE
          clear hov hadd hE
          generalize withE T y a = E at *
          generalize overB T y a false = O at *
          go_wp2_with (first
            | (go_at_call 14; refine (HO.out _ HTk.out).mono ?_; rintro e w2 ⟨rfl, hb2⟩; have HB2 := Lib.hid hb2; clear hb2)
            | (go_at_call 11; refine (lives_any _).mono ?_; rintro e w5 ⟨rfl, hb5⟩; have HB5 := Lib.hid hb5; clear hb5))
          go_ret
          exact ⟨rfl, s_trans (s_trans (HBW.out.grown HR.out HBW.out.size (fun j hj => by cases hj; omega)) HB2.out) HB5.out⟩
        · rw [hE, hO] at hov
          have HO := Lib.hid hov
          clear hov hadd hE hO
          go_wp2_with (first
            | (go_at_call 14; refine (HO.out _ HTk.out).mono ?_; rintro e w2 ⟨rfl, hb2⟩; have HB2 := Lib.hid hb2; clear hb2)
            | (go_at_call 11; refine (lives_any _).mono ?_; rintro e w5 ⟨rfl, hb5⟩; have HB5 := Lib.hid hb5; clear hb5))
          go_ret
          exact ⟨rfl, s_trans (s_trans (HBW.out.grown HR.out HBW.out.size (fun j hj => by cases hj; omega)) HB2.out) HB5.out⟩
        · rw [hE, hO] at hov
          have HO := Lib.hid hov
          clear hov hadd hE hO
          go_wp2_with (first
            | (go_at_call 14; refine (HO.out _ HTk.out).mono ?_; rintro e w2 ⟨rfl, hb2⟩; have hb0 := cells2 (block_on hb2 FK.out); have HB2 := Lib.hid hb2; clear hb2)
            | (go_at_call 11; refine (lives_any _).mono ?_; rintro e w5 ⟨rfl, hb5⟩; have HB5 := Lib.hid hb5; clear hb5))
          go_ret
          exact ⟨rfl, s_trans (s_trans (HBW.out.grown HR.out HBW.out.size (fun j hj => by cases hj; omega)) HB2.out) HB5.out⟩
        · have hw := with_ok hE
          rw [hE, if_pos rfl, hw.2.2.2.2.2] at hadd
          have hov' := hO
          unfold overB at hov'
          rw [if_pos hE, hw.2.2.2.2.2] at hov'
          simp only [Bool.false_or, Bool.or_eq_true, decide_eq_true_eq] at hov'
          rw [hE, hO] at hov
          have HO := Lib.hid hov
          have HA := Lib.hid hadd
          have HOV := Lib.hid hov'
          have hy1 : 1970 ≤ y := hw.1
          have HW := Lib.hid hw
          clear hov hadd hE hO hov' hw
          have hG2 : Good (upd T y (T y + a)) := by
            have := good_add HG.out y a
            rwa [if_pos (by have := HW.out; unfold withE; rw [if_pos ⟨this.1, this.2.1⟩, sumE2, if_pos ⟨this.2.2.1, this.2.2.2.1⟩, if_pos this.2.2.2.2.1]), HW.out.2.2.2.2.2] at this
          go_upto_region 14 with (first
            | (go_at_call 14; refine (HO.out _ HTk.out).mono ?_; rintro e w2 ⟨rfl, hb2⟩; have hb0 := cells2 (block_on hb2 FK.out); have HT2 := Lib.hid (HTk.out.below hb2); have HB2 := Lib.hid hb2; clear hb2)
            | (go_at_call 13; refine (HA.out _ HT2.out).mono ?_; rintro e w3 ⟨rfl, ht3, hg3⟩; have HT3 := Lib.hid ht3; have HR3 := Lib.hid ((HR.out.trans (grown_of_below HB2.out _)).trans hg3); clear ht3 hg3))
          have fb3 : w3.heap[W.heap.size]? = some _ := (HR3.out.block W.heap.size (block_lt FB1.out) (by simp)).trans FB1.out
          have FB3 := Lib.hid fb3
          obtain ⟨c0, c1⟩ := cells2 fb3
          have hof := fun wx (hx : Tot wx _ _ _ _) => tof_any wx (W.heap.size + 1 + 1) (W.heap.size + 1) (k + 1) (upd T y (T y + a)) hx (y - 1) (wf64 (by omega) (by omega))
          have hu1 : upd T y (T y + a) (y - 1) = T (y - 1) := by unfold upd; rw [if_neg (by omega)]
          have hu2 : upd T y (T y + a) y = T y + a := by unfold upd; rw [if_pos rfl]
          rw [hu1] at hof
          have h69 : y = 1970 → T (y - 1) = 0 := fun e => HG.out.2 _ (by omega)
          have HOF := Lib.hid hof
          have HU1 := Lib.hid hu1
          have HU2 := Lib.hid hu2
          have HG2 := Lib.hid hG2
          clear hof hu1 hu2 fb3 hG2 b0 b1
          generalize hP : T (y - 1) = P at *
          generalize hS : T y + a = S at *
          have HP := Lib.hid hP
          clear hP hS
          have hthree : (y = 1970 ∧ 1000000 < S) ∨ (1970 < y ∧ 1000000 < P) ∨ (1970 < y ∧ P ≤ 1000000 ∧ 1000000 < S) := by
            have := HOV.out
            by_cases e : y = 1970
            · have := h69 e
              omega
            · omega
          clear h69
          have hbf : ∃ bf : Bool, (bf = false → 1000000 < S) ∧ ((decide (1970 < y) && decide (1000000 < P)) = bf) := by
            rcases hthree with h | h | h
            · exact ⟨false, (fun _ => h.2), (by simp [h.1])⟩
            · exact ⟨true, (fun e => absurd e (by decide)), (by simp [h.1, h.2])⟩
            · exact ⟨false, (fun _ => h.2.2), (by simp; omega)⟩
          clear hthree
          obtain ⟨bf, hbf1, hbf2⟩ := hbf
          have HBF1 := Lib.hid hbf1
          have HBF2 := Lib.hid hbf2
          clear hbf1 hbf2
          go_cut [12] (fun s12 wx => s12 = .bool bf ∧ wx = w3)
          case first =>
            by_cases e1 : 1970 < y
            all_goals
              go_wp2_with (go_at_call 15; refine (HOF.out _ HT3.out).mono ?_; rintro e w5 ⟨rfl, rfl⟩)
              all_goals go_meet
              all_goals
                case rel =>
                  refine ⟨?_, rfl⟩
                  rw [← HBF2.out]
                  have e2 : decide (1970 < y) = true ∨ decide (1970 < y) = false := by cases decide (1970 < y) <;> simp
                  rcases e2 with e2 | e2
                  · rw [e2]; first | rfl | (exfalso; simp at e2; omega)
                  · rw [e2]; first | rfl | (exfalso; simp at e2; omega)
          case rest =>
            obtain ⟨rfl, rfl⟩ := hcut
            go_wp2_with fail
            go_loopw [92] (fun i wr => ∃ j : Nat, ∃ T2 : Int → Int, j ≤ n2 ∧ i = .int .i64 j ∧ Hid (Tot wr (W.heap.size + 1 + 1) (W.heap.size + 1) (k + 1 + j) T2) ∧ Hid (Good T2) ∧ Hid (w1.grownBy wr (some (W.heap.size + 1))) ∧ Hid (S ≤ T2 y ∧ T2 (y - 1) = P)) (fun i _ => n2 - (intOf i).toNat)
            case atStart =>
              refine ⟨0, _, by omega, rfl, HT3.out, HG2.out, HR3.out, ?_⟩
              exact ⟨by rw [HU2.out]; exact Int.le_refl _, HU1.out⟩
            case round =>
              obtain ⟨j, T2, hj, rfl, HTj, HGj, HRj, HIj⟩ := hrel
              have HBj := Lib.hid (HBW.out.grown HRj.out HBW.out.size (fun j hj => by cases hj; omega))
              have fj := (HRj.out.block W.heap.size (block_lt FB1.out) (by simp)).trans FB1.out
              have FJ := Lib.hid fj
              obtain ⟨b0, b1⟩ := cells2 fj
              clear fj c0 c1
              by_cases hlt : j < n2
              · obtain ⟨ad, rfl, hyc⟩ := HY.out j hlt
                have hcell := cell_thru HBW.out HRj.out (by omega) hyc
                clear hyc
                generalize ys.getD j 0 = v at *
                by_cases hv : v < 0
                · go_wp2_with (go_at_call 11; refine (lives_any _).mono ?_; rintro e w5 ⟨rfl, hb5⟩; have HB5 := Lib.hid hb5; clear hb5)
                  go_ret
                  exact ⟨rfl, s_trans HBj.out HB5.out⟩
                · have hov := fun wx (hx : Tot wx _ _ _ T2) => over_any wx (W.heap.size + 1 + 1) (W.heap.size + 1) (k + 1 + j) T2 hx y v false hy
                  by_cases hE : withE T2 y v = 0
                  · have hw := with_ok hE
                    have hO : overB T2 y v false = true := by
                      unfold overB
                      rw [if_pos hE, hw.2.2.2.2.2, HIj.out.2]
                      have h1 := HIj.out.1
                      have h2 := HOV.out
                      simp
                      omega
                    have hE1 : withE T2 (y + 1) 0 = 0 := by
                      unfold withE
                      rw [if_pos (by omega), sumE2, if_pos ⟨HGj.out.1 _, rfl⟩, if_pos (by have := HGj.out.1 (y + 1); simpa using this)]
                    have hO1 : bf = false → overB T2 (y + 1) 0 false = true := fun e => by
                      unfold overB
                      rw [if_pos hE1, show y + 1 - 1 = y by omega]
                      have h1 := HIj.out.1
                      have h2 := HBF1.out e
                      simp
                      omega
                    have hov1 := fun wx (hx : Tot wx _ _ _ T2) => over_any wx (W.heap.size + 1 + 1) (W.heap.size + 1) (k + 1 + j) T2 hx (y + 1) 0 false (wf64 (by omega) (by omega))
                    have hadd := fun wx (hx : Tot wx _ _ _ T2) => add_any wx (W.heap.size + 1 + 1) (W.heap.size + 1) (k + 1 + j) T2 hx y v hy (by unfold maxLen; omega) (withV_wf _ _ _)
                    have hgood := good_add HGj.out y v
                    rw [hE, hO] at hov
                    rw [hE1] at hov1
                    rw [hE, if_pos rfl, hw.2.2.2.2.2] at hadd
                    rw [if_pos hE, hw.2.2.2.2.2] at hgood
                    have HO := Lib.hid hov
                    have HO1 := Lib.hid hov1
                    have HOB := Lib.hid hO1
                    have HA := Lib.hid hadd
                    have HGD := Lib.hid hgood
                    clear hov hov1 hO1 hadd hgood hw hO hE1 hE
                    generalize overB T2 (y + 1) 0 false = O1 at *
                    have hcase : bf = true ∨ bf = false ∧ O1 = true := by
                      cases hb : bf
                      · exact .inr ⟨rfl, HOB.out hb⟩
                      · exact .inl rfl
                    rcases hcase with rfl | ⟨rfl, rfl⟩
                    all_goals
                      go_wp2_with fail
                      refine (HO.out _ HTj.out).mono ?_
                      rintro e w5 ⟨rfl, hb5⟩
                      have hb0 := cells2 (block_on hb5 FJ.out)
                      have F5 := Lib.hid (block_on hb5 FJ.out)
                      have HT5 := Lib.hid (HTj.out.below hb5)
                      have HR5 := Lib.hid (HRj.out.trans (grown_of_below hb5 _))
                      clear hb5
                      go_wp2_with fail
                      refine (HO1.out _ HT5.out).mono ?_
                      rintro e w6 ⟨rfl, hb6⟩
                      have hb1 := cells2 (block_on hb6 F5.out)
                      have HT6 := Lib.hid (HT5.out.below hb6)
                      have HR6 := Lib.hid (HR5.out.trans (grown_of_below hb6 _))
                      clear hb6
                      go_wp2_with (go_at_call 13; refine (HA.out _ HT6.out).mono ?_; rintro e w7 ⟨rfl, ht7, hg7⟩; have HT7 := Lib.hid ht7; have HR7 := Lib.hid (HR6.out.trans hg7); clear ht7 hg7)
                      go_roundw
                      case rel =>
                        refine ⟨j + 1, _, by omega, by go_num, HT7.out, HGD.out, HR7.out, ?_⟩
                        have h1 := HIj.out
                        unfold upd
                        exact ⟨by rw [if_pos rfl]; omega, by rw [if_neg (by omega)]; exact h1.2⟩
                      case measure => simp [intOf]; omega
                  · have hE' : (withE T2 y v != 0) = true := by simpa using hE
                    have HO := Lib.hid hov
                    clear hov hE
                    generalize withE T2 y v = E at *
                    generalize overB T2 y v false = O at *
                    go_wp2_with (first
                      | (go_at_call 14; refine (HO.out _ HTj.out).mono ?_; rintro e w5 ⟨rfl, hb5⟩; have HB5 := Lib.hid hb5; clear hb5)
                      | (go_at_call 11; refine (lives_any _).mono ?_; rintro e w6 ⟨rfl, hb6⟩; have HB6 := Lib.hid hb6; clear hb6))
                    go_ret
                    exact ⟨rfl, s_trans (s_trans HBj.out HB5.out) HB6.out⟩
              · have hjn : j = n2 := by omega
                subst hjn
                go_wp2_with (go_at_call 11; refine (lives_any _).mono ?_; rintro e w5 ⟨rfl, hb5⟩; have HB5 := Lib.hid hb5; clear hb5)
                go_ret
                exact ⟨rfl, s_trans HBj.out HB5.out⟩
  · clear hx hys
    have h1 : 60 < n ∨ n ≤ 60 ∧ 60 < n2 ∨ n ≤ 60 ∧ n2 ≤ 60 ∧ 9999 ≤ y := by omega
    rcases h1 with h1 | ⟨h1, h2⟩ | ⟨h1, h2, h3⟩
    · have d1 : decide (60 < n) = true := decide_eq_true h1
      go_enter Try.func3, Try.ntmps3
      go_wp2_with (go_at_call 11; refine (lives_any _).mono ?_; rintro e w5 ⟨rfl, hb5⟩; have HB5 := Lib.hid hb5; clear hb5)
      all_goals
        first
          | (exfalso; omega)
          | (go_ret; exact ⟨rfl, s_trans (s_alloc (Below.refl _ _) _) HB5.out⟩)
    · have d1 : decide (60 < n) = false := decide_eq_false (by omega)
      have d2 : decide (60 < n2) = true := decide_eq_true h2
      go_enter Try.func3, Try.ntmps3
      go_wp2_with (go_at_call 11; refine (lives_any _).mono ?_; rintro e w5 ⟨rfl, hb5⟩; have HB5 := Lib.hid hb5; clear hb5)
      all_goals
        first
          | (exfalso; omega)
          | (go_ret; exact ⟨rfl, s_trans (s_alloc (Below.refl _ _) _) HB5.out⟩)
    · have d1 : decide (60 < n) = false := decide_eq_false (by omega)
      have d2 : decide (60 < n2) = false := decide_eq_false (by omega)
      have d3 : decide (9999 ≤ y) = true := decide_eq_true h3
      go_enter Try.func3, Try.ntmps3
      go_wp2_with (go_at_call 11; refine (lives_any _).mono ?_; rintro e w5 ⟨rfl, hb5⟩; have HB5 := Lib.hid hb5; clear hb5)
      all_goals
        first
          | (exfalso; omega)
          | (go_ret; exact ⟨rfl, s_trans (s_alloc (Below.refl _ _) _) HB5.out⟩)
end Go.Proofs.Ytejmbnahdkgpmaa.Thr
