import Derived.Test.YtejmbnahdkgpmaaL2
import Derived.Test.YtejmbnahdkgpmaaT8
namespace Go.Proofs.Ytejmbnahdkgpmaa
set_option linter.unusedVariables false
set_option linter.unusedSimpArgs false
open Go.RowKit Go.Proofs.YtejmbnahdkgpmaaK

set_option maxRecDepth 100000 in
set_option maxHeartbeats 4000000 in
theorem treatOne_may (s : Bool) (k : Int) (x : Bool) (f t p l : Int) (b o : Bool) (w : World) (hm : mayB k f t p l = true) :
    Calls Try.prog 5 #[.agg #[.bool s, .int .i64 k, .bool x, .int .i64 f, .int .i64 t, .int .i64 p, .int .i64 l, .bool b, .bool o]] w fun e w' => e = .returned (.bool true) ∧ Below w.heap.size w w' := by
  have hr := ofS_range s k x f t p l b o hm
  have hh := fun n => holds_eq n s k x f t p l b o hm
  have hE : ofE k f t p l = 0 := by simp [ofE, hm]
  have h0 := fun wx => of_any s k x f t p l b o wx
  rw [hE] at h0
  generalize hT : ofS s k x f t p l b o = T at *
  obtain ⟨r1, r2⟩ := hr
  have HH := Lib.hid hh
  have Hm := Lib.hid hm
  have H0 := Lib.hid h0
  clear hm hh hT hE h0
  go_enter Try.func5, Try.ntmps5
  go_wp2_with (first
    | (go_at_call 16; refine (H0.out _).mono ?_; rintro e w1 ⟨rfl, hb1⟩; obtain ⟨hc1, hf1⟩ := bcell hb1; have HB1 := Lib.hid hb1; clear hb1)
    | (go_at_call 19; refine (rmay_any _ _ _ _ _ _ _ _ _ _).mono ?_; rintro e w2 ⟨rfl, hb2⟩; rw [Hm.out]; have HB2 := Lib.hid (b_trans HB1.out hb2); clear hb2))
  clear hc1 hf1
  go_loopw [5, 6] (fun n j wr => ∃ i : Int, 1 ≤ i ∧ i ≤ 15 ∧ j = .int .i64 i ∧ n = .int .i64 (if T < i then 1 else 0) ∧ Hid (Below w2.heap.size w2 wr)) (fun _ j _ => (15 - intOf j).toNat)
  case atStart => exact ⟨1, by omega, by omega, rfl, by rw [if_neg (by omega)], Below.refl _ _⟩
  case round =>
    obtain ⟨i, i1, i2, rfl, rfl, hbr⟩ := hrel
    have HB3 := Lib.hid (b_trans HB2.out hbr)
    have HBR := Lib.hid hbr
    clear hbr
    obtain ⟨hc3, hf3⟩ := bcell HB3.out
    by_cases hi : i = 15
    · subst hi
      have He : Hid (holdsB T s k x f t p l b o = true) := Lib.hid (by rw [HH.out T r1 r2]; simp)
      have hlt : T < 15 := by omega
      rw [if_pos hlt]
      go_wp2_with (first
        | (go_at_call 21; refine (holds_any _ _ _ _ _ _ _ _ _ _ _ (by omega) (by omega)).mono ?_; rintro e w4 ⟨rfl, hb4⟩; rw [He.out]; have HB4 := Lib.hid (b_trans HB3.out hb4); clear hb4)
        | (go_at_call 20; refine (lives_any _).mono ?_; rintro e w5 ⟨rfl, hb5⟩; have HB5 := Lib.hid (b_trans HB4.out hb5); clear hb5))
      go_ret
      exact ⟨rfl, b_trans (b_alloc (Below.refl _ _) _) HB5.out⟩
    · by_cases hn : i = T
      · subst hn
        have He : Hid (holdsB i s k x f t p l b o = true) := Lib.hid (by rw [HH.out i i1 r2]; simp)
        rw [if_neg (by omega)]
        go_wp2_with (go_at_call 21; refine (holds_any _ _ _ _ _ _ _ _ _ _ _ (by omega) (by omega)).mono ?_; rintro e w4 ⟨rfl, hb4⟩; rw [He.out]; have HB4 := Lib.hid hb4; clear hb4)
        go_roundw
        case rel => exact ⟨i + 1, by omega, by omega, by go_num, by rw [if_pos (by omega)], b_trans HBR.out HB4.out⟩
        case measure => simp [intOf]; omega
      · have He : Hid (holdsB i s k x f t p l b o = false) := Lib.hid (by rw [HH.out i i1 (by omega)]; simp [hn])
        by_cases hlt : T < i
        all_goals
          first | rw [if_pos hlt] | rw [if_neg hlt]
          go_wp2_with (go_at_call 21; refine (holds_any _ _ _ _ _ _ _ _ _ _ _ (by omega) (by omega)).mono ?_; rintro e w4 ⟨rfl, hb4⟩; rw [He.out]; have HB4 := Lib.hid hb4; clear hb4)
          go_roundw
          case rel => exact ⟨i + 1, by omega, by omega, by go_num, by first | rw [if_pos (by omega)] | rw [if_neg (by omega)], b_trans HBR.out HB4.out⟩
          case measure => simp [intOf]; omega

set_option maxRecDepth 100000 in
set_option maxHeartbeats 4000000 in
theorem treatOne_not (s : Bool) (k : Int) (x : Bool) (f t p l : Int) (b o : Bool) (w : World) (hm : mayB k f t p l = false) :
    Calls Try.prog 5 #[.agg #[.bool s, .int .i64 k, .bool x, .int .i64 f, .int .i64 t, .int .i64 p, .int .i64 l, .bool b, .bool o]] w fun e w' => e = .returned (.bool true) ∧ Below w.heap.size w w' := by
  have h0 := fun wx => of_any s k x f t p l b o wx
  have h1 : ofS s k x f t p l b o = 0 := by simp [ofS, hm]
  have h2 : ofE k f t p l = 2 := by simp [ofE, hm]
  rw [h1, h2] at h0
  have Hm := Lib.hid hm
  have H0 := Lib.hid h0
  clear hm h0 h1 h2
  go_enter Try.func5, Try.ntmps5
  go_wp2_with (first
    | (go_at_call 16; refine (H0.out _).mono ?_; rintro e w1 ⟨rfl, hb1⟩; obtain ⟨hc1, hf1⟩ := bcell hb1; have HB1 := Lib.hid hb1; clear hb1)
    | (go_at_call 19; refine (rmay_any _ _ _ _ _ _ _ _ _ _).mono ?_; rintro e w2 ⟨rfl, hb2⟩; rw [Hm.out]; have HB2 := Lib.hid (b_trans HB1.out hb2); clear hb2)
    | (go_at_call 20; refine (lives_any _).mono ?_; rintro e w5 ⟨rfl, hb5⟩; have HB5 := Lib.hid (b_trans HB2.out hb5); clear hb5))
  go_ret
  exact ⟨rfl, b_trans (b_alloc (Below.refl _ _) _) HB5.out⟩

theorem treatOne_any (s : Bool) (k : Int) (x : Bool) (f t p l : Int) (b o : Bool) (w : World) :
    Calls Try.prog 5 #[.agg #[.bool s, .int .i64 k, .bool x, .int .i64 f, .int .i64 t, .int .i64 p, .int .i64 l, .bool b, .bool o]] w fun e w' => e = .returned (.bool true) ∧ Below w.heap.size w w' := by
  cases hm : mayB k f t p l
  · exact treatOne_not s k x f t p l b o w hm
  · exact treatOne_may s k x f t p l b o w hm

set_option maxRecDepth 100000 in
set_option maxHeartbeats 4000000 in
theorem treatTells_any (n : Int) (s : Bool) (k : Int) (x : Bool) (f t p l : Int) (b o : Bool) (w : World) :
    Calls Try.prog 7 #[.int .i64 n, .agg #[.bool s, .int .i64 k, .bool x, .int .i64 f, .int .i64 t, .int .i64 p, .int .i64 l, .bool b, .bool o]] w fun e w' => e = .returned (.bool true) ∧ Below w.heap.size w w' := by
  have h0 := fun wx => rof_any s k x f t p l b o wx
  have h1 := fun wx => cou_any s k x f t p l b o wx
  have hc : couB (ofS s k x f t p l b o) (ofE k f t p l) = (ofS s k x f t p l b o == 8 || ofS s k x f t p l b o == 9) := by
    cases hm : mayB k f t p l
    · simp [couB, ofS, ofE, hm]
    · simp [couB, ofE, hm]
      rfl
  rw [hc] at h1
  clear hc
  generalize ofS s k x f t p l b o = T at *
  generalize ofE k f t p l = E at *
  have hl : lisB n = (n == 4 || n == 6) := by simp [lisB]; rfl
  have Hl := Lib.hid hl
  have H0 := Lib.hid h0
  have H1 := Lib.hid h1
  clear hl h0 h1
  go_enter Try.func7, Try.ntmps7
  go_wp2_with (first
    | (go_at_call 17; refine (H0.out _).mono ?_; rintro e w1 ⟨rfl, hb1⟩; obtain ⟨hc1, hf1⟩ := bcell hb1; have HB1 := Lib.hid hb1; clear hb1)
    | (go_at_call 22; refine (name_any _ _).mono ?_; rintro e w2 ⟨rfl, hb2⟩; have HB2 := Lib.hid (b_trans HB1.out hb2); clear hb2; obtain ⟨hc2, hf2⟩ := bcell HB2.out)
    | (go_at_call 23; refine (rname_any _ _).mono ?_; rintro e w3 ⟨rfl, rfl⟩)
    | (go_at_call 24; refine (out_any _ _).mono ?_; rintro e w3 ⟨rfl, rfl⟩)
    | (go_at_call 25; refine (rout_any _ _).mono ?_; rintro e w3 ⟨rfl, rfl⟩)
    | (go_at_call 26; refine (ded_any _ _).mono ?_; rintro e w3 ⟨rfl, rfl⟩)
    | (go_at_call 27; refine (rded_any _ _).mono ?_; rintro e w3 ⟨rfl, rfl⟩)
    | (go_at_call 28; refine (H1.out _).mono ?_; rintro e w4 ⟨rfl, hb4⟩; have HB4 := Lib.hid (b_trans HB2.out hb4); clear hb4; obtain ⟨hc4, hf4⟩ := bcell HB4.out)
    | (go_at_call 29; refine (lis_any _ _).mono ?_; rintro e w3 ⟨rfl, rfl⟩; rw [Hl.out])
    | (go_at_call 20; refine (lives_any _).mono ?_; rintro e w5 ⟨rfl, hb5⟩; have HB5 := Lib.hid (b_trans HB4.out hb5); clear hb5))
  all_goals
    go_ret
    exact ⟨rfl, b_trans (b_alloc (Below.refl _ _) _) HB5.out⟩

end Go.Proofs.Ytejmbnahdkgpmaa
