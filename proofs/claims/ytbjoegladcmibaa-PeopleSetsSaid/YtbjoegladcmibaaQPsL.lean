/-
  PeopleSets: the walk of the law.
-/
import Derived.Test.YtbjoegladcmibaaQPsM
import Derived.Test.YtbjoegladcmibaaQPe7
import Derived.Test.YtbjoegladcmibaaQZPeopleSetsx1
import Derived.Test.YtbjoegladcmibaaQZPeopleSetsx11
import Derived.Deep.DeepCutAuto
import Derived.Deep.RegionHeld3
namespace Go.Proofs.Ytbjoegladcmibaa.Pe
set_option linter.unusedVariables false
set_option linter.unusedSimpArgs false
set_option linter.unnecessarySimpa false
open Go.RowKit Go.Maps Go.Proofs.YtbjoegladcmibaaK Go.Proofs.Ytbjoegladcmibaa.ZPeopleSets Go.Proofs.YtbjoegladcmibaaW.PrintWords Go.Proofs.YtbjoegladcmibaaW.PrintLast Go.Proofs.Ytbjoegladcmibaa.Vi Go.Proofs.Ytbjoegladcmibaa.Ln Go.Proofs.Ytbjoegladcmibaa.LnB Go.Proofs.Ytbjoegladcmibaa.Pl Go.Proofs.Ytbjoegladcmibaa.SpB

set_option maxRecDepth 100000 in
set_option maxHeartbeats 16000000 in
theorem sets_any (w : World) (home : ByteArray) (A0 : Option Addr) (c0 : Nat) (l0 : List S42) (xk : Int) (xc xn : ByteArray) (xf xu xx : Int) (hr0 : Kd.C k42 w A0 l0.length l0) (hc0 : l0.length ≤ c0) (hl : (l0.length + 1) * 64 ≤ 140737488355328) :
    Calls Try.prog 9 #[.string home, .slice A0 l0.length c0, .agg #[.int .i64 xk, .string xc, .string xn, .int .i64 xf, .int .i64 xu, .int .i64 xx]] w fun e w' => e = .returned (.bool true) ∧ Below w.heap.size w w' := by
  have HR0 := Lib.hid hr0
  have hli := fun wx (hx : Kd.C k42 wx A0 l0.length l0) => light_any wx A0 c0 l0 xk xc xn xf xu xx hx hc0 hl
  have hmh := fun wx => octroiref07_Member.calls 500 home (memB home) wx (member_r home 500 rfl)
  have hsz := @light_sizes l0 ⟨xk, xc, xn, ⟨xf, xu, xx⟩⟩
  have hB0 : Below w.heap.size w (w.alloc (.cells #[.int .i64 xk, .string xc, .string xn, .int .i64 xf, .int .i64 xu, .int .i64 xx] 42)) := s_alloc (Below.refl _ _) _
  have hX0 : (w.alloc (.cells #[.int .i64 xk, .string xc, .string xn, .int .i64 xf, .int .i64 xu, .int .i64 xx] 42)).heap[w.heap.size]? = some (.cells #[.int .i64 xk, .string xc, .string xn, .int .i64 xf, .int .i64 xu, .int .i64 xx] 42 (0, 0)) := Array.getElem?_push_size
  have HB0 := Lib.hid hB0
  have HX0 := Lib.hid hX0
  clear hr0 hB0 hX0
  generalize lightB l0 ⟨xk, xc, xn, ⟨xf, xu, xx⟩⟩ = LB at *
  have HLI := Lib.hid hli
  have HMH := Lib.hid hmh
  have HSZ := Lib.hid hsz
  clear hli hmh hsz
  have hcase : LB = false ∨ (LB = true ∧ 100 < home.size) ∨ (LB = true ∧ home.size ≤ 100 ∧ memB home = false) ∨ (LB = true ∧ home.size ≤ 100 ∧ memB home = true) := by
    cases LB
    · exact Or.inl rfl
    · by_cases h1 : 100 < home.size
      · exact Or.inr (Or.inl ⟨rfl, h1⟩)
      · cases memB home
        · exact Or.inr (Or.inr (Or.inl ⟨rfl, by omega, rfl⟩))
        · exact Or.inr (Or.inr (Or.inr ⟨rfl, by omega, rfl⟩))
  rcases hcase with rfl | ⟨rfl, h100⟩ | ⟨rfl, h100, hm⟩ | ⟨rfl, h100, hm⟩
  · clear HSZ HMH
    go_enter Try.func9, Try.ntmps9
    go_wp2_with (first
      | (go_at_call 16; refine (HLI.out _ (Kd.C_below HR0.out HB0.out)).mono ?_; rintro e w1 ⟨rfl, hb⟩; have HB1 := Lib.hid (s_trans HB0.out hb); clear hb)
      | (go_at_call 18; refine (lives_any _).mono ?_; rintro e w7 ⟨rfl, hb⟩; have HB7 := Lib.hid (s_trans HB1.out hb); clear hb))
    go_ret
    exact ⟨rfl, HB7.out⟩
  · have d100 : decide ((100 : Int) < (home.size : Int)) = true := decide_eq_true (by omega)
    clear HSZ HMH
    go_enter Try.func9, Try.ntmps9
    go_wp2_with (first
      | (go_at_call 16; refine (HLI.out _ (Kd.C_below HR0.out HB0.out)).mono ?_; rintro e w1 ⟨rfl, hb⟩; have HB1 := Lib.hid (s_trans HB0.out hb); clear hb)
      | (go_at_call 18; refine (lives_any _).mono ?_; rintro e w7 ⟨rfl, hb⟩; have HB7 := Lib.hid (s_trans HB1.out hb); clear hb))
    all_goals
      go_ret
      exact ⟨rfl, HB7.out⟩
  · have d100 : decide ((100 : Int) < (home.size : Int)) = false := decide_eq_false (by omega)
    rw [hm] at HMH
    have hnew := fun wx => new_no wx home hm
    have HNEW := Lib.hid hnew
    clear HSZ hnew hm
    go_enter Try.func9, Try.ntmps9
    go_wp2_with (first
      | (go_at_call 16; refine (HLI.out _ (Kd.C_below HR0.out HB0.out)).mono ?_; rintro e w1 ⟨rfl, hb⟩; have HB1 := Lib.hid (s_trans HB0.out hb); clear hb)
      | (go_at_call 19; refine (HNEW.out _).mono ?_; rintro e w2 ⟨rfl, hb⟩; have HB2 := Lib.hid (s_trans HB1.out hb); clear hb)
      | (go_at_call 17; refine (HMH.out _).mono ?_; rintro e w3 ⟨rfl, hb⟩; have HB3 := Lib.hid (s_trans HB2.out hb); clear hb)
      | (go_at_call 18; refine (lives_any _).mono ?_; rintro e w7 ⟨rfl, hb⟩; have HB7 := Lib.hid (s_trans HB3.out hb); clear hb))
    go_ret
    exact ⟨rfl, HB7.out⟩
  · have d100 : decide ((100 : Int) < (home.size : Int)) = false := decide_eq_false (by omega)
    rw [hm] at HMH
    have hms := mem_size hm
    have HH0 := Lib.hid (by omega : home.size ≠ 0)
    obtain ⟨hs1, ⟨hs2, hs3⟩, hs4⟩ := HSZ.out rfl
    dsimp only at hs2 hs3
    have hnew := fun wx => new_any wx home hm
    have HNEW := Lib.hid hnew
    have HS1 := Lib.hid hs1
    have HS2 := Lib.hid hs2
    have HS3 := Lib.hid hs3
    have HS4 := Lib.hid hs4
    clear hnew hm hs1 hs2 hs3 hs4 hms HSZ h100
    go_enter Try.func9, Try.ntmps9
    go_wp2_with (first
      | (go_at_call 16; refine (HLI.out _ (Kd.C_below HR0.out HB0.out)).mono ?_; rintro e w1 ⟨rfl, hb⟩; have HB1 := Lib.hid (s_trans HB0.out hb); have HX1 := Lib.hid (block_on hb HX0.out); clear hb)
      | (go_at_call 19; refine (HNEW.out _).mono ?_; rintro e w2 ⟨p0, m0, g0, rfl, hp, hb⟩; have HP2 := Lib.hid hp; have HB2 := Lib.hid (s_trans HB1.out hb); have HX2 := Lib.hid (block_on hb HX1.out); have HS2' := Lib.hid hb.size; clear hp hb)
      | (go_at_call 17; refine (HMH.out _).mono ?_; rintro e w3 ⟨rfl, hb⟩; have HB3 := Lib.hid (s_trans HB2.out hb); have HX3 := Lib.hid (block_on hb HX2.out); have HP3 := Lib.hid (HP2.out.below hb); have HS3' := Lib.hid (Nat.le_trans HS2'.out hb.size); clear hb))
    obtain ⟨w4, hw4⟩ : ∃ W : World, W = w3.alloc (.cells #[.string home, .slice none 0 0, .slice none 0 0] 92) := ⟨_, rfl⟩
    have hbx4 : w4.heap[w3.heap.size]? = some (.cells #[.string home, .slice none 0 0, .slice none 0 0] 92 (0, 0)) := by rw [hw4]; exact Array.getElem?_push_size
    have hb34 : Below w3.heap.size w3 w4 := by rw [hw4]; exact s_alloc (Below.refl _ _) _
    have hge1 : w.heap.size + 1 ≤ w1.heap.size := block_lt HX1.out
    have hat4 : At w w4 w3.heap.size 0 ⟨xk, xc, xn, ⟨xf, xu, xx⟩⟩ home p0 m0 0 w1.heap.size (M0 g0) [] [] none 0 none 0 :=
      ⟨HP3.out.below hb34, RelP.start g0, ⟨hge1, Nat.le_trans HS3'.out hb34.size⟩, ⟨Nat.le_refl _, Nat.le_refl _, Nat.le_refl _⟩, Kd.R_nil _ _ _ _ _, Kd.R_nil _ _ _ _ _, hbx4, block_on hb34 HX3.out, s_trans HB3.out hb34⟩
    have HAT4 := Lib.hid hat4
    try rw [← hw4]
    clear hw4 hbx4 hb34 hge1 hat4
    go_loopw [7, 44] (fun vp vi wr => ∃ (k p m n base : Nat) (M : PM) (O : List S24) (L : List S139) (A1 : Option Addr) (c1 : Nat) (A2 : Option Addr) (c2 : Nat), k ≤ l0.length ∧ vi = .int .i64 k ∧ vp = .pointer (some ⟨p, 0, none⟩) ∧ Hid (At w wr w3.heap.size k ⟨xk, xc, xn, ⟨xf, xu, xx⟩⟩ home p m n base M O L A1 c1 A2 c2)) (fun _ i _ => l0.length - (intOf i).toNat)
    case atStart => exact ⟨0, p0, m0, 0, _, _, _, _, _, _, _, _, Nat.zero_le _, rfl, rfl, HAT4⟩
    case round =>
      obtain ⟨k, p, m, n, base, M, O, L, A1, c1, A2, c2, hk, rfl, rfl, HAT⟩ := hrel
      by_cases hkn : k = l0.length
      · subst hkn
        go_upto_region 35 with fail
        have HBo0 := Lib.hid (HAT.out.both (by have := HS4.out; omega))
        have HQ0 := Lib.hid HAT.out.ask
        have hz0 := held7 HQ0.out HBo0.out.box
        have hq2 : (bizB home M xc xn xf == bizB home M xc xn xf) = true := by simp
        refine start_ (n := 23) (S := fun w' => w'.cell? ⟨w.heap.size, 1, none⟩ = some (.string xc) ∧ w'.cell? ⟨w.heap.size, 2, none⟩ = some (.string xn) ∧ w'.cell? ⟨w.heap.size, 3, none⟩ = some (.int .i64 xf) ∧ w'.cell? ⟨w.heap.size, 4, none⟩ = some (.int .i64 xu) ∧ w'.cell? ⟨w3.heap.size, 0, none⟩ = some (.string home) ∧ w'.cell? ⟨w3.heap.size, 1, none⟩ = some (.slice A1 O.length c1) ∧ w'.cell? ⟨w3.heap.size, 2, none⟩ = some (.slice A2 L.length c2)) (ds := []) #[false, false, false, false, false, false, false, false, false, false, false, false, false, false, false, false, false, false, false, false, false, false, false] (by kernel_rfl) rfl rfl ⟨hz0.1, hz0.2.1, hz0.2.2.1, hz0.2.2.2.1, hz0.2.2.2.2.1, hz0.2.2.2.2.2.1, hz0.2.2.2.2.2.2⟩ (fun hHeld => ?_)
        obtain ⟨wd, hwd⟩ : ∃ W, W = wr.drew := ⟨_, rfl⟩
        rw [← hwd] at hHeld
        rw [← hwd]
        have hdr : Below wr.heap.size wr wd := by rw [hwd]; exact s_drew (Below.refl _ _)
        have HZd := Lib.hid hdr
        have HBod := Lib.hid (HBo0.out.below hdr)
        have HQd := Lib.hid (block_on hdr HQ0.out)
        clear hwd hdr
        refine pure_ (i := 0) (N := some 157) (v := ?_) (a' := ?_) #[true, false, false, false, false, false, false, false, false, false, false, false, false, false, false, false, false, false, false, false, false, false, false] rfl rfl (by kernel_rfl) (fun _ _ _ h => h) (Or.inl ⟨by rfl, ?_⟩) ?_ ?_
        rotate_left
        · intro w'
          go_simp
          with_reducible rfl
        rotate_left
        · simp only [Act.put, List.setIfInBounds_toArray, List.set_cons_zero, List.set_cons_succ, i64_w, i32_w]
          rfl
        refine pure_ (i := 1) (N := some 158) (v := ?_) (a' := ?_) #[true, true, false, false, false, false, false, false, false, false, false, false, false, false, false, false, false, false, false, false, false, false, false] rfl rfl (by kernel_rfl) (fun _ _ _ h => h) (Or.inl ⟨by rfl, ?_⟩) ?_ ?_
        rotate_left
        · intro w'
          go_simp
          with_reducible rfl
        rotate_left
        · simp only [Act.put, List.setIfInBounds_toArray, List.set_cons_zero, List.set_cons_succ, i64_w, i32_w]
          rfl
        refine pure_ (i := 3) (N := some 160) (v := ?_) (a' := ?_) #[true, true, false, true, false, false, false, false, false, false, false, false, false, false, false, false, false, false, false, false, false, false, false] rfl rfl (by kernel_rfl) (fun _ _ _ h => h) (Or.inl ⟨by rfl, ?_⟩) ?_ ?_
        rotate_left
        · intro w'
          go_simp
          with_reducible rfl
        rotate_left
        · simp only [Act.put, List.setIfInBounds_toArray, List.set_cons_zero, List.set_cons_succ, i64_w, i32_w]
          rfl
        refine pure_ (i := 5) (N := some 162) (v := ?_) (a' := ?_) #[true, true, false, true, false, true, false, false, false, false, false, false, false, false, false, false, false, false, false, false, false, false, false] rfl rfl (by kernel_rfl) (fun _ _ _ h => h) (Or.inl ⟨by rfl, ?_⟩) ?_ ?_
        rotate_left
        · intro w'
          go_simp
          with_reducible rfl
        rotate_left
        · simp only [Act.put, List.setIfInBounds_toArray, List.set_cons_zero, List.set_cons_succ, i64_w, i32_w]
          rfl
        refine pure_ (i := 6) (N := some 163) (v := ?_) (a' := ?_) #[true, true, false, true, false, true, true, false, false, false, false, false, false, false, false, false, false, false, false, false, false, false, false] rfl rfl (by kernel_rfl) (fun _ _ _ h => h) (Or.inl ⟨by rfl, ?_⟩) ?_ ?_
        rotate_left
        · intro w'
          go_simp
          with_reducible rfl
        rotate_left
        · simp only [Act.put, List.setIfInBounds_toArray, List.set_cons_zero, List.set_cons_succ, i64_w, i32_w]
          rfl
        refine pure_ (i := 10) (N := some 167) (v := ?_) (a' := ?_) #[true, true, false, true, false, true, true, false, false, false, true, false, false, false, false, false, false, false, false, false, false, false, false] rfl rfl (by kernel_rfl) (fun _ _ _ h => h) (Or.inl ⟨by rfl, ?_⟩) ?_ ?_
        rotate_left
        · intro w'
          go_simp
          with_reducible rfl
        rotate_left
        · simp only [Act.put, List.setIfInBounds_toArray, List.set_cons_zero, List.set_cons_succ, i64_w, i32_w]
          rfl
        refine pure_ (i := 12) (N := some 169) (v := ?_) (a' := ?_) #[true, true, false, true, false, true, true, false, false, false, true, false, true, false, false, false, false, false, false, false, false, false, false] rfl rfl (by kernel_rfl) (fun _ _ _ h => h) (Or.inl ⟨by rfl, ?_⟩) ?_ ?_
        rotate_left
        · intro w'
          go_simp
          with_reducible rfl
        rotate_left
        · simp only [Act.put, List.setIfInBounds_toArray, List.set_cons_zero, List.set_cons_succ, i64_w, i32_w]
          rfl
        refine pure_ (i := 14) (N := some 171) (v := ?_) (a' := ?_) #[true, true, false, true, false, true, true, false, false, false, true, false, true, false, true, false, false, false, false, false, false, false, false] rfl rfl (by kernel_rfl) (fun _ _ _ h => h) (Or.inl ⟨by rfl, ?_⟩) ?_ ?_
        rotate_left
        · intro w'
          go_simp
          with_reducible rfl
        rotate_left
        · simp only [Act.put, List.setIfInBounds_toArray, List.set_cons_zero, List.set_cons_succ, i64_w, i32_w]
          rfl
        refine pure_ (i := 15) (N := some 172) (v := ?_) (a' := ?_) #[true, true, false, true, false, true, true, false, false, false, true, false, true, false, true, true, false, false, false, false, false, false, false] rfl rfl (by kernel_rfl) (fun _ _ _ h => h) (Or.inl ⟨by rfl, ?_⟩) ?_ ?_
        rotate_left
        · intro w'
          go_simp
          with_reducible rfl
        rotate_left
        · simp only [Act.put, List.setIfInBounds_toArray, List.set_cons_zero, List.set_cons_succ, i64_w, i32_w]
          rfl
        refine take_ (i := 2) (N := some 159) (v := ?_) (a' := ?_) #[true, true, true, true, false, true, true, false, false, false, true, false, true, false, true, true, false, false, false, false, false, false, false] rfl rfl (by kernel_rfl) (fun _ _ _ h => h) (Or.inl ⟨by rfl, ?_⟩) hHeld ?_ ?_
        rotate_left
        · rintro w' ⟨s0, s1, s2, s3, s4, s5, s6⟩
          go_simp
          with_reducible rfl
        rotate_left
        · simp only [Act.put, List.setIfInBounds_toArray, List.set_cons_zero, List.set_cons_succ, i64_w, i32_w]
          rfl
        refine take_ (i := 4) (N := some 161) (v := ?_) (a' := ?_) #[true, true, true, true, true, true, true, false, false, false, true, false, true, false, true, true, false, false, false, false, false, false, false] rfl rfl (by kernel_rfl) (fun _ _ _ h => h) (Or.inl ⟨by rfl, ?_⟩) hHeld ?_ ?_
        rotate_left
        · rintro w' ⟨s0, s1, s2, s3, s4, s5, s6⟩
          go_simp
          with_reducible rfl
        rotate_left
        · simp only [Act.put, List.setIfInBounds_toArray, List.set_cons_zero, List.set_cons_succ, i64_w, i32_w]
          rfl
        refine take_ (i := 7) (N := some 164) (v := ?_) (a' := ?_) #[true, true, true, true, true, true, true, true, false, false, true, false, true, false, true, true, false, false, false, false, false, false, false] rfl rfl (by kernel_rfl) (fun _ _ _ h => h) (Or.inl ⟨by rfl, ?_⟩) hHeld ?_ ?_
        rotate_left
        · rintro w' ⟨s0, s1, s2, s3, s4, s5, s6⟩
          go_simp
          with_reducible rfl
        rotate_left
        · simp only [Act.put, List.setIfInBounds_toArray, List.set_cons_zero, List.set_cons_succ, i64_w, i32_w]
          rfl
        refine take_ (i := 9) (N := some 166) (v := ?_) (a' := ?_) #[true, true, true, true, true, true, true, true, false, true, true, false, true, false, true, true, false, false, false, false, false, false, false] rfl rfl (by kernel_rfl) (fun _ _ _ h => h) (Or.inl ⟨by rfl, ?_⟩) hHeld ?_ ?_
        rotate_left
        · rintro w' ⟨s0, s1, s2, s3, s4, s5, s6⟩
          go_simp
          with_reducible rfl
        rotate_left
        · simp only [Act.put, List.setIfInBounds_toArray, List.set_cons_zero, List.set_cons_succ, i64_w, i32_w]
          rfl
        refine take_ (i := 11) (N := some 168) (v := ?_) (a' := ?_) #[true, true, true, true, true, true, true, true, false, true, true, true, true, false, true, true, false, false, false, false, false, false, false] rfl rfl (by kernel_rfl) (fun _ _ _ h => h) (Or.inl ⟨by rfl, ?_⟩) hHeld ?_ ?_
        rotate_left
        · rintro w' ⟨s0, s1, s2, s3, s4, s5, s6⟩
          go_simp
          with_reducible rfl
        rotate_left
        · simp only [Act.put, List.setIfInBounds_toArray, List.set_cons_zero, List.set_cons_succ, i64_w, i32_w]
          rfl
        refine take_ (i := 13) (N := some 170) (v := ?_) (a' := ?_) #[true, true, true, true, true, true, true, true, false, true, true, true, true, true, true, true, false, false, false, false, false, false, false] rfl rfl (by kernel_rfl) (fun _ _ _ h => h) (Or.inl ⟨by rfl, ?_⟩) hHeld ?_ ?_
        rotate_left
        · rintro w' ⟨s0, s1, s2, s3, s4, s5, s6⟩
          go_simp
          with_reducible rfl
        rotate_left
        · simp only [Act.put, List.setIfInBounds_toArray, List.set_cons_zero, List.set_cons_succ, i64_w, i32_w]
          rfl
        refine take_ (i := 16) (N := some 173) (v := ?_) (a' := ?_) #[true, true, true, true, true, true, true, true, false, true, true, true, true, true, true, true, true, false, false, false, false, false, false] rfl rfl (by kernel_rfl) (fun _ _ _ h => h) (Or.inl ⟨by rfl, ?_⟩) hHeld ?_ ?_
        rotate_left
        · rintro w' ⟨s0, s1, s2, s3, s4, s5, s6⟩
          go_simp
          with_reducible rfl
        rotate_left
        · simp only [Act.put, List.setIfInBounds_toArray, List.set_cons_zero, List.set_cons_succ, i64_w, i32_w]
          rfl
        refine one_ (i := 8) (N := some 165) #[true, true, true, true, true, true, true, true, true, true, true, true, true, true, true, true, true, false, false, false, false, false, false] rfl rfl (by kernel_rfl) (by decide) (fun K hK => ?_)
        refine goes_ Try.func21 (by kernel_rfl) rfl #[.pointer (some ⟨p, 0, none⟩), .string xc, .string xn, .int .i64 xf] (by rfl) rfl rfl (by simp only [List.map_toArray, List.map_cons, List.map_nil]; rfl) ?_
        with_reducible refine (HBod.out.biz HH0.out xc xn (⟨HS2.out, HS3.out⟩ : xc.size ≤ 100 ∧ xn.size ≤ 100) xf).mono ?_
        rintro e w12 ⟨rfl, hb2⟩
        refine ⟨_, rfl, ?_⟩
        have HBo2 := Lib.hid (HBod.out.below hb2)
        have HQ2 := Lib.hid (block_on hb2 HQd.out)
        have HZ2 := Lib.hid (s_trans HZd.out hb2)
        have hz2 := held7 HQ2.out HBo2.out.box
        clear hb2
        refine hK.out _ _ ⟨hz2.1, hz2.2.1, hz2.2.2.1, hz2.2.2.2.1, hz2.2.2.2.2.1, hz2.2.2.2.2.2.1, hz2.2.2.2.2.2.2⟩ (fun hHeld => ?_)
        clear hK K
        refine norm_ (a' := ?_) ?_ ?_
        rotate_left
        · show Act.put _ (some 165) _ = _
          simp only [Act.put, List.setIfInBounds_toArray, List.set_cons_zero, List.set_cons_succ, i64_w, i32_w]
          rfl
        refine one_ (i := 17) (N := some 174) #[true, true, true, true, true, true, true, true, true, true, true, true, true, true, true, true, true, true, false, false, false, false, false] rfl rfl (by kernel_rfl) (by decide) (fun K hK => ?_)
        refine goes_ Try.func49 (by kernel_rfl) rfl #[.agg #[.string home, .slice A1 O.length c1, .slice A2 L.length c2], .string xc, .string xn, .int .i64 xf] (by rfl) rfl rfl (by simp only [List.map_toArray, List.map_cons, List.map_nil]; rfl) ?_
        with_reducible refine (HBo2.out.dbiz xc xn (⟨HS2.out, HS3.out⟩ : xc.size ≤ 100 ∧ xn.size ≤ 100) xf).mono ?_
        rintro e w13 ⟨rfl, hb3⟩
        refine ⟨_, rfl, ?_⟩
        have HBo3 := Lib.hid (HBo2.out.below hb3)
        have HQ3 := Lib.hid (block_on hb3 HQ2.out)
        have HZ3 := Lib.hid (s_trans HZ2.out hb3)
        have hz3 := held7 HQ3.out HBo3.out.box
        clear hb3
        refine hK.out _ _ ⟨hz3.1, hz3.2.1, hz3.2.2.1, hz3.2.2.2.1, hz3.2.2.2.2.1, hz3.2.2.2.2.2.1, hz3.2.2.2.2.2.2⟩ (fun hHeld => ?_)
        clear hK K
        refine norm_ (a' := ?_) ?_ ?_
        rotate_left
        · show Act.put _ (some 174) _ = _
          simp only [Act.put, List.setIfInBounds_toArray, List.set_cons_zero, List.set_cons_succ, i64_w, i32_w]
          rfl
        refine pure_ (i := 18) (N := some 175) (v := ?_) (a' := ?_) #[true, true, true, true, true, true, true, true, true, true, true, true, true, true, true, true, true, true, true, false, false, false, false] rfl rfl (by kernel_rfl) (fun _ _ _ h => h) (Or.inl ⟨by rfl, ?_⟩) ?_ ?_
        rotate_left
        · intro w'
          go_simp
          with_reducible rfl
        rotate_left
        · simp only [Act.put, List.setIfInBounds_toArray, List.set_cons_zero, List.set_cons_succ, i64_w, i32_w]
          rfl
        refine pure_ (i := 19) (N := some 176) (v := ?_) (a' := ?_) #[true, true, true, true, true, true, true, true, true, true, true, true, true, true, true, true, true, true, true, true, false, false, false] rfl rfl (by kernel_rfl) (fun _ _ _ h => h) (Or.inl ⟨by rfl, ?_⟩) ?_ ?_
        rotate_left
        · intro w'
          go_simp
          with_reducible rfl
        rotate_left
        · simp only [Act.put, List.setIfInBounds_toArray, List.set_cons_zero, List.set_cons_succ, i64_w, i32_w]
          rfl
        refine one_ (i := 20) (N := some 177) #[true, true, true, true, true, true, true, true, true, true, true, true, true, true, true, true, true, true, true, true, true, false, false] rfl rfl (by kernel_rfl) (by decide) (fun K hK => ?_)
        refine goes_ Try.func18 (by kernel_rfl) rfl #[] (by rfl) rfl rfl (by simp only [List.map_toArray, List.map_cons, List.map_nil]) ?_
        with_reducible refine (lives_any _).mono ?_
        rintro e w14 ⟨rfl, hb4⟩
        refine ⟨_, rfl, ?_⟩
        have HBo4 := Lib.hid (HBo3.out.below hb4)
        have HQ4 := Lib.hid (block_on hb4 HQ3.out)
        have HZ4 := Lib.hid (s_trans HZ3.out hb4)
        have hz4 := held7 HQ4.out HBo4.out.box
        clear hb4
        refine hK.out _ _ ⟨hz4.1, hz4.2.1, hz4.2.2.1, hz4.2.2.2.1, hz4.2.2.2.2.1, hz4.2.2.2.2.2.1, hz4.2.2.2.2.2.2⟩ (fun hHeld => ?_)
        clear hK K
        refine norm_ (a' := ?_) ?_ ?_
        rotate_left
        · show Act.put _ (some 177) _ = _
          simp only [Act.put, List.setIfInBounds_toArray, List.set_cons_zero, List.set_cons_succ, i64_w, i32_w]
          rfl
        refine pure_ (i := 21) (N := some 178) (v := ?_) (a' := ?_) #[true, true, true, true, true, true, true, true, true, true, true, true, true, true, true, true, true, true, true, true, true, true, false] rfl rfl (by kernel_rfl) (fun _ _ _ h => h) (Or.inl ⟨by rfl, ?_⟩) ?_ ?_
        rotate_left
        · intro w'
          go_simp
          with_reducible rfl
        rotate_left
        · simp only [Act.put, List.setIfInBounds_toArray, List.set_cons_zero, List.set_cons_succ, i64_w, i32_w]
          rfl
        refine pure_ (i := 22) (N := some 6) (v := ?_) (a' := ?_) #[true, true, true, true, true, true, true, true, true, true, true, true, true, true, true, true, true, true, true, true, true, true, true] rfl rfl (by kernel_rfl) (fun _ _ _ h => h) (Or.inl ⟨by rfl, ?_⟩) ?_ ?_
        rotate_left
        · intro w'
          go_simp
          with_reducible rfl
        rotate_left
        · simp only [Act.put, List.setIfInBounds_toArray, List.set_cons_zero, List.set_cons_succ, i64_w, i32_w]
          rfl
        refine done_ (by kernel_rfl) ?_
        clear hq2
        go_wp2
        go_ret
        exact ⟨rfl, s_trans HAT.out.low HZ4.out⟩
      · have hlt : k < l0.length := by omega
        obtain ⟨ad0, e0, q0, q1, q2, q3, q4, q5⟩ := at_T42 (Kd.C_below HR0.out HAT.out.low) (k : Int) (by omega) (by omega)
        have hy : rd_T42 l0 (k : Int) = l0[k] := by unfold rd_T42; rw [Int.toNat_natCast, List.getD_eq_getElem?_getD, List.getElem?_eq_getElem hlt]; rfl
        obtain ⟨hy1, hy2⟩ := HS1.out l0[k] (List.getElem_mem hlt)
        rw [hy] at q0 q1 q2 q3 q4 q5
        rw [Int.toNat_natCast] at q0 q1 q2 q3 q4 q5
        cases e0
        generalize l0[k] = y at *
        clear hy
        have hbk := HS4.out
        have hnk := HAT.out.few.1
        obtain ⟨wa, hwa⟩ : ∃ W : World, W = wr.alloc (.cells (c42 y) 42) := ⟨_, rfl⟩
        have hza : wa.heap.size = wr.heap.size + 1 := by rw [hwa]; simp
        have hba : Below wr.heap.size wr wa := by rw [hwa]; exact s_alloc (Below.refl _ _) _
        have hya : wa.heap[wr.heap.size]? = some (.cells (c42 y) 42 (0, 0)) := by rw [hwa]; exact Array.getElem?_push_size
        have hcl := clone_any wa base p m n home HH0.out M (HAT.out.pp.below hba) (by unfold maxLen; omega)
        have HZA := Lib.hid hza
        have HBA := Lib.hid hba
        have HYA := Lib.hid hya
        have HCL := Lib.hid hcl
        have HY1 := Lib.hid hy1
        have HY2 := Lib.hid hy2
        clear hza hba hya hcl hy1 hy2
        go_upto_region 12 with fail
        try rw [← hwa]
        clear hwa q0 q1 q2 q3 q4 q5
        go_upto_region 17 with (go_at_call 42; refine HCL.out.mono ?_; rintro e w5 ⟨p2, m2, M2, rfl, hp2, hsm, hb⟩; have HP5 := Lib.hid hp2; have HSM := Lib.hid hsm; have HB5 := Lib.hid hb; have HY5 := Lib.hid (block_on hb HYA.out); obtain ⟨y0, y1, y2, y3, y4, y5⟩ := cells6 HY5.out; clear hp2 hsm hb)
        obtain ⟨wb, hwb⟩ : ∃ W : World, W = w5.alloc (.cells #[.int .i64 y.f3.f0, .int .i64 y.f3.f1] 36) := ⟨_, rfl⟩
        try rw [← hwb]
        have hb5b : Below w5.heap.size w5 wb := by rw [hwb]; exact s_alloc (Below.refl _ _) _
        have hsb : wb.heap[w5.heap.size]? = some (.cells #[.int .i64 y.f3.f0, .int .i64 y.f3.f1] 36 (0, 0)) := by rw [hwb]; exact Array.getElem?_push_size
        have hab : Below wa.heap.size wa wb := s_trans HB5.out hb5b
        have hrb : Below wr.heap.size wr wb := s_trans HBA.out hab
        have hyb := block_on hb5b HY5.out
        have hpo := (HAT.out.pp.below HBA.out).below hab
        have hpn := HP5.out.below hb5b
        have hkn2 := known_any wb base p m n home HH0.out M hpo (by omega)
        have hrel2 := HAT.out.rel.same HSM.out
        have HAB := Lib.hid hab
        have HRB := Lib.hid hrb
        have HYB := Lib.hid hyb
        have HSB := Lib.hid hsb
        have HPO := Lib.hid hpo
        have HPN := Lib.hid hpn
        have HKN := Lib.hid hkn2
        have HREL2 := Lib.hid hrel2
        clear hwb hb5b hsb hab hrb hyb hpo hpn hkn2 hrel2 y0 y1 y2 y3 y4 y5
        go_upto_region 18 with (go_at_call 43; refine HKN.out.mono ?_; rintro e w6 ⟨vk, rs, rfl, hkr, hks, hb⟩; obtain ⟨Ak, ck, rfl, hlek, _⟩ := Kd.R_reads hkr; have HKR := Lib.hid hkr; have HKS := Lib.hid hks; have HB6 := Lib.hid hb; have HY6 := Lib.hid (block_on hb HYB.out); have HS6 := Lib.hid (block_on hb HSB.out); clear hkr hks hb)
        obtain ⟨y0, y1, y2, y3, y4, y5⟩ := cells6 HY6.out
        obtain ⟨s0, s1⟩ := cells2 HS6.out
        have hab6 : Below wa.heap.size wa w6 := s_trans HAB.out HB6.out
        have hpn6 := HPN.out.below HB6.out
        have hbx6 := block_on HRB.out HAT.out.box
        have HAB6 := Lib.hid hab6
        have HPN6 := Lib.hid hpn6
        have HBX6 := Lib.hid (block_on HB6.out hbx6)
        have HRB6 := Lib.hid (s_trans HRB.out HB6.out)
        have hbwl : w3.heap.size < wa.heap.size := by have := block_lt HAT.out.box; have := HZA.out; omega
        have HBWL := Lib.hid hbwl
        have HGEA := Lib.hid (by have := HZA.out; have := HAT.out.low.size; omega : w.heap.size + 1 ≤ wa.heap.size)
        have HBW3 := Lib.hid (HB3.out.size : w.heap.size ≤ w3.heap.size)
        clear hab6 hpn6 hbx6 hbwl
        go_upto_if 63 with fail
        go_cut [12, 13] (fun v12 v13 wc => ∃ (E : Int) (n3 : Nat) (M3 : PM) (O3 : List S24) (L3 : List S139) (A3 : Option Addr) (c3 : Nat) (A4 : Option Addr) (c4 : Nat), v12 = .int .i64 E ∧ v13 = .int .i64 E ∧ Hid (Mid w wr wc w3.heap.size k ⟨xk, xc, xn, ⟨xf, xu, xx⟩⟩ y home p m n base M Ak ck rs p2 m2 n3 wa.heap.size M3 O3 L3 A3 c3 A4 c4))
        case first =>
          by_cases hk0 : y.f0 = 0
          · have hd0 : (y.f0 == 0) = true := by rw [hk0]; rfl
            have hd1 : decide (y.f0 = 0) = true := decide_eq_true hk0
            have hopt := opt_any w6 wa.heap.size p2 m2 n home HH0.out M2 HPN6.out HAB6.out.size y.f3.f0 y.f3.f1
            obtain ⟨fn, fO, fL⟩ := HAT.out.few
            have hch := fun wx h1 h2 h3 => choose_rel HREL2.out (by omega) home A1 c1 A2 c2 y.f3.f0 y.f3.f1 y.f3.f2 w wx h1 h2 h3
            have hrel3 := fun (M3 : PM) h1 h2 => HREL2.out.choose (M' := M3) y.f3.f0 y.f3.f1 y.f3.f2 h1 h2
            have hlen : (if setE (cont M2 none) y.f3.f0 y.f3.f1 = 0 then O ++ [⟨y.f3.f0, y.f3.f1, y.f3.f2⟩] else O).length ≤ k + 1 := by split <;> (try simp) <;> omega
            obtain ⟨O', hO'⟩ : ∃ O', O' = (if setE (cont M2 none) y.f3.f0 y.f3.f1 = 0 then O ++ [⟨y.f3.f0, y.f3.f1, y.f3.f2⟩] else O) := ⟨_, rfl⟩
            rw [← hO'] at hlen
            simp only [← hO'] at hch hrel3
            generalize setE (cont M2 none) y.f3.f0 y.f3.f1 = E at *
            have HOPT := Lib.hid hopt
            have HCH := Lib.hid hch
            have HREL3 := Lib.hid hrel3
            have HLEN := Lib.hid (by omega : n + 1 ≤ k + 1 ∧ O'.length ≤ k + 1 ∧ L.length ≤ k + 1)
            clear hopt hk0 hO' hch hrel3 hlen fn fO fL
            go_upto_region 20 with (go_at_call 44; refine HOPT.out.mono ?_; rintro e w7 ⟨rfl, ⟨M3, hp3, hoth, hcont, hnone, hkeep⟩, hb7⟩; have HP7 := Lib.hid hp3; have HOTH := Lib.hid hoth; have HCONT := Lib.hid hcont; have HKEEP := Lib.hid hkeep; have HB7 := Lib.hid hb7; clear hp3 hoth hcont hnone hkeep hb7)
            have hrb7 : Below wr.heap.size wr w7 := b_trans HRB6.out (b_less HB7.out HBA.out.size)
            have hlow7 := s_trans HAT.out.low hrb7
            have hy7 := base_on HB7.out HY6.out (by have := HZA.out; omega)
            have hbx7 := base_on HB7.out HBX6.out HBWL.out
            have hch7 := HCH.out w7 hlow7 (Kd.R_below HAT.out.opt hrb7) (Kd.R_below HAT.out.lst hrb7)
            have hrel7 := HREL3.out M3 HOTH.out HCONT.out
            have hkr7 := strs_keeps HKR.out HKEEP.out
            have hpo7 := HAT.out.pp.below hrb7
            have HY7 := Lib.hid hy7
            have HBX7 := Lib.hid hbx7
            have HKR7 := Lib.hid hkr7
            have HPO7 := Lib.hid hpo7
            have HREL7 := Lib.hid hrel7
            have HASK7 := Lib.hid (base_on hrb7 HAT.out.ask (block_lt HAT.out.ask))
            have HCH7 := Lib.hid hch7
            obtain ⟨y0, y1, y2, y3, y4, y5⟩ := cells6 hy7
            obtain ⟨x0, x1, x2⟩ := cells3 hbx7
            clear hch7 hrel7 hrb7 hlow7 hy7 hbx7 hkr7 hpo7 HOTH HCONT HREL3 HCH HOPT HKEEP
            go_wp2_with (go_at_call 45; refine HCH7.out.mono ?_; rintro e w8 ⟨A3, c3, A4, c4, rfl, ho8, hl8, hb8, hsd, hbk⟩; have hbx8 := hbk _ _ _ HBX7.out; obtain ⟨x0, x1, x2⟩ := cells3 hbx8; have fx := blockFree hbx8; have HO8 := Lib.hid ho8; have HL8 := Lib.hid hl8; have HB8 := Lib.hid hb8; have HSD := Lib.hid hsd; have HBX8 := Lib.hid hbx8; clear ho8 hl8 hb8 hsd hbk hbx8)
            go_meet
            case rel => exact ⟨E, n + 1, M3, O', L, A3, c3, A4, c4, rfl, rfl, Lib.hid (mid_of HBW3.out HPO7.out HP7.out HREL7.out HGEA.out HLEN.out HY7.out HASK7.out HKR7.out HKS.out HO8.out HL8.out HB8.out HSD.out HBX8.out)⟩
          · have hd0 : (y.f0 == 0) = false := beq_eq_false_iff_ne.2 hk0
            have hd1 : decide (y.f0 = 0) = false := decide_eq_false hk0
            have hst := status_any w6 wa.heap.size p2 m2 n home HH0.out M2 HPN6.out HAB6.out.size (by unfold maxLen; omega) y.f1 y.f2 (by have := HY1.out; have := HY2.out; omega) y.f3.f0 y.f3.f1
            obtain ⟨fn, fO, fL⟩ := HAT.out.few
            have hch := fun wx h1 h2 h3 => set_rel HREL2.out (by omega) home y.f1 y.f2 (by have := HY1.out; omega) (by have := HY2.out; omega) A1 c1 A2 c2 y.f3.f0 y.f3.f1 y.f3.f2 w wx h1 h2 h3
            have hrel3 := fun (M3 : PM) h1 h2 h3 => HREL2.out.status (M' := M3) y.f1 y.f2 y.f3.f0 y.f3.f1 y.f3.f2 h1 h2 h3
            have hlen : (if stE M2 y.f1 y.f2 y.f3.f0 y.f3.f1 = 0 then L ++ [⟨y.f1 ++ y.f2, ⟨y.f3.f0, y.f3.f1, y.f3.f2⟩⟩] else L).length ≤ k + 1 := by split <;> (try simp) <;> omega
            obtain ⟨L', hL'⟩ : ∃ L', L' = (if stE M2 y.f1 y.f2 y.f3.f0 y.f3.f1 = 0 then L ++ [⟨y.f1 ++ y.f2, ⟨y.f3.f0, y.f3.f1, y.f3.f2⟩⟩] else L) := ⟨_, rfl⟩
            rw [← hL'] at hlen
            simp only [← hL'] at hch hrel3
            generalize stE M2 y.f1 y.f2 y.f3.f0 y.f3.f1 = E at *
            have HST := Lib.hid hst
            have HCH := Lib.hid hch
            have HREL3 := Lib.hid hrel3
            have HLEN := Lib.hid (by omega : n + 1 ≤ k + 1 ∧ O.length ≤ k + 1 ∧ L'.length ≤ k + 1)
            clear hst hk0 hL' hch hrel3 hlen fn fO fL
            go_upto_region 22 with (go_at_call 20; refine HST.out.mono ?_; rintro e w7 ⟨rfl, ⟨M3, hp3, hoth, hcont, hnone, hkeep⟩, hb7⟩; have HP7 := Lib.hid hp3; have HOTH := Lib.hid hoth; have HCONT := Lib.hid hcont; have HNONE := Lib.hid hnone; have HKEEP := Lib.hid hkeep; have HB7 := Lib.hid hb7; clear hp3 hoth hcont hnone hkeep hb7)
            have hrb7 : Below wr.heap.size wr w7 := b_trans HRB6.out (b_less HB7.out HBA.out.size)
            have hlow7 := s_trans HAT.out.low hrb7
            have hy7 := base_on HB7.out HY6.out (by have := HZA.out; omega)
            have hbx7 := base_on HB7.out HBX6.out HBWL.out
            have hch7 := HCH.out w7 hlow7 (Kd.R_below HAT.out.opt hrb7) (Kd.R_below HAT.out.lst hrb7)
            have hrel7 := HREL3.out M3 HOTH.out HCONT.out HNONE.out
            have hkr7 := strs_keeps HKR.out HKEEP.out
            have hpo7 := HAT.out.pp.below hrb7
            have HY7 := Lib.hid hy7
            have HBX7 := Lib.hid hbx7
            have HKR7 := Lib.hid hkr7
            have HPO7 := Lib.hid hpo7
            have HREL7 := Lib.hid hrel7
            have HASK7 := Lib.hid (base_on hrb7 HAT.out.ask (block_lt HAT.out.ask))
            have HCH7 := Lib.hid hch7
            obtain ⟨y0, y1, y2, y3, y4, y5⟩ := cells6 hy7
            obtain ⟨x0, x1, x2⟩ := cells3 hbx7
            clear hch7 hrel7 hrb7 hlow7 hy7 hbx7 hkr7 hpo7 HOTH HCONT HNONE HREL3 HCH HST HKEEP
            go_wp2_with (go_at_call 46; refine HCH7.out.mono ?_; rintro e w8 ⟨A3, c3, A4, c4, rfl, ho8, hl8, hb8, hsd, hbk⟩; have hbx8 := hbk _ _ _ HBX7.out; obtain ⟨x0, x1, x2⟩ := cells3 hbx8; have fx := blockFree hbx8; have HO8 := Lib.hid ho8; have HL8 := Lib.hid hl8; have HB8 := Lib.hid hb8; have HSD := Lib.hid hsd; have HBX8 := Lib.hid hbx8; clear ho8 hl8 hb8 hsd hbk hbx8)
            go_meet
            case rel => exact ⟨E, n + 1, M3, O, L', A3, c3, A4, c4, rfl, rfl, Lib.hid (mid_of HBW3.out HPO7.out HP7.out HREL7.out HGEA.out HLEN.out HY7.out HASK7.out HKR7.out HKS.out HO8.out HL8.out HB8.out HSD.out HBX8.out)⟩
        case rest =>
          obtain ⟨E, n3, M3, O3, L3, A3, c3, A4, c4, rfl, rfl, HMID⟩ := hcut
          have hq1 : (E != E) = false := by simp
          have hq2 : decide (E = E) = true := by simp
          have hkn := HMID.out.old.known (by have := HAT.out.few; omega) HH0.out
          have hkl : rs.length ≤ 1000 := Nat.le_trans ((HAT.out.both (by omega)).keys_few HKS.out) (by omega)
          have HKN2 := Lib.hid hkn
          have HKL := Lib.hid hkl
          clear hkn hkl
          go_upto_region 25 with (first
            | (go_at_call 43; refine HKN2.out.mono ?_; rintro e wd ⟨A5, c5, rs5, rfl, hs5, hb5⟩; have HS5 := Lib.hid hs5; have HKN5 := Lib.hid (HMID.out.kn.below hb5); have HBD := Lib.hid hb5; clear hs5 hb5)
            | (go_at_call 39; refine (same_any HS5.out HKN5.out (fun _ => Iff.rfl) (by have := keys_uniq HS5.out.2.2 HKN5.out.2.2 (fun _ => Iff.rfl); rw [← this]; exact HKL.out)).mono ?_; rintro e we ⟨rfl, hb⟩; have HBE := Lib.hid (s_trans HBD.out hb); clear hb))
          have hat5 := HMID.out.new.below HBE.out
          have hrow5 := block_on HBE.out HMID.out.row
          have HAT5 := Lib.hid hat5
          have HROW5 := Lib.hid hrow5
          clear hat5 hrow5 hq1 hq2 HKN2 HKL HS5 HKN5
          obtain ⟨y0, y1, y2, y3, y4, y5⟩ := cells6 HROW5.out
          obtain ⟨z0, z1, z2, z3, z4, z5⟩ := cells6 HAT5.out.ask
          go_upto_region 27 with fail
          obtain ⟨wf, hwf⟩ : ∃ W : World, W = we.alloc (.cells #[.int .i64 xk, .string xc, .string xn, .int .i64 xf, .int .i64 xu, .int .i64 xx, .int .i64 y.f0, .string y.f1, .string y.f2, .int .i64 y.f3.f0, .int .i64 y.f3.f1, .int .i64 y.f3.f2] 42) := ⟨_, rfl⟩
          try rw [← hwf]
          have hbf : Below we.heap.size we wf := by rw [hwf]; exact s_alloc (Below.refl _ _) _
          have hlf : wf.heap[we.heap.size]? = some (.cells #[.int .i64 xk, .string xc, .string xn, .int .i64 xf, .int .i64 xu, .int .i64 xx, .int .i64 y.f0, .string y.f1, .string y.f2, .int .i64 y.f3.f0, .int .i64 y.f3.f1, .int .i64 y.f3.f2] 42 (0, 0)) := by rw [hwf]; exact Array.getElem?_push_size
          have HATF := Lib.hid (HAT5.out.below hbf)
          have HLF := Lib.hid hlf
          clear hwf hbf hlf y0 y1 y2 y3 y4 y5 z0 z1 z2 z3 z4 z5
          go_loopw [107] (fun v107 wr2 => ∃ j : Nat, j ≤ 2 ∧ v107 = .int .i64 j ∧ Hid (At w wr2 w3.heap.size (k + 1) ⟨xk, xc, xn, ⟨xf, xu, xx⟩⟩ home p2 m2 n3 wa.heap.size M3 O3 L3 A3 c3 A4 c4) ∧ Hid (wr2.heap[we.heap.size]? = some (.cells #[.int .i64 xk, .string xc, .string xn, .int .i64 xf, .int .i64 xu, .int .i64 xx, .int .i64 y.f0, .string y.f1, .string y.f2, .int .i64 y.f3.f0, .int .i64 y.f3.f1, .int .i64 y.f3.f2] 42 (0, 0)))) (fun i _ => 2 - (intOf i).toNat)
          case atStart => exact ⟨0, by omega, rfl, HATF, HLF⟩
          case round =>
            obtain ⟨j, hj, rfl, HATG, HLG⟩ := hrel
            have hj3 : j = 0 ∨ j = 1 ∨ j = 2 := by omega
            obtain ⟨l0_, l1_, l2_, l3_, l4_, l5_, l6_, l7_, l8_, l9_, l10_, l11_⟩ := cells12 HLG.out
            rcases hj3 with rfl | rfl | rfl
            · skip
              go_upto_region 29 with fail
              obtain ⟨wg, hwg⟩ : ∃ W : World, W = wr.alloc (.cells (c42 ⟨xk, xc, xn, ⟨xf, xu, xx⟩⟩) 42) := ⟨_, rfl⟩
              try rw [← hwg]
              have hbg : Below wr.heap.size wr wg := by rw [hwg]; exact s_alloc (Below.refl _ _) _
              have hqg : wg.heap[wr.heap.size]? = some (.cells (c42 ⟨xk, xc, xn, ⟨xf, xu, xx⟩⟩) 42 (0, 0)) := by rw [hwg]; exact Array.getElem?_push_size
              have HZ0 := Lib.hid hbg
              have HBo0 := Lib.hid ((HATG.out.below hbg).both (by omega))
              have HQ0 := Lib.hid hqg
              have HQS := Lib.hid ((⟨HS2.out, HS3.out⟩ : xc.size ≤ 100 ∧ xn.size ≤ 100))
              have hz0 := held7 hqg HBo0.out.box
              have hq1 : (heldB (cont M3 none) xf != heldB (cont M3 none) xf) = false := by simp
              have hq2 : (bizB home M3 xc xn xu != bizB home M3 xc xn xu) = false := by simp
              clear hwg hbg hqg l0_ l1_ l2_ l3_ l4_ l5_ l6_ l7_ l8_ l9_ l10_ l11_
              refine start_ (n := 32) (S := fun w' => w'.cell? ⟨wr.heap.size, 1, none⟩ = some (.string xc) ∧ w'.cell? ⟨wr.heap.size, 2, none⟩ = some (.string xn) ∧ w'.cell? ⟨wr.heap.size, 3, none⟩ = some (.int .i64 xf) ∧ w'.cell? ⟨wr.heap.size, 4, none⟩ = some (.int .i64 xu) ∧ w'.cell? ⟨w3.heap.size, 0, none⟩ = some (.string home) ∧ w'.cell? ⟨w3.heap.size, 1, none⟩ = some (.slice A3 O3.length c3) ∧ w'.cell? ⟨w3.heap.size, 2, none⟩ = some (.slice A4 L3.length c4)) (ds := []) #[false, false, false, false, false, false, false, false, false, false, false, false, false, false, false, false, false, false, false, false, false, false, false, false, false, false, false, false, false, false, false, false] (by kernel_rfl) rfl rfl ⟨hz0.1, hz0.2.1, hz0.2.2.1, hz0.2.2.2.1, hz0.2.2.2.2.1, hz0.2.2.2.2.2.1, hz0.2.2.2.2.2.2⟩ (fun hHeld => ?_)
              obtain ⟨wd, hwd⟩ : ∃ W, W = wg.drew := ⟨_, rfl⟩
              rw [← hwd] at hHeld
              rw [← hwd]
              have hdr : Below wg.heap.size wg wd := by rw [hwd]; exact s_drew (Below.refl _ _)
              have HZd := Lib.hid (s_trans HZ0.out hdr)
              have HBod := Lib.hid (HBo0.out.below hdr)
              have HQd := Lib.hid (block_on hdr HQ0.out)
              clear hwd hdr
              refine pure_ (i := 0) (N := some 111) (v := ?_) (a' := ?_) #[true, false, false, false, false, false, false, false, false, false, false, false, false, false, false, false, false, false, false, false, false, false, false, false, false, false, false, false, false, false, false, false] rfl rfl (by kernel_rfl) (fun _ _ _ h => h) (Or.inl ⟨by rfl, ?_⟩) ?_ ?_
              rotate_left
              · intro w'
                go_simp
                with_reducible rfl
              rotate_left
              · simp only [Act.put, List.setIfInBounds_toArray, List.set_cons_zero, List.set_cons_succ, i64_w, i32_w]
                rfl
              refine pure_ (i := 1) (N := some 112) (v := ?_) (a' := ?_) #[true, true, false, false, false, false, false, false, false, false, false, false, false, false, false, false, false, false, false, false, false, false, false, false, false, false, false, false, false, false, false, false] rfl rfl (by kernel_rfl) (fun _ _ _ h => h) (Or.inl ⟨by rfl, ?_⟩) ?_ ?_
              rotate_left
              · intro w'
                go_simp
                with_reducible rfl
              rotate_left
              · simp only [Act.put, List.setIfInBounds_toArray, List.set_cons_zero, List.set_cons_succ, i64_w, i32_w]
                rfl
              refine pure_ (i := 2) (N := some 113) (v := ?_) (a' := ?_) #[true, true, true, false, false, false, false, false, false, false, false, false, false, false, false, false, false, false, false, false, false, false, false, false, false, false, false, false, false, false, false, false] rfl rfl (by kernel_rfl) (fun _ _ _ h => h) (Or.inl ⟨by rfl, ?_⟩) ?_ ?_
              rotate_left
              · intro w'
                go_simp
                with_reducible rfl
              rotate_left
              · simp only [Act.put, List.setIfInBounds_toArray, List.set_cons_zero, List.set_cons_succ, i64_w, i32_w]
                rfl
              refine pure_ (i := 6) (N := some 117) (v := ?_) (a' := ?_) #[true, true, true, false, false, false, true, false, false, false, false, false, false, false, false, false, false, false, false, false, false, false, false, false, false, false, false, false, false, false, false, false] rfl rfl (by kernel_rfl) (fun _ _ _ h => h) (Or.inl ⟨by rfl, ?_⟩) ?_ ?_
              rotate_left
              · intro w'
                go_simp
                with_reducible rfl
              rotate_left
              · simp only [Act.put, List.setIfInBounds_toArray, List.set_cons_zero, List.set_cons_succ, i64_w, i32_w]
                rfl
              refine pure_ (i := 7) (N := some 118) (v := ?_) (a' := ?_) #[true, true, true, false, false, false, true, true, false, false, false, false, false, false, false, false, false, false, false, false, false, false, false, false, false, false, false, false, false, false, false, false] rfl rfl (by kernel_rfl) (fun _ _ _ h => h) (Or.inl ⟨by rfl, ?_⟩) ?_ ?_
              rotate_left
              · intro w'
                go_simp
                with_reducible rfl
              rotate_left
              · simp only [Act.put, List.setIfInBounds_toArray, List.set_cons_zero, List.set_cons_succ, i64_w, i32_w]
                rfl
              refine take_ (i := 3) (N := some 114) (v := ?_) (a' := ?_) #[true, true, true, true, false, false, true, true, false, false, false, false, false, false, false, false, false, false, false, false, false, false, false, false, false, false, false, false, false, false, false, false] rfl rfl (by kernel_rfl) (fun _ _ _ h => h) (Or.inl ⟨by rfl, ?_⟩) hHeld ?_ ?_
              rotate_left
              · rintro w' ⟨s0, s1, s2, s3, s4, s5, s6⟩
                go_simp
                with_reducible rfl
              rotate_left
              · simp only [Act.put, List.setIfInBounds_toArray, List.set_cons_zero, List.set_cons_succ, i64_w, i32_w]
                rfl
              refine take_ (i := 5) (N := some 116) (v := ?_) (a' := ?_) #[true, true, true, true, false, true, true, true, false, false, false, false, false, false, false, false, false, false, false, false, false, false, false, false, false, false, false, false, false, false, false, false] rfl rfl (by kernel_rfl) (fun _ _ _ h => h) (Or.inl ⟨by rfl, ?_⟩) hHeld ?_ ?_
              rotate_left
              · rintro w' ⟨s0, s1, s2, s3, s4, s5, s6⟩
                go_simp
                with_reducible rfl
              rotate_left
              · simp only [Act.put, List.setIfInBounds_toArray, List.set_cons_zero, List.set_cons_succ, i64_w, i32_w]
                rfl
              refine take_ (i := 8) (N := some 119) (v := ?_) (a' := ?_) #[true, true, true, true, false, true, true, true, true, false, false, false, false, false, false, false, false, false, false, false, false, false, false, false, false, false, false, false, false, false, false, false] rfl rfl (by kernel_rfl) (fun _ _ _ h => h) (Or.inl ⟨by rfl, ?_⟩) hHeld ?_ ?_
              rotate_left
              · rintro w' ⟨s0, s1, s2, s3, s4, s5, s6⟩
                go_simp
                with_reducible rfl
              rotate_left
              · simp only [Act.put, List.setIfInBounds_toArray, List.set_cons_zero, List.set_cons_succ, i64_w, i32_w]
                rfl
              refine one_ (i := 4) (N := some 115) #[true, true, true, true, true, true, true, true, true, false, false, false, false, false, false, false, false, false, false, false, false, false, false, false, false, false, false, false, false, false, false, false] rfl rfl (by kernel_rfl) (by decide) (fun K hK => ?_)
              refine goes_ Try.func47 (by kernel_rfl) rfl #[.pointer (some ⟨p2, 0, none⟩), .int .i64 xf] (by rfl) rfl rfl (by simp only [List.map_toArray, List.map_cons, List.map_nil]; rfl) ?_
              with_reducible refine (HBod.out.opted HH0.out xf).mono ?_
              rintro e w11 ⟨rfl, hb1⟩
              refine ⟨_, rfl, ?_⟩
              have HBo1 := Lib.hid (HBod.out.below hb1)
              have HQ1 := Lib.hid (block_on hb1 HQd.out)
              have HZ1 := Lib.hid (s_trans HZd.out hb1)
              have hz1 := held7 HQ1.out HBo1.out.box
              clear hb1
              refine hK.out _ _ ⟨hz1.1, hz1.2.1, hz1.2.2.1, hz1.2.2.2.1, hz1.2.2.2.2.1, hz1.2.2.2.2.2.1, hz1.2.2.2.2.2.2⟩ (fun hHeld => ?_)
              clear hK K
              refine norm_ (a' := ?_) ?_ ?_
              rotate_left
              · show Act.put _ (some 115) _ = _
                simp only [Act.put, List.setIfInBounds_toArray, List.set_cons_zero, List.set_cons_succ, i64_w, i32_w]
                rfl
              refine one_ (i := 9) (N := some 120) #[true, true, true, true, true, true, true, true, true, true, false, false, false, false, false, false, false, false, false, false, false, false, false, false, false, false, false, false, false, false, false, false] rfl rfl (by kernel_rfl) (by decide) (fun K hK => ?_)
              refine goes_ Try.func48 (by kernel_rfl) rfl #[.agg #[.string home, .slice A3 O3.length c3, .slice A4 L3.length c4], .int .i64 xf] (by rfl) rfl rfl (by simp only [List.map_toArray, List.map_cons, List.map_nil]; rfl) ?_
              with_reducible refine (HBo1.out.dopted xf).mono ?_
              rintro e w12 ⟨rfl, hb2⟩
              refine ⟨_, rfl, ?_⟩
              have HBo2 := Lib.hid (HBo1.out.below hb2)
              have HQ2 := Lib.hid (block_on hb2 HQ1.out)
              have HZ2 := Lib.hid (s_trans HZ1.out hb2)
              have hz2 := held7 HQ2.out HBo2.out.box
              clear hb2
              refine hK.out _ _ ⟨hz2.1, hz2.2.1, hz2.2.2.1, hz2.2.2.2.1, hz2.2.2.2.2.1, hz2.2.2.2.2.2.1, hz2.2.2.2.2.2.2⟩ (fun hHeld => ?_)
              clear hK K
              refine norm_ (a' := ?_) ?_ ?_
              rotate_left
              · show Act.put _ (some 120) _ = _
                simp only [Act.put, List.setIfInBounds_toArray, List.set_cons_zero, List.set_cons_succ, i64_w, i32_w]
                rfl
              refine pure_ (i := 10) (N := some 121) (v := ?_) (a' := ?_) #[true, true, true, true, true, true, true, true, true, true, true, false, false, false, false, false, false, false, false, false, false, false, false, false, false, false, false, false, false, false, false, false] rfl rfl (by kernel_rfl) (fun _ _ _ h => h) (Or.inl ⟨by rfl, ?_⟩) ?_ ?_
              rotate_left
              · intro w'
                go_simp
                with_reducible rfl
              rotate_left
              · simp only [Act.put, List.setIfInBounds_toArray, List.set_cons_zero, List.set_cons_succ, i64_w, i32_w]
                rfl
              refine pure_ (i := 11) (N := some 122) (v := ?_) (a' := ?_) #[true, true, true, true, true, true, true, true, true, true, true, true, false, false, false, false, false, false, false, false, false, false, false, false, false, false, false, false, false, false, false, false] rfl rfl (by kernel_rfl) (fun _ _ _ h => h) (Or.inl ⟨by rfl, ?_⟩) ?_ ?_
              rotate_left
              · intro w'
                go_simp
                with_reducible rfl
              rotate_left
              · simp only [Act.put, List.setIfInBounds_toArray, List.set_cons_zero, List.set_cons_succ, i64_w, i32_w]
                rfl
              refine pure_ (i := 12) (N := some 123) (v := ?_) (a' := ?_) #[true, true, true, true, true, true, true, true, true, true, true, true, true, false, false, false, false, false, false, false, false, false, false, false, false, false, false, false, false, false, false, false] rfl rfl (by kernel_rfl) (fun _ _ _ h => h) (Or.inl ⟨by rfl, ?_⟩) ?_ ?_
              rotate_left
              · intro w'
                go_simp
                with_reducible rfl
              rotate_left
              · simp only [Act.put, List.setIfInBounds_toArray, List.set_cons_zero, List.set_cons_succ, i64_w, i32_w]
                rfl
              refine pure_ (i := 13) (N := some 124) (v := ?_) (a' := ?_) #[true, true, true, true, true, true, true, true, true, true, true, true, true, true, false, false, false, false, false, false, false, false, false, false, false, false, false, false, false, false, false, false] rfl rfl (by kernel_rfl) (fun _ _ _ h => h) (Or.inl ⟨by rfl, ?_⟩) ?_ ?_
              rotate_left
              · intro w'
                go_simp
                with_reducible rfl
              rotate_left
              · simp only [Act.put, List.setIfInBounds_toArray, List.set_cons_zero, List.set_cons_succ, i64_w, i32_w]
                rfl
              refine pure_ (i := 15) (N := some 126) (v := ?_) (a' := ?_) #[true, true, true, true, true, true, true, true, true, true, true, true, true, true, false, true, false, false, false, false, false, false, false, false, false, false, false, false, false, false, false, false] rfl rfl (by kernel_rfl) (fun _ _ _ h => h) (Or.inl ⟨by rfl, ?_⟩) ?_ ?_
              rotate_left
              · intro w'
                go_simp
                with_reducible rfl
              rotate_left
              · simp only [Act.put, List.setIfInBounds_toArray, List.set_cons_zero, List.set_cons_succ, i64_w, i32_w]
                rfl
              refine pure_ (i := 17) (N := some 128) (v := ?_) (a' := ?_) #[true, true, true, true, true, true, true, true, true, true, true, true, true, true, false, true, false, true, false, false, false, false, false, false, false, false, false, false, false, false, false, false] rfl rfl (by kernel_rfl) (fun _ _ _ h => h) (Or.inl ⟨by rfl, ?_⟩) ?_ ?_
              rotate_left
              · intro w'
                go_simp
                with_reducible rfl
              rotate_left
              · simp only [Act.put, List.setIfInBounds_toArray, List.set_cons_zero, List.set_cons_succ, i64_w, i32_w]
                rfl
              refine pure_ (i := 18) (N := some 129) (v := ?_) (a' := ?_) #[true, true, true, true, true, true, true, true, true, true, true, true, true, true, false, true, false, true, true, false, false, false, false, false, false, false, false, false, false, false, false, false] rfl rfl (by kernel_rfl) (fun _ _ _ h => h) (Or.inl ⟨by rfl, ?_⟩) ?_ ?_
              rotate_left
              · intro w'
                go_simp
                with_reducible rfl
              rotate_left
              · simp only [Act.put, List.setIfInBounds_toArray, List.set_cons_zero, List.set_cons_succ, i64_w, i32_w]
                rfl
              refine pure_ (i := 22) (N := some 133) (v := ?_) (a' := ?_) #[true, true, true, true, true, true, true, true, true, true, true, true, true, true, false, true, false, true, true, false, false, false, true, false, false, false, false, false, false, false, false, false] rfl rfl (by kernel_rfl) (fun _ _ _ h => h) (Or.inl ⟨by rfl, ?_⟩) ?_ ?_
              rotate_left
              · intro w'
                go_simp
                with_reducible rfl
              rotate_left
              · simp only [Act.put, List.setIfInBounds_toArray, List.set_cons_zero, List.set_cons_succ, i64_w, i32_w]
                rfl
              refine pure_ (i := 24) (N := some 135) (v := ?_) (a' := ?_) #[true, true, true, true, true, true, true, true, true, true, true, true, true, true, false, true, false, true, true, false, false, false, true, false, true, false, false, false, false, false, false, false] rfl rfl (by kernel_rfl) (fun _ _ _ h => h) (Or.inl ⟨by rfl, ?_⟩) ?_ ?_
              rotate_left
              · intro w'
                go_simp
                with_reducible rfl
              rotate_left
              · simp only [Act.put, List.setIfInBounds_toArray, List.set_cons_zero, List.set_cons_succ, i64_w, i32_w]
                rfl
              refine pure_ (i := 26) (N := some 137) (v := ?_) (a' := ?_) #[true, true, true, true, true, true, true, true, true, true, true, true, true, true, false, true, false, true, true, false, false, false, true, false, true, false, true, false, false, false, false, false] rfl rfl (by kernel_rfl) (fun _ _ _ h => h) (Or.inl ⟨by rfl, ?_⟩) ?_ ?_
              rotate_left
              · intro w'
                go_simp
                with_reducible rfl
              rotate_left
              · simp only [Act.put, List.setIfInBounds_toArray, List.set_cons_zero, List.set_cons_succ, i64_w, i32_w]
                rfl
              refine pure_ (i := 27) (N := some 138) (v := ?_) (a' := ?_) #[true, true, true, true, true, true, true, true, true, true, true, true, true, true, false, true, false, true, true, false, false, false, true, false, true, false, true, true, false, false, false, false] rfl rfl (by kernel_rfl) (fun _ _ _ h => h) (Or.inl ⟨by rfl, ?_⟩) ?_ ?_
              rotate_left
              · intro w'
                go_simp
                with_reducible rfl
              rotate_left
              · simp only [Act.put, List.setIfInBounds_toArray, List.set_cons_zero, List.set_cons_succ, i64_w, i32_w]
                rfl
              refine take_ (i := 14) (N := some 125) (v := ?_) (a' := ?_) #[true, true, true, true, true, true, true, true, true, true, true, true, true, true, true, true, false, true, true, false, false, false, true, false, true, false, true, true, false, false, false, false] rfl rfl (by kernel_rfl) (fun _ _ _ h => h) (Or.inl ⟨by rfl, ?_⟩) hHeld ?_ ?_
              rotate_left
              · rintro w' ⟨s0, s1, s2, s3, s4, s5, s6⟩
                go_simp
                with_reducible rfl
              rotate_left
              · simp only [Act.put, List.setIfInBounds_toArray, List.set_cons_zero, List.set_cons_succ, i64_w, i32_w]
                rfl
              refine take_ (i := 16) (N := some 127) (v := ?_) (a' := ?_) #[true, true, true, true, true, true, true, true, true, true, true, true, true, true, true, true, true, true, true, false, false, false, true, false, true, false, true, true, false, false, false, false] rfl rfl (by kernel_rfl) (fun _ _ _ h => h) (Or.inl ⟨by rfl, ?_⟩) hHeld ?_ ?_
              rotate_left
              · rintro w' ⟨s0, s1, s2, s3, s4, s5, s6⟩
                go_simp
                with_reducible rfl
              rotate_left
              · simp only [Act.put, List.setIfInBounds_toArray, List.set_cons_zero, List.set_cons_succ, i64_w, i32_w]
                rfl
              refine take_ (i := 19) (N := some 130) (v := ?_) (a' := ?_) #[true, true, true, true, true, true, true, true, true, true, true, true, true, true, true, true, true, true, true, true, false, false, true, false, true, false, true, true, false, false, false, false] rfl rfl (by kernel_rfl) (fun _ _ _ h => h) (Or.inl ⟨by rfl, ?_⟩) hHeld ?_ ?_
              rotate_left
              · rintro w' ⟨s0, s1, s2, s3, s4, s5, s6⟩
                go_simp
                with_reducible rfl
              rotate_left
              · simp only [Act.put, List.setIfInBounds_toArray, List.set_cons_zero, List.set_cons_succ, i64_w, i32_w]
                rfl
              refine take_ (i := 21) (N := some 132) (v := ?_) (a' := ?_) #[true, true, true, true, true, true, true, true, true, true, true, true, true, true, true, true, true, true, true, true, false, true, true, false, true, false, true, true, false, false, false, false] rfl rfl (by kernel_rfl) (fun _ _ _ h => h) (Or.inl ⟨by rfl, ?_⟩) hHeld ?_ ?_
              rotate_left
              · rintro w' ⟨s0, s1, s2, s3, s4, s5, s6⟩
                go_simp
                with_reducible rfl
              rotate_left
              · simp only [Act.put, List.setIfInBounds_toArray, List.set_cons_zero, List.set_cons_succ, i64_w, i32_w]
                rfl
              refine take_ (i := 23) (N := some 134) (v := ?_) (a' := ?_) #[true, true, true, true, true, true, true, true, true, true, true, true, true, true, true, true, true, true, true, true, false, true, true, true, true, false, true, true, false, false, false, false] rfl rfl (by kernel_rfl) (fun _ _ _ h => h) (Or.inl ⟨by rfl, ?_⟩) hHeld ?_ ?_
              rotate_left
              · rintro w' ⟨s0, s1, s2, s3, s4, s5, s6⟩
                go_simp
                with_reducible rfl
              rotate_left
              · simp only [Act.put, List.setIfInBounds_toArray, List.set_cons_zero, List.set_cons_succ, i64_w, i32_w]
                rfl
              refine take_ (i := 25) (N := some 136) (v := ?_) (a' := ?_) #[true, true, true, true, true, true, true, true, true, true, true, true, true, true, true, true, true, true, true, true, false, true, true, true, true, true, true, true, false, false, false, false] rfl rfl (by kernel_rfl) (fun _ _ _ h => h) (Or.inl ⟨by rfl, ?_⟩) hHeld ?_ ?_
              rotate_left
              · rintro w' ⟨s0, s1, s2, s3, s4, s5, s6⟩
                go_simp
                with_reducible rfl
              rotate_left
              · simp only [Act.put, List.setIfInBounds_toArray, List.set_cons_zero, List.set_cons_succ, i64_w, i32_w]
                rfl
              refine take_ (i := 28) (N := some 139) (v := ?_) (a' := ?_) #[true, true, true, true, true, true, true, true, true, true, true, true, true, true, true, true, true, true, true, true, false, true, true, true, true, true, true, true, true, false, false, false] rfl rfl (by kernel_rfl) (fun _ _ _ h => h) (Or.inl ⟨by rfl, ?_⟩) hHeld ?_ ?_
              rotate_left
              · rintro w' ⟨s0, s1, s2, s3, s4, s5, s6⟩
                go_simp
                with_reducible rfl
              rotate_left
              · simp only [Act.put, List.setIfInBounds_toArray, List.set_cons_zero, List.set_cons_succ, i64_w, i32_w]
                rfl
              refine one_ (i := 20) (N := some 131) #[true, true, true, true, true, true, true, true, true, true, true, true, true, true, true, true, true, true, true, true, true, true, true, true, true, true, true, true, true, false, false, false] rfl rfl (by kernel_rfl) (by decide) (fun K hK => ?_)
              refine goes_ Try.func21 (by kernel_rfl) rfl #[.pointer (some ⟨p2, 0, none⟩), .string xc, .string xn, .int .i64 xu] (by rfl) rfl rfl (by simp only [List.map_toArray, List.map_cons, List.map_nil]; rfl) ?_
              with_reducible refine (HBo2.out.biz HH0.out xc xn HQS.out xu).mono ?_
              rintro e w13 ⟨rfl, hb3⟩
              refine ⟨_, rfl, ?_⟩
              have HBo3 := Lib.hid (HBo2.out.below hb3)
              have HQ3 := Lib.hid (block_on hb3 HQ2.out)
              have HZ3 := Lib.hid (s_trans HZ2.out hb3)
              have hz3 := held7 HQ3.out HBo3.out.box
              clear hb3
              refine hK.out _ _ ⟨hz3.1, hz3.2.1, hz3.2.2.1, hz3.2.2.2.1, hz3.2.2.2.2.1, hz3.2.2.2.2.2.1, hz3.2.2.2.2.2.2⟩ (fun hHeld => ?_)
              clear hK K
              refine norm_ (a' := ?_) ?_ ?_
              rotate_left
              · show Act.put _ (some 131) _ = _
                simp only [Act.put, List.setIfInBounds_toArray, List.set_cons_zero, List.set_cons_succ, i64_w, i32_w]
                rfl
              refine one_ (i := 29) (N := some 140) #[true, true, true, true, true, true, true, true, true, true, true, true, true, true, true, true, true, true, true, true, true, true, true, true, true, true, true, true, true, true, false, false] rfl rfl (by kernel_rfl) (by decide) (fun K hK => ?_)
              refine goes_ Try.func49 (by kernel_rfl) rfl #[.agg #[.string home, .slice A3 O3.length c3, .slice A4 L3.length c4], .string xc, .string xn, .int .i64 xu] (by rfl) rfl rfl (by simp only [List.map_toArray, List.map_cons, List.map_nil]; rfl) ?_
              with_reducible refine (HBo3.out.dbiz xc xn HQS.out xu).mono ?_
              rintro e w14 ⟨rfl, hb4⟩
              refine ⟨_, rfl, ?_⟩
              have HBo4 := Lib.hid (HBo3.out.below hb4)
              have HQ4 := Lib.hid (block_on hb4 HQ3.out)
              have HZ4 := Lib.hid (s_trans HZ3.out hb4)
              have hz4 := held7 HQ4.out HBo4.out.box
              clear hb4
              refine hK.out _ _ ⟨hz4.1, hz4.2.1, hz4.2.2.1, hz4.2.2.2.1, hz4.2.2.2.2.1, hz4.2.2.2.2.2.1, hz4.2.2.2.2.2.2⟩ (fun hHeld => ?_)
              clear hK K
              refine norm_ (a' := ?_) ?_ ?_
              rotate_left
              · show Act.put _ (some 140) _ = _
                simp only [Act.put, List.setIfInBounds_toArray, List.set_cons_zero, List.set_cons_succ, i64_w, i32_w]
                rfl
              refine pure_ (i := 30) (N := some 141) (v := ?_) (a' := ?_) #[true, true, true, true, true, true, true, true, true, true, true, true, true, true, true, true, true, true, true, true, true, true, true, true, true, true, true, true, true, true, true, false] rfl rfl (by kernel_rfl) (fun _ _ _ h => h) (Or.inl ⟨by rfl, ?_⟩) ?_ ?_
              rotate_left
              · intro w'
                go_simp
                with_reducible rfl
              rotate_left
              · simp only [Act.put, List.setIfInBounds_toArray, List.set_cons_zero, List.set_cons_succ, i64_w, i32_w]
                rfl
              refine pure_ (i := 31) (N := some 142) (v := ?_) (a' := ?_) #[true, true, true, true, true, true, true, true, true, true, true, true, true, true, true, true, true, true, true, true, true, true, true, true, true, true, true, true, true, true, true, true] rfl rfl (by kernel_rfl) (fun _ _ _ h => h) (Or.inl ⟨by rfl, ?_⟩) ?_ ?_
              rotate_left
              · intro w'
                go_simp
                with_reducible rfl
              rotate_left
              · simp only [Act.put, List.setIfInBounds_toArray, List.set_cons_zero, List.set_cons_succ, i64_w, i32_w]
                rfl
              refine done_ (by kernel_rfl) ?_
              clear hq1 hq2
              go_wp2
              go_roundw
              case rel => exact ⟨0 + 1, by omega, by first | rfl | go_num, HATG.out.below HZ4.out, block_on HZ4.out HLG.out⟩
              case measure => simp [intOf]
            · skip
              go_upto_region 29 with fail
              obtain ⟨wg, hwg⟩ : ∃ W : World, W = wr.alloc (.cells (c42 y) 42) := ⟨_, rfl⟩
              try rw [← hwg]
              have hbg : Below wr.heap.size wr wg := by rw [hwg]; exact s_alloc (Below.refl _ _) _
              have hqg : wg.heap[wr.heap.size]? = some (.cells (c42 y) 42 (0, 0)) := by rw [hwg]; exact Array.getElem?_push_size
              have HZ0 := Lib.hid hbg
              have HBo0 := Lib.hid ((HATG.out.below hbg).both (by omega))
              have HQ0 := Lib.hid hqg
              have HQS := Lib.hid ((⟨HY1.out, HY2.out⟩ : y.f1.size ≤ 100 ∧ y.f2.size ≤ 100))
              have hz0 := held7 hqg HBo0.out.box
              have hq1 : (heldB (cont M3 none) y.f3.f0 != heldB (cont M3 none) y.f3.f0) = false := by simp
              have hq2 : (bizB home M3 y.f1 y.f2 y.f3.f1 != bizB home M3 y.f1 y.f2 y.f3.f1) = false := by simp
              clear hwg hbg hqg l0_ l1_ l2_ l3_ l4_ l5_ l6_ l7_ l8_ l9_ l10_ l11_
              refine start_ (n := 32) (S := fun w' => w'.cell? ⟨wr.heap.size, 1, none⟩ = some (.string y.f1) ∧ w'.cell? ⟨wr.heap.size, 2, none⟩ = some (.string y.f2) ∧ w'.cell? ⟨wr.heap.size, 3, none⟩ = some (.int .i64 y.f3.f0) ∧ w'.cell? ⟨wr.heap.size, 4, none⟩ = some (.int .i64 y.f3.f1) ∧ w'.cell? ⟨w3.heap.size, 0, none⟩ = some (.string home) ∧ w'.cell? ⟨w3.heap.size, 1, none⟩ = some (.slice A3 O3.length c3) ∧ w'.cell? ⟨w3.heap.size, 2, none⟩ = some (.slice A4 L3.length c4)) (ds := []) #[false, false, false, false, false, false, false, false, false, false, false, false, false, false, false, false, false, false, false, false, false, false, false, false, false, false, false, false, false, false, false, false] (by kernel_rfl) rfl rfl ⟨hz0.1, hz0.2.1, hz0.2.2.1, hz0.2.2.2.1, hz0.2.2.2.2.1, hz0.2.2.2.2.2.1, hz0.2.2.2.2.2.2⟩ (fun hHeld => ?_)
              obtain ⟨wd, hwd⟩ : ∃ W, W = wg.drew := ⟨_, rfl⟩
              rw [← hwd] at hHeld
              rw [← hwd]
              have hdr : Below wg.heap.size wg wd := by rw [hwd]; exact s_drew (Below.refl _ _)
              have HZd := Lib.hid (s_trans HZ0.out hdr)
              have HBod := Lib.hid (HBo0.out.below hdr)
              have HQd := Lib.hid (block_on hdr HQ0.out)
              clear hwd hdr
              refine pure_ (i := 0) (N := some 111) (v := ?_) (a' := ?_) #[true, false, false, false, false, false, false, false, false, false, false, false, false, false, false, false, false, false, false, false, false, false, false, false, false, false, false, false, false, false, false, false] rfl rfl (by kernel_rfl) (fun _ _ _ h => h) (Or.inl ⟨by rfl, ?_⟩) ?_ ?_
              rotate_left
              · intro w'
                go_simp
                with_reducible rfl
              rotate_left
              · simp only [Act.put, List.setIfInBounds_toArray, List.set_cons_zero, List.set_cons_succ, i64_w, i32_w]
                rfl
              refine pure_ (i := 1) (N := some 112) (v := ?_) (a' := ?_) #[true, true, false, false, false, false, false, false, false, false, false, false, false, false, false, false, false, false, false, false, false, false, false, false, false, false, false, false, false, false, false, false] rfl rfl (by kernel_rfl) (fun _ _ _ h => h) (Or.inl ⟨by rfl, ?_⟩) ?_ ?_
              rotate_left
              · intro w'
                go_simp
                with_reducible rfl
              rotate_left
              · simp only [Act.put, List.setIfInBounds_toArray, List.set_cons_zero, List.set_cons_succ, i64_w, i32_w]
                rfl
              refine pure_ (i := 2) (N := some 113) (v := ?_) (a' := ?_) #[true, true, true, false, false, false, false, false, false, false, false, false, false, false, false, false, false, false, false, false, false, false, false, false, false, false, false, false, false, false, false, false] rfl rfl (by kernel_rfl) (fun _ _ _ h => h) (Or.inl ⟨by rfl, ?_⟩) ?_ ?_
              rotate_left
              · intro w'
                go_simp
                with_reducible rfl
              rotate_left
              · simp only [Act.put, List.setIfInBounds_toArray, List.set_cons_zero, List.set_cons_succ, i64_w, i32_w]
                rfl
              refine pure_ (i := 6) (N := some 117) (v := ?_) (a' := ?_) #[true, true, true, false, false, false, true, false, false, false, false, false, false, false, false, false, false, false, false, false, false, false, false, false, false, false, false, false, false, false, false, false] rfl rfl (by kernel_rfl) (fun _ _ _ h => h) (Or.inl ⟨by rfl, ?_⟩) ?_ ?_
              rotate_left
              · intro w'
                go_simp
                with_reducible rfl
              rotate_left
              · simp only [Act.put, List.setIfInBounds_toArray, List.set_cons_zero, List.set_cons_succ, i64_w, i32_w]
                rfl
              refine pure_ (i := 7) (N := some 118) (v := ?_) (a' := ?_) #[true, true, true, false, false, false, true, true, false, false, false, false, false, false, false, false, false, false, false, false, false, false, false, false, false, false, false, false, false, false, false, false] rfl rfl (by kernel_rfl) (fun _ _ _ h => h) (Or.inl ⟨by rfl, ?_⟩) ?_ ?_
              rotate_left
              · intro w'
                go_simp
                with_reducible rfl
              rotate_left
              · simp only [Act.put, List.setIfInBounds_toArray, List.set_cons_zero, List.set_cons_succ, i64_w, i32_w]
                rfl
              refine take_ (i := 3) (N := some 114) (v := ?_) (a' := ?_) #[true, true, true, true, false, false, true, true, false, false, false, false, false, false, false, false, false, false, false, false, false, false, false, false, false, false, false, false, false, false, false, false] rfl rfl (by kernel_rfl) (fun _ _ _ h => h) (Or.inl ⟨by rfl, ?_⟩) hHeld ?_ ?_
              rotate_left
              · rintro w' ⟨s0, s1, s2, s3, s4, s5, s6⟩
                go_simp
                with_reducible rfl
              rotate_left
              · simp only [Act.put, List.setIfInBounds_toArray, List.set_cons_zero, List.set_cons_succ, i64_w, i32_w]
                rfl
              refine take_ (i := 5) (N := some 116) (v := ?_) (a' := ?_) #[true, true, true, true, false, true, true, true, false, false, false, false, false, false, false, false, false, false, false, false, false, false, false, false, false, false, false, false, false, false, false, false] rfl rfl (by kernel_rfl) (fun _ _ _ h => h) (Or.inl ⟨by rfl, ?_⟩) hHeld ?_ ?_
              rotate_left
              · rintro w' ⟨s0, s1, s2, s3, s4, s5, s6⟩
                go_simp
                with_reducible rfl
              rotate_left
              · simp only [Act.put, List.setIfInBounds_toArray, List.set_cons_zero, List.set_cons_succ, i64_w, i32_w]
                rfl
              refine take_ (i := 8) (N := some 119) (v := ?_) (a' := ?_) #[true, true, true, true, false, true, true, true, true, false, false, false, false, false, false, false, false, false, false, false, false, false, false, false, false, false, false, false, false, false, false, false] rfl rfl (by kernel_rfl) (fun _ _ _ h => h) (Or.inl ⟨by rfl, ?_⟩) hHeld ?_ ?_
              rotate_left
              · rintro w' ⟨s0, s1, s2, s3, s4, s5, s6⟩
                go_simp
                with_reducible rfl
              rotate_left
              · simp only [Act.put, List.setIfInBounds_toArray, List.set_cons_zero, List.set_cons_succ, i64_w, i32_w]
                rfl
              refine one_ (i := 4) (N := some 115) #[true, true, true, true, true, true, true, true, true, false, false, false, false, false, false, false, false, false, false, false, false, false, false, false, false, false, false, false, false, false, false, false] rfl rfl (by kernel_rfl) (by decide) (fun K hK => ?_)
              refine goes_ Try.func47 (by kernel_rfl) rfl #[.pointer (some ⟨p2, 0, none⟩), .int .i64 y.f3.f0] (by rfl) rfl rfl (by simp only [List.map_toArray, List.map_cons, List.map_nil]; rfl) ?_
              with_reducible refine (HBod.out.opted HH0.out y.f3.f0).mono ?_
              rintro e w11 ⟨rfl, hb1⟩
              refine ⟨_, rfl, ?_⟩
              have HBo1 := Lib.hid (HBod.out.below hb1)
              have HQ1 := Lib.hid (block_on hb1 HQd.out)
              have HZ1 := Lib.hid (s_trans HZd.out hb1)
              have hz1 := held7 HQ1.out HBo1.out.box
              clear hb1
              refine hK.out _ _ ⟨hz1.1, hz1.2.1, hz1.2.2.1, hz1.2.2.2.1, hz1.2.2.2.2.1, hz1.2.2.2.2.2.1, hz1.2.2.2.2.2.2⟩ (fun hHeld => ?_)
              clear hK K
              refine norm_ (a' := ?_) ?_ ?_
              rotate_left
              · show Act.put _ (some 115) _ = _
                simp only [Act.put, List.setIfInBounds_toArray, List.set_cons_zero, List.set_cons_succ, i64_w, i32_w]
                rfl
              refine one_ (i := 9) (N := some 120) #[true, true, true, true, true, true, true, true, true, true, false, false, false, false, false, false, false, false, false, false, false, false, false, false, false, false, false, false, false, false, false, false] rfl rfl (by kernel_rfl) (by decide) (fun K hK => ?_)
              refine goes_ Try.func48 (by kernel_rfl) rfl #[.agg #[.string home, .slice A3 O3.length c3, .slice A4 L3.length c4], .int .i64 y.f3.f0] (by rfl) rfl rfl (by simp only [List.map_toArray, List.map_cons, List.map_nil]; rfl) ?_
              with_reducible refine (HBo1.out.dopted y.f3.f0).mono ?_
              rintro e w12 ⟨rfl, hb2⟩
              refine ⟨_, rfl, ?_⟩
              have HBo2 := Lib.hid (HBo1.out.below hb2)
              have HQ2 := Lib.hid (block_on hb2 HQ1.out)
              have HZ2 := Lib.hid (s_trans HZ1.out hb2)
              have hz2 := held7 HQ2.out HBo2.out.box
              clear hb2
              refine hK.out _ _ ⟨hz2.1, hz2.2.1, hz2.2.2.1, hz2.2.2.2.1, hz2.2.2.2.2.1, hz2.2.2.2.2.2.1, hz2.2.2.2.2.2.2⟩ (fun hHeld => ?_)
              clear hK K
              refine norm_ (a' := ?_) ?_ ?_
              rotate_left
              · show Act.put _ (some 120) _ = _
                simp only [Act.put, List.setIfInBounds_toArray, List.set_cons_zero, List.set_cons_succ, i64_w, i32_w]
                rfl
              refine pure_ (i := 10) (N := some 121) (v := ?_) (a' := ?_) #[true, true, true, true, true, true, true, true, true, true, true, false, false, false, false, false, false, false, false, false, false, false, false, false, false, false, false, false, false, false, false, false] rfl rfl (by kernel_rfl) (fun _ _ _ h => h) (Or.inl ⟨by rfl, ?_⟩) ?_ ?_
              rotate_left
              · intro w'
                go_simp
                with_reducible rfl
              rotate_left
              · simp only [Act.put, List.setIfInBounds_toArray, List.set_cons_zero, List.set_cons_succ, i64_w, i32_w]
                rfl
              refine pure_ (i := 11) (N := some 122) (v := ?_) (a' := ?_) #[true, true, true, true, true, true, true, true, true, true, true, true, false, false, false, false, false, false, false, false, false, false, false, false, false, false, false, false, false, false, false, false] rfl rfl (by kernel_rfl) (fun _ _ _ h => h) (Or.inl ⟨by rfl, ?_⟩) ?_ ?_
              rotate_left
              · intro w'
                go_simp
                with_reducible rfl
              rotate_left
              · simp only [Act.put, List.setIfInBounds_toArray, List.set_cons_zero, List.set_cons_succ, i64_w, i32_w]
                rfl
              refine pure_ (i := 12) (N := some 123) (v := ?_) (a' := ?_) #[true, true, true, true, true, true, true, true, true, true, true, true, true, false, false, false, false, false, false, false, false, false, false, false, false, false, false, false, false, false, false, false] rfl rfl (by kernel_rfl) (fun _ _ _ h => h) (Or.inl ⟨by rfl, ?_⟩) ?_ ?_
              rotate_left
              · intro w'
                go_simp
                with_reducible rfl
              rotate_left
              · simp only [Act.put, List.setIfInBounds_toArray, List.set_cons_zero, List.set_cons_succ, i64_w, i32_w]
                rfl
              refine pure_ (i := 13) (N := some 124) (v := ?_) (a' := ?_) #[true, true, true, true, true, true, true, true, true, true, true, true, true, true, false, false, false, false, false, false, false, false, false, false, false, false, false, false, false, false, false, false] rfl rfl (by kernel_rfl) (fun _ _ _ h => h) (Or.inl ⟨by rfl, ?_⟩) ?_ ?_
              rotate_left
              · intro w'
                go_simp
                with_reducible rfl
              rotate_left
              · simp only [Act.put, List.setIfInBounds_toArray, List.set_cons_zero, List.set_cons_succ, i64_w, i32_w]
                rfl
              refine pure_ (i := 15) (N := some 126) (v := ?_) (a' := ?_) #[true, true, true, true, true, true, true, true, true, true, true, true, true, true, false, true, false, false, false, false, false, false, false, false, false, false, false, false, false, false, false, false] rfl rfl (by kernel_rfl) (fun _ _ _ h => h) (Or.inl ⟨by rfl, ?_⟩) ?_ ?_
              rotate_left
              · intro w'
                go_simp
                with_reducible rfl
              rotate_left
              · simp only [Act.put, List.setIfInBounds_toArray, List.set_cons_zero, List.set_cons_succ, i64_w, i32_w]
                rfl
              refine pure_ (i := 17) (N := some 128) (v := ?_) (a' := ?_) #[true, true, true, true, true, true, true, true, true, true, true, true, true, true, false, true, false, true, false, false, false, false, false, false, false, false, false, false, false, false, false, false] rfl rfl (by kernel_rfl) (fun _ _ _ h => h) (Or.inl ⟨by rfl, ?_⟩) ?_ ?_
              rotate_left
              · intro w'
                go_simp
                with_reducible rfl
              rotate_left
              · simp only [Act.put, List.setIfInBounds_toArray, List.set_cons_zero, List.set_cons_succ, i64_w, i32_w]
                rfl
              refine pure_ (i := 18) (N := some 129) (v := ?_) (a' := ?_) #[true, true, true, true, true, true, true, true, true, true, true, true, true, true, false, true, false, true, true, false, false, false, false, false, false, false, false, false, false, false, false, false] rfl rfl (by kernel_rfl) (fun _ _ _ h => h) (Or.inl ⟨by rfl, ?_⟩) ?_ ?_
              rotate_left
              · intro w'
                go_simp
                with_reducible rfl
              rotate_left
              · simp only [Act.put, List.setIfInBounds_toArray, List.set_cons_zero, List.set_cons_succ, i64_w, i32_w]
                rfl
              refine pure_ (i := 22) (N := some 133) (v := ?_) (a' := ?_) #[true, true, true, true, true, true, true, true, true, true, true, true, true, true, false, true, false, true, true, false, false, false, true, false, false, false, false, false, false, false, false, false] rfl rfl (by kernel_rfl) (fun _ _ _ h => h) (Or.inl ⟨by rfl, ?_⟩) ?_ ?_
              rotate_left
              · intro w'
                go_simp
                with_reducible rfl
              rotate_left
              · simp only [Act.put, List.setIfInBounds_toArray, List.set_cons_zero, List.set_cons_succ, i64_w, i32_w]
                rfl
              refine pure_ (i := 24) (N := some 135) (v := ?_) (a' := ?_) #[true, true, true, true, true, true, true, true, true, true, true, true, true, true, false, true, false, true, true, false, false, false, true, false, true, false, false, false, false, false, false, false] rfl rfl (by kernel_rfl) (fun _ _ _ h => h) (Or.inl ⟨by rfl, ?_⟩) ?_ ?_
              rotate_left
              · intro w'
                go_simp
                with_reducible rfl
              rotate_left
              · simp only [Act.put, List.setIfInBounds_toArray, List.set_cons_zero, List.set_cons_succ, i64_w, i32_w]
                rfl
              refine pure_ (i := 26) (N := some 137) (v := ?_) (a' := ?_) #[true, true, true, true, true, true, true, true, true, true, true, true, true, true, false, true, false, true, true, false, false, false, true, false, true, false, true, false, false, false, false, false] rfl rfl (by kernel_rfl) (fun _ _ _ h => h) (Or.inl ⟨by rfl, ?_⟩) ?_ ?_
              rotate_left
              · intro w'
                go_simp
                with_reducible rfl
              rotate_left
              · simp only [Act.put, List.setIfInBounds_toArray, List.set_cons_zero, List.set_cons_succ, i64_w, i32_w]
                rfl
              refine pure_ (i := 27) (N := some 138) (v := ?_) (a' := ?_) #[true, true, true, true, true, true, true, true, true, true, true, true, true, true, false, true, false, true, true, false, false, false, true, false, true, false, true, true, false, false, false, false] rfl rfl (by kernel_rfl) (fun _ _ _ h => h) (Or.inl ⟨by rfl, ?_⟩) ?_ ?_
              rotate_left
              · intro w'
                go_simp
                with_reducible rfl
              rotate_left
              · simp only [Act.put, List.setIfInBounds_toArray, List.set_cons_zero, List.set_cons_succ, i64_w, i32_w]
                rfl
              refine take_ (i := 14) (N := some 125) (v := ?_) (a' := ?_) #[true, true, true, true, true, true, true, true, true, true, true, true, true, true, true, true, false, true, true, false, false, false, true, false, true, false, true, true, false, false, false, false] rfl rfl (by kernel_rfl) (fun _ _ _ h => h) (Or.inl ⟨by rfl, ?_⟩) hHeld ?_ ?_
              rotate_left
              · rintro w' ⟨s0, s1, s2, s3, s4, s5, s6⟩
                go_simp
                with_reducible rfl
              rotate_left
              · simp only [Act.put, List.setIfInBounds_toArray, List.set_cons_zero, List.set_cons_succ, i64_w, i32_w]
                rfl
              refine take_ (i := 16) (N := some 127) (v := ?_) (a' := ?_) #[true, true, true, true, true, true, true, true, true, true, true, true, true, true, true, true, true, true, true, false, false, false, true, false, true, false, true, true, false, false, false, false] rfl rfl (by kernel_rfl) (fun _ _ _ h => h) (Or.inl ⟨by rfl, ?_⟩) hHeld ?_ ?_
              rotate_left
              · rintro w' ⟨s0, s1, s2, s3, s4, s5, s6⟩
                go_simp
                with_reducible rfl
              rotate_left
              · simp only [Act.put, List.setIfInBounds_toArray, List.set_cons_zero, List.set_cons_succ, i64_w, i32_w]
                rfl
              refine take_ (i := 19) (N := some 130) (v := ?_) (a' := ?_) #[true, true, true, true, true, true, true, true, true, true, true, true, true, true, true, true, true, true, true, true, false, false, true, false, true, false, true, true, false, false, false, false] rfl rfl (by kernel_rfl) (fun _ _ _ h => h) (Or.inl ⟨by rfl, ?_⟩) hHeld ?_ ?_
              rotate_left
              · rintro w' ⟨s0, s1, s2, s3, s4, s5, s6⟩
                go_simp
                with_reducible rfl
              rotate_left
              · simp only [Act.put, List.setIfInBounds_toArray, List.set_cons_zero, List.set_cons_succ, i64_w, i32_w]
                rfl
              refine take_ (i := 21) (N := some 132) (v := ?_) (a' := ?_) #[true, true, true, true, true, true, true, true, true, true, true, true, true, true, true, true, true, true, true, true, false, true, true, false, true, false, true, true, false, false, false, false] rfl rfl (by kernel_rfl) (fun _ _ _ h => h) (Or.inl ⟨by rfl, ?_⟩) hHeld ?_ ?_
              rotate_left
              · rintro w' ⟨s0, s1, s2, s3, s4, s5, s6⟩
                go_simp
                with_reducible rfl
              rotate_left
              · simp only [Act.put, List.setIfInBounds_toArray, List.set_cons_zero, List.set_cons_succ, i64_w, i32_w]
                rfl
              refine take_ (i := 23) (N := some 134) (v := ?_) (a' := ?_) #[true, true, true, true, true, true, true, true, true, true, true, true, true, true, true, true, true, true, true, true, false, true, true, true, true, false, true, true, false, false, false, false] rfl rfl (by kernel_rfl) (fun _ _ _ h => h) (Or.inl ⟨by rfl, ?_⟩) hHeld ?_ ?_
              rotate_left
              · rintro w' ⟨s0, s1, s2, s3, s4, s5, s6⟩
                go_simp
                with_reducible rfl
              rotate_left
              · simp only [Act.put, List.setIfInBounds_toArray, List.set_cons_zero, List.set_cons_succ, i64_w, i32_w]
                rfl
              refine take_ (i := 25) (N := some 136) (v := ?_) (a' := ?_) #[true, true, true, true, true, true, true, true, true, true, true, true, true, true, true, true, true, true, true, true, false, true, true, true, true, true, true, true, false, false, false, false] rfl rfl (by kernel_rfl) (fun _ _ _ h => h) (Or.inl ⟨by rfl, ?_⟩) hHeld ?_ ?_
              rotate_left
              · rintro w' ⟨s0, s1, s2, s3, s4, s5, s6⟩
                go_simp
                with_reducible rfl
              rotate_left
              · simp only [Act.put, List.setIfInBounds_toArray, List.set_cons_zero, List.set_cons_succ, i64_w, i32_w]
                rfl
              refine take_ (i := 28) (N := some 139) (v := ?_) (a' := ?_) #[true, true, true, true, true, true, true, true, true, true, true, true, true, true, true, true, true, true, true, true, false, true, true, true, true, true, true, true, true, false, false, false] rfl rfl (by kernel_rfl) (fun _ _ _ h => h) (Or.inl ⟨by rfl, ?_⟩) hHeld ?_ ?_
              rotate_left
              · rintro w' ⟨s0, s1, s2, s3, s4, s5, s6⟩
                go_simp
                with_reducible rfl
              rotate_left
              · simp only [Act.put, List.setIfInBounds_toArray, List.set_cons_zero, List.set_cons_succ, i64_w, i32_w]
                rfl
              refine one_ (i := 20) (N := some 131) #[true, true, true, true, true, true, true, true, true, true, true, true, true, true, true, true, true, true, true, true, true, true, true, true, true, true, true, true, true, false, false, false] rfl rfl (by kernel_rfl) (by decide) (fun K hK => ?_)
              refine goes_ Try.func21 (by kernel_rfl) rfl #[.pointer (some ⟨p2, 0, none⟩), .string y.f1, .string y.f2, .int .i64 y.f3.f1] (by rfl) rfl rfl (by simp only [List.map_toArray, List.map_cons, List.map_nil]; rfl) ?_
              with_reducible refine (HBo2.out.biz HH0.out y.f1 y.f2 HQS.out y.f3.f1).mono ?_
              rintro e w13 ⟨rfl, hb3⟩
              refine ⟨_, rfl, ?_⟩
              have HBo3 := Lib.hid (HBo2.out.below hb3)
              have HQ3 := Lib.hid (block_on hb3 HQ2.out)
              have HZ3 := Lib.hid (s_trans HZ2.out hb3)
              have hz3 := held7 HQ3.out HBo3.out.box
              clear hb3
              refine hK.out _ _ ⟨hz3.1, hz3.2.1, hz3.2.2.1, hz3.2.2.2.1, hz3.2.2.2.2.1, hz3.2.2.2.2.2.1, hz3.2.2.2.2.2.2⟩ (fun hHeld => ?_)
              clear hK K
              refine norm_ (a' := ?_) ?_ ?_
              rotate_left
              · show Act.put _ (some 131) _ = _
                simp only [Act.put, List.setIfInBounds_toArray, List.set_cons_zero, List.set_cons_succ, i64_w, i32_w]
                rfl
              refine one_ (i := 29) (N := some 140) #[true, true, true, true, true, true, true, true, true, true, true, true, true, true, true, true, true, true, true, true, true, true, true, true, true, true, true, true, true, true, false, false] rfl rfl (by kernel_rfl) (by decide) (fun K hK => ?_)
              refine goes_ Try.func49 (by kernel_rfl) rfl #[.agg #[.string home, .slice A3 O3.length c3, .slice A4 L3.length c4], .string y.f1, .string y.f2, .int .i64 y.f3.f1] (by rfl) rfl rfl (by simp only [List.map_toArray, List.map_cons, List.map_nil]; rfl) ?_
              with_reducible refine (HBo3.out.dbiz y.f1 y.f2 HQS.out y.f3.f1).mono ?_
              rintro e w14 ⟨rfl, hb4⟩
              refine ⟨_, rfl, ?_⟩
              have HBo4 := Lib.hid (HBo3.out.below hb4)
              have HQ4 := Lib.hid (block_on hb4 HQ3.out)
              have HZ4 := Lib.hid (s_trans HZ3.out hb4)
              have hz4 := held7 HQ4.out HBo4.out.box
              clear hb4
              refine hK.out _ _ ⟨hz4.1, hz4.2.1, hz4.2.2.1, hz4.2.2.2.1, hz4.2.2.2.2.1, hz4.2.2.2.2.2.1, hz4.2.2.2.2.2.2⟩ (fun hHeld => ?_)
              clear hK K
              refine norm_ (a' := ?_) ?_ ?_
              rotate_left
              · show Act.put _ (some 140) _ = _
                simp only [Act.put, List.setIfInBounds_toArray, List.set_cons_zero, List.set_cons_succ, i64_w, i32_w]
                rfl
              refine pure_ (i := 30) (N := some 141) (v := ?_) (a' := ?_) #[true, true, true, true, true, true, true, true, true, true, true, true, true, true, true, true, true, true, true, true, true, true, true, true, true, true, true, true, true, true, true, false] rfl rfl (by kernel_rfl) (fun _ _ _ h => h) (Or.inl ⟨by rfl, ?_⟩) ?_ ?_
              rotate_left
              · intro w'
                go_simp
                with_reducible rfl
              rotate_left
              · simp only [Act.put, List.setIfInBounds_toArray, List.set_cons_zero, List.set_cons_succ, i64_w, i32_w]
                rfl
              refine pure_ (i := 31) (N := some 142) (v := ?_) (a' := ?_) #[true, true, true, true, true, true, true, true, true, true, true, true, true, true, true, true, true, true, true, true, true, true, true, true, true, true, true, true, true, true, true, true] rfl rfl (by kernel_rfl) (fun _ _ _ h => h) (Or.inl ⟨by rfl, ?_⟩) ?_ ?_
              rotate_left
              · intro w'
                go_simp
                with_reducible rfl
              rotate_left
              · simp only [Act.put, List.setIfInBounds_toArray, List.set_cons_zero, List.set_cons_succ, i64_w, i32_w]
                rfl
              refine done_ (by kernel_rfl) ?_
              clear hq1 hq2
              go_wp2
              go_roundw
              case rel => exact ⟨1 + 1, by omega, by first | rfl | go_num, HATG.out.below HZ4.out, block_on HZ4.out HLG.out⟩
              case measure => simp [intOf]
            · skip
              go_upto_region 32 with fail
              have HBo0 := Lib.hid (HATG.out.both (by omega))
              have hz0 := cells3 HBo0.out.box
              have hq1 : (home.toList != home.toList) = false := by simp
              clear l0_ l1_ l2_ l3_ l4_ l5_ l6_ l7_ l8_ l9_ l10_ l11_
              refine start_ (n := 12) (S := fun w' => w'.cell? ⟨w3.heap.size, 0, none⟩ = some (.string home) ∧ w'.cell? ⟨w3.heap.size, 1, none⟩ = some (.slice A3 O3.length c3) ∧ w'.cell? ⟨w3.heap.size, 2, none⟩ = some (.slice A4 L3.length c4)) (ds := []) #[false, false, false, false, false, false, false, false, false, false, false, false] (by kernel_rfl) rfl rfl ⟨hz0.1, hz0.2.1, hz0.2.2⟩ (fun hHeld => ?_)
              obtain ⟨wd, hwd⟩ : ∃ W, W = wr.drew := ⟨_, rfl⟩
              rw [← hwd] at hHeld
              rw [← hwd]
              have hdr : Below wr.heap.size wr wd := by rw [hwd]; exact s_drew (Below.refl _ _)
              have HZd := Lib.hid hdr
              have HBod := Lib.hid (HBo0.out.below hdr)
              have hzd := cells3 HBod.out.box
              clear hwd hdr
              refine pure_ (i := 0) (N := some 144) (v := ?_) (a' := ?_) #[true, false, false, false, false, false, false, false, false, false, false, false] rfl rfl (by kernel_rfl) (fun _ _ _ h => h) (Or.inl ⟨by rfl, ?_⟩) ?_ ?_
              rotate_left
              · intro w'
                go_simp
                with_reducible rfl
              rotate_left
              · simp only [Act.put, List.setIfInBounds_toArray, List.set_cons_zero, List.set_cons_succ, i64_w, i32_w]
                rfl
              refine pure_ (i := 2) (N := some 146) (v := ?_) (a' := ?_) #[true, false, true, false, false, false, false, false, false, false, false, false] rfl rfl (by kernel_rfl) (fun _ _ _ h => h) (Or.inl ⟨by rfl, ?_⟩) ?_ ?_
              rotate_left
              · intro w'
                go_simp
                with_reducible rfl
              rotate_left
              · simp only [Act.put, List.setIfInBounds_toArray, List.set_cons_zero, List.set_cons_succ, i64_w, i32_w]
                rfl
              refine one_ (i := 1) (N := some 145) #[true, true, true, false, false, false, false, false, false, false, false, false] rfl rfl (by kernel_rfl) (by decide) (fun K hK => ?_)
              refine goes_ Try.func50 (by kernel_rfl) rfl #[.pointer (some ⟨p2, 0, none⟩)] (by rfl) rfl rfl (by simp only [List.map_toArray, List.map_cons, List.map_nil]; rfl) ?_
              with_reducible refine (home_any _ wa.heap.size p2 m2 n3 home HH0.out M3 HBod.out.pp).mono ?_
              rintro e w11 ⟨rfl, rfl⟩
              refine ⟨_, rfl, ?_⟩
              refine hK.out _ _ ⟨hzd.1, hzd.2.1, hzd.2.2⟩ (fun hHeld => ?_)
              clear hK K
              refine norm_ (a' := ?_) ?_ ?_
              rotate_left
              · show Act.put _ (some 145) _ = _
                simp only [Act.put, List.setIfInBounds_toArray, List.set_cons_zero, List.set_cons_succ, i64_w, i32_w]
                rfl
              refine pure_ (i := 3) (N := some 147) (v := ?_) (a' := ?_) #[true, true, true, true, false, false, false, false, false, false, false, false] rfl rfl (by kernel_rfl) (fun _ _ _ h => h) (Or.inl ⟨by rfl, ?_⟩) ?_ ?_
              rotate_left
              · intro w'
                go_simp
                with_reducible rfl
              rotate_left
              · simp only [Act.put, List.setIfInBounds_toArray, List.set_cons_zero, List.set_cons_succ, i64_w, i32_w]
                rfl
              refine pure_ (i := 4) (N := some 148) (v := ?_) (a' := ?_) #[true, true, true, true, true, false, false, false, false, false, false, false] rfl rfl (by kernel_rfl) (fun _ _ _ h => h) (Or.inl ⟨by rfl, ?_⟩) ?_ ?_
              rotate_left
              · intro w'
                go_simp
                with_reducible rfl
              rotate_left
              · simp only [Act.put, List.setIfInBounds_toArray, List.set_cons_zero, List.set_cons_succ, i64_w, i32_w]
                rfl
              refine pure_ (i := 5) (N := some 149) (v := ?_) (a' := ?_) #[true, true, true, true, true, true, false, false, false, false, false, false] rfl rfl (by kernel_rfl) (fun _ _ _ h => h) (Or.inl ⟨by rfl, ?_⟩) ?_ ?_
              rotate_left
              · intro w'
                go_simp
                with_reducible rfl
              rotate_left
              · simp only [Act.put, List.setIfInBounds_toArray, List.set_cons_zero, List.set_cons_succ, i64_w, i32_w]
                rfl
              refine take_ (i := 7) (N := some 151) (v := ?_) (a' := ?_) #[true, true, true, true, true, true, false, true, false, false, false, false] rfl rfl (by kernel_rfl) (fun _ _ _ h => h) (Or.inl ⟨by rfl, ?_⟩) hHeld ?_ ?_
              rotate_left
              · rintro w' ⟨s0, s1, s2⟩
                go_simp
                with_reducible rfl
              rotate_left
              · simp only [Act.put, List.setIfInBounds_toArray, List.set_cons_zero, List.set_cons_succ, i64_w, i32_w]
                rfl
              refine one_ (i := 6) (N := some 150) #[true, true, true, true, true, true, true, true, false, false, false, false] rfl rfl (by kernel_rfl) (by decide) (fun K hK => ?_)
              refine goes_ Try.func43 (by kernel_rfl) rfl #[.pointer (some ⟨p2, 0, none⟩)] (by rfl) rfl rfl (by simp only [List.map_toArray, List.map_cons, List.map_nil]; rfl) ?_
              with_reducible refine (HBod.out.pp.known (by have := HBod.out.few; omega) HH0.out).mono ?_
              rintro e w12 ⟨A5, c5, rs5, rfl, hs2, hb2⟩
              refine ⟨_, rfl, ?_⟩
              have HBo2 := Lib.hid (HBod.out.below hb2)
              have HZ2 := Lib.hid (s_trans HZd.out hb2)
              have hz2 := cells3 HBo2.out.box
              have HS2' := Lib.hid hs2
              clear hs2
              clear hb2
              refine hK.out _ _ ⟨hz2.1, hz2.2.1, hz2.2.2⟩ (fun hHeld => ?_)
              clear hK K
              refine norm_ (a' := ?_) ?_ ?_
              rotate_left
              · show Act.put _ (some 150) _ = _
                simp only [Act.put, List.setIfInBounds_toArray, List.set_cons_zero, List.set_cons_succ, i64_w, i32_w]
                rfl
              refine one_ (i := 8) (N := some 152) #[true, true, true, true, true, true, true, true, true, false, false, false] rfl rfl (by kernel_rfl) (by decide) (fun K hK => ?_)
              refine goes_ Try.func51 (by kernel_rfl) rfl #[.agg #[.string home, .slice A3 O3.length c3, .slice A4 L3.length c4]] (by rfl) rfl rfl (by simp only [List.map_toArray, List.map_cons, List.map_nil]; rfl) ?_
              with_reducible refine (HBo2.out.dknown HS2'.out).mono ?_
              rintro e w13 ⟨A6, c6, rfl, hs3, hs3b, hb3⟩
              refine ⟨_, rfl, ?_⟩
              have HBo3 := Lib.hid (HBo2.out.below hb3)
              have HZ3 := Lib.hid (s_trans HZ2.out hb3)
              have hz3 := cells3 HBo3.out.box
              have HS3' := Lib.hid hs3
              have HS3b := Lib.hid hs3b
              clear hs3 hs3b
              clear hb3
              refine hK.out _ _ ⟨hz3.1, hz3.2.1, hz3.2.2⟩ (fun hHeld => ?_)
              clear hK K
              refine norm_ (a' := ?_) ?_ ?_
              rotate_left
              · show Act.put _ (some 152) _ = _
                simp only [Act.put, List.setIfInBounds_toArray, List.set_cons_zero, List.set_cons_succ, i64_w, i32_w]
                rfl
              refine one_ (i := 9) (N := some 153) #[true, true, true, true, true, true, true, true, true, true, false, false] rfl rfl (by kernel_rfl) (by decide) (fun K hK => ?_)
              refine goes_ Try.func39 (by kernel_rfl) rfl #[.slice A5 rs5.length c5, .slice A6 rs5.length c6] (by rfl) rfl rfl (by simp only [List.map_toArray, List.map_cons, List.map_nil]; rfl) ?_
              with_reducible refine (same_any HS3b.out HS3'.out (fun _ => Iff.rfl) (Nat.le_trans (HBo3.out.keys_few HS3'.out.keys) (by omega))).mono ?_
              rintro e w14 ⟨rfl, hb4⟩
              refine ⟨_, rfl, ?_⟩
              have HBo4 := Lib.hid (HBo3.out.below hb4)
              have HZ4 := Lib.hid (s_trans HZ3.out hb4)
              have hz4 := cells3 HBo4.out.box
              clear hb4
              refine hK.out _ _ ⟨hz4.1, hz4.2.1, hz4.2.2⟩ (fun hHeld => ?_)
              clear hK K
              refine norm_ (a' := ?_) ?_ ?_
              rotate_left
              · show Act.put _ (some 153) _ = _
                simp only [Act.put, List.setIfInBounds_toArray, List.set_cons_zero, List.set_cons_succ, i64_w, i32_w]
                rfl
              refine pure_ (i := 10) (N := some 154) (v := ?_) (a' := ?_) #[true, true, true, true, true, true, true, true, true, true, true, false] rfl rfl (by kernel_rfl) (fun _ _ _ h => h) (Or.inl ⟨by rfl, ?_⟩) ?_ ?_
              rotate_left
              · intro w'
                go_simp
                with_reducible rfl
              rotate_left
              · simp only [Act.put, List.setIfInBounds_toArray, List.set_cons_zero, List.set_cons_succ, i64_w, i32_w]
                rfl
              refine pure_ (i := 11) (N := some 155) (v := ?_) (a' := ?_) #[true, true, true, true, true, true, true, true, true, true, true, true] rfl rfl (by kernel_rfl) (fun _ _ _ h => h) (Or.inl ⟨by rfl, ?_⟩) ?_ ?_
              rotate_left
              · intro w'
                go_simp
                with_reducible rfl
              rotate_left
              · simp only [Act.put, List.setIfInBounds_toArray, List.set_cons_zero, List.set_cons_succ, i64_w, i32_w]
                rfl
              refine done_ (by kernel_rfl) ?_
              clear hq1
              go_wp2
              go_roundw
              case rel => exact ⟨k + 1, p2, m2, n3, wa.heap.size, M3, O3, L3, A3, c3, A4, c4, by omega, by go_num, rfl, HATG.out.below HZ4.out⟩
              case measure => simp [intOf]; omega
end Go.Proofs.Ytbjoegladcmibaa.Pe
