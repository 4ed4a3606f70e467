/-
  PeopleThird: the walk of the law.
-/
import Derived.Test.YtbjoegladcmibaaPe6
import Derived.Test.YtbjoegladcmibaaPl2
import Derived.Test.YtbjoegladcmibaaZPeopleSetsx1
import Derived.Test.YtbjoegladcmibaaZPeopleSetsx11
import Derived.Deep.DeepCutAuto
namespace Go.Proofs.Ytbjoegladcmibaa.Pe
set_option linter.unusedVariables false
set_option linter.unusedSimpArgs false
set_option linter.unnecessarySimpa false
open Go.RowKit Go.Maps Go.Proofs.YtbjoegladcmibaaK Go.Proofs.Ytbjoegladcmibaa.ZPeopleSets Go.Proofs.YtbjoegladcmibaaW.PrintWords Go.Proofs.YtbjoegladcmibaaW.PrintLast Go.Proofs.Ytbjoegladcmibaa.Vi Go.Proofs.Ytbjoegladcmibaa.Ln Go.Proofs.Ytbjoegladcmibaa.Pl

theorem mem_size {c : ByteArray} (h : memB c = true) : c.size = 2 := by
  rw [mem_b, List.any_eq_true] at h
  obtain ⟨x, hx, e⟩ := h
  have e' : c = x := of_decide_eq_true e
  subst e'
  have ha : mems.all (fun c => decide (c.size = 2)) = true := by kernel_rfl
  exact of_decide_eq_true (List.all_eq_true.1 ha c hx)
theorem base_on {B : Nat} {w w1 : World} {g : Nat} {x : Obj} (h : Below B w w1) (hg : w.heap[g]? = some x) (hl : g < B) : w1.heap[g]? = some x := (h.block g hl).trans hg
theorem light_sizes {l : List S42} {x : S42} (h : lightB l x = true) : (∀ y ∈ l, y.f1.size ≤ 100 ∧ y.f2.size ≤ 100) ∧ (x.f1.size ≤ 100 ∧ x.f2.size ≤ 100) ∧ l.length ≤ 40 := by
  unfold lightB at h
  rw [Bool.and_eq_true, List.all_eq_true] at h
  have hok : ∀ y, okB y = true → y.f1.size ≤ 100 ∧ y.f2.size ≤ 100 := fun y hy => by
    unfold okB at hy
    rw [Bool.and_eq_true] at hy
    exact ⟨of_decide_eq_true hy.1, of_decide_eq_true hy.2⟩
  exact ⟨fun y hy => hok y (h.1 y (List.mem_append.2 (Or.inl hy))), hok x (h.1 x (List.mem_append.2 (Or.inr (List.mem_singleton.2 rfl)))), of_decide_eq_true h.2⟩
set_option maxRecDepth 100000 in
set_option maxHeartbeats 8000000 in
theorem third_any (w : World) (home : ByteArray) (A0 : Option Addr) (c0 : Nat) (l0 : List S42) (xk : Int) (xc xn : ByteArray) (xf xu xx : Int) (hr0 : Kd.C k42 w A0 l0.length l0) (hc0 : l0.length ≤ c0) (hl : (l0.length + 1) * 64 ≤ 140737488355328) :
    Calls Try.prog 4 #[.string home, .slice A0 l0.length c0, .agg #[.int .i64 xk, .string xc, .string xn, .int .i64 xf, .int .i64 xu, .int .i64 xx]] w fun e w' => e = .returned (.bool true) ∧ Below w.heap.size w w' := by
  have HR0 := Lib.hid hr0
  have hli := fun wx (hx : Kd.C k42 wx A0 l0.length l0) => light_any wx A0 c0 l0 xk xc xn xf xu xx hx hc0 hl
  have hmh := fun wx => octroiref07_Member.calls 500 home (memB home) wx (member_r home 500 rfl)
  have hsz := @light_sizes l0 ⟨xk, xc, xn, ⟨xf, xu, xx⟩⟩
  have hB0 : Below w.heap.size w (w.alloc (.cells #[.int .i64 xk, .string xc, .string xn, .int .i64 xf, .int .i64 xu, .int .i64 xx] 42)) := s_alloc (Below.refl _ _) _
  have hX0 : (w.alloc (.cells #[.int .i64 xk, .string xc, .string xn, .int .i64 xf, .int .i64 xu, .int .i64 xx] 42)).heap[w.heap.size]? = some (.cells #[.int .i64 xk, .string xc, .string xn, .int .i64 xf, .int .i64 xu, .int .i64 xx] 42 (0, 0)) := Array.getElem?_push_size
  have HB0 := Lib.hid hB0
  have HX0 := Lib.hid hX0
  clear hr0 hB0 hX0
  generalize lightB l0 ⟨xk, xc, xn, ⟨xf, xu, xx⟩⟩ = LB at *
  have HLI := Lib.hid hli
  have HMH := Lib.hid hmh
  have HSZ := Lib.hid hsz
  clear hli hmh hsz
  by_cases hgo : LB = true ∧ memB home = true
  · obtain ⟨hg1, hg2⟩ := hgo
    subst hg1
    have hms := mem_size hg2
    have HH0 := Lib.hid (by omega : home.size ≠ 0)
    obtain ⟨hs1, ⟨hs2, hs3⟩, hs4⟩ := HSZ.out rfl
    dsimp only at hs2 hs3
    have hnew := fun wx => new_any wx home hg2
    rw [hg2] at HMH
    have HNEW := Lib.hid hnew
    have HG2 := Lib.hid hg2
    have HS1 := Lib.hid hs1
    have HS2 := Lib.hid hs2
    have HS3 := Lib.hid hs3
    have HS4 := Lib.hid hs4
    clear hnew hg2 hs1 hs2 hs3 hs4 hms HSZ
    go_enter Try.func4, Try.ntmps4
    go_wp2_with (first
      | (go_at_call 16; refine (HLI.out _ (Kd.C_below HR0.out HB0.out)).mono ?_; rintro e w1 ⟨rfl, hb⟩; have HB1 := Lib.hid (s_trans HB0.out hb); have HX1 := Lib.hid (block_on hb HX0.out); clear hb)
      | (go_at_call 17; refine (HMH.out _).mono ?_; rintro e w2 ⟨rfl, hb⟩; have HB2 := Lib.hid (s_trans HB1.out hb); have HX2 := Lib.hid (block_on hb HX1.out); clear hb)
      | (go_at_call 19; refine (HNEW.out _).mono ?_; rintro e w3 ⟨p, m, g0, rfl, hp, hb⟩; have HP3 := Lib.hid hp; have HB3 := Lib.hid (s_trans HB2.out hb); have HX3 := Lib.hid (block_on hb HX2.out); have HS3' := Lib.hid hb.size; clear hp hb))
    go_loopw [27] (fun i wr => ∃ (k n : Nat) (M : PM), k ≤ l0.length ∧ i = .int .i64 k ∧ n ≤ k ∧ Hid (Pp wr w2.heap.size p m n home M) ∧ Hid (Below w.heap.size w wr) ∧ Hid (w2.heap.size ≤ wr.heap.size) ∧ Hid (wr.heap[w.heap.size]? = some (.cells #[.int .i64 xk, .string xc, .string xn, .int .i64 xf, .int .i64 xu, .int .i64 xx] 42 (0, 0)))) (fun i _ => l0.length - (intOf i).toNat)
    case atStart => exact ⟨0, 0, _, Nat.zero_le _, rfl, Nat.le_refl _, HP3, HB3, HS3', HX3⟩
    case round =>
      obtain ⟨k, n, M, hk, rfl, hnk, HP, HBr, HSr, HXr⟩ := hrel
      by_cases hkn : k = l0.length
      · subst hkn
        have hbz := biz_any wr w2.heap.size p m n home HH0.out M HP.out xc xn (by have := HS2.out; have := HS3.out; omega) xf
        have hrt := fun wx => octroiref07_Right.calls 110000 xc xn (ridB xc xn) wx (right_f xc xn (by have := HS3.out; omega) (Nat.le_refl _))
        have hmc := fun wx => octroiref07_Member.calls 500 xc (memB xc) wx (member_r xc 500 rfl)
        have hthree : (ridB xc xn = false ∧ bizB home M xc xn xf = false) ∨ (ridB xc xn = true ∧ bizB home M xc xn xf = true) ∨ (ridB xc xn = true ∧ bizB home M xc xn xf = false ∧ memB xc = true ∧ (xc.toList == home.toList) = false) := by
          unfold bizB
          cases ridB xc xn
          · exact Or.inl ⟨rfl, rfl⟩
          · rw [if_pos rfl]
            by_cases hz : xc = home ∨ memB xc = false
            · rw [if_pos hz]; exact Or.inr (Or.inl ⟨rfl, rfl⟩)
            · rw [if_neg hz]
              cases heldB (cont M (some (xc ++ xn))) xf
              · refine Or.inr (Or.inr ⟨rfl, rfl, by simpa using fun e => hz (Or.inr e), ?_⟩)
                rw [ba_beq]
                exact decide_eq_false (fun e => hz (Or.inl e))
              · exact Or.inr (Or.inl ⟨rfl, rfl⟩)
        generalize ridB xc xn = R at *
        generalize bizB home M xc xn xf = BZ at *
        generalize memB xc = MB at *
        have HBZ := Lib.hid hbz
        have HRT := Lib.hid hrt
        have HMC := Lib.hid hmc
        obtain ⟨x0, x1, x2, x3, x4, x5⟩ := cells6 HXr.out
        clear hbz hrt hmc
        rcases hthree with ⟨rfl, rfl⟩ | ⟨rfl, rfl⟩ | ⟨rfl, rfl, rfl, heq⟩
        all_goals
          go_wp2_with (first
            | (go_at_call 21; refine HBZ.out.mono ?_; rintro e w4 ⟨rfl, hb⟩; have HB4 := Lib.hid (s_trans HBr.out hb); have HX4 := Lib.hid (block_on hb HXr.out); obtain ⟨x0, x1, x2, x3, x4, x5⟩ := cells6 HX4.out; clear hb)
            | (go_at_call 22; refine (HRT.out _).mono ?_; rintro e w5 ⟨rfl, hb⟩; have HB5 := Lib.hid (s_trans HB4.out hb); have HX5 := Lib.hid (block_on hb HX4.out); obtain ⟨x0, x1, x2, x3, x4, x5⟩ := cells6 HX5.out; clear hb)
            | (go_at_call 17; refine (HMC.out _).mono ?_; rintro e w6 ⟨rfl, hb⟩; have HB6 := Lib.hid (s_trans HB5.out hb); have HX6 := Lib.hid (block_on hb HX5.out); obtain ⟨x0, x1, x2, x3, x4, x5⟩ := cells6 HX6.out; clear hb)
            | (go_at_call 18; refine (lives_any _).mono ?_; rintro e w7 ⟨rfl, hb⟩; have HB7 := Lib.hid (by first | exact s_trans HB6.out hb | exact s_trans HB5.out hb : Below w.heap.size w w7); clear hb))
          go_ret
          exact ⟨rfl, HB7.out⟩
      · have hlt : k < l0.length := by omega
        obtain ⟨ad0, e0, q0, q1, q2, q3, q4, q5⟩ := at_T42 (Kd.C_below HR0.out HBr.out) (k : Int) (by omega) (by omega)
        have hy : rd_T42 l0 (k : Int) = l0[k] := by unfold rd_T42; rw [Int.toNat_natCast, List.getD_eq_getElem?_getD, List.getElem?_eq_getElem hlt]; rfl
        obtain ⟨hy1, hy2⟩ := HS1.out l0[k] (List.getElem_mem hlt)
        rw [hy] at q0 q1 q2 q3 q4 q5
        rw [Int.toNat_natCast] at q0 q1 q2 q3 q4 q5
        cases e0
        generalize l0[k] = y at *
        clear hy
        have hbk := HS4.out
        have hst := fun wx (hx : Pp wx w2.heap.size p m n home M) (hs : w2.heap.size ≤ wx.heap.size) => status_any wx w2.heap.size p m n home HH0.out M hx hs (by unfold maxLen; omega) y.f1 y.f2 (by omega) y.f3.f0 y.f3.f1
        have HST := Lib.hid hst
        clear hst hy1 hy2
        go_wp2_with (go_at_call 20; refine (HST.out _ (HP.out.below (s_alloc (Below.refl _ _) _)) (by have := HSr.out; simp; omega)).mono ?_; rintro e w4 ⟨rfl, ⟨M', hp, _⟩, hb⟩; have HP4 := Lib.hid hp; have HB4 := Lib.hid (b_trans (s_alloc HBr.out _) (b_less hb (by have := HB2.out.size; exact this))); have HS4' := Lib.hid (Nat.le_trans (Nat.le_trans HSr.out (by simp)) hb.size); have HX4 := Lib.hid (base_on hb (block_alloc HXr.out _) (by have := block_lt HX2.out; omega)); clear hp hb)
        go_roundw
        case rel => exact ⟨k + 1, n + 1, M', by omega, by first | rfl | simp, by omega, HP4, HB4, HS4', HX4⟩
        case measure => simp [intOf]; omega
  · have hcase : LB = false ∨ (LB = true ∧ memB home = false) := by
      cases LB
      · exact Or.inl rfl
      · exact Or.inr ⟨rfl, by simpa using fun e => hgo ⟨rfl, e⟩⟩
    clear hgo HSZ
    rcases hcase with rfl | ⟨rfl, hm⟩
    · go_enter Try.func4, Try.ntmps4
      go_wp2_with (first
        | (go_at_call 16; refine (HLI.out _ (Kd.C_below HR0.out HB0.out)).mono ?_; rintro e w1 ⟨rfl, hb⟩; have HB1 := Lib.hid (s_trans HB0.out hb); clear hb)
        | (go_at_call 18; refine (lives_any _).mono ?_; rintro e w7 ⟨rfl, hb⟩; have HB7 := Lib.hid (s_trans HB1.out hb); clear hb))
      go_ret
      exact ⟨rfl, HB7.out⟩
    · rw [hm] at HMH
      clear hm
      go_enter Try.func4, Try.ntmps4
      go_wp2_with (first
        | (go_at_call 16; refine (HLI.out _ (Kd.C_below HR0.out HB0.out)).mono ?_; rintro e w1 ⟨rfl, hb⟩; have HB1 := Lib.hid (s_trans HB0.out hb); clear hb)
        | (go_at_call 17; refine (HMH.out _).mono ?_; rintro e w2 ⟨rfl, hb⟩; have HB2 := Lib.hid (s_trans HB1.out hb); clear hb)
        | (go_at_call 18; refine (lives_any _).mono ?_; rintro e w7 ⟨rfl, hb⟩; have HB7 := Lib.hid (s_trans HB2.out hb); clear hb))
      go_ret
      exact ⟨rfl, HB7.out⟩
end Go.Proofs.Ytbjoegladcmibaa.Pe
