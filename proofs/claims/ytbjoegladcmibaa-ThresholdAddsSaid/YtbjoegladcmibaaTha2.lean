import Derived.Test.YtbjoegladcmibaaTha1
import Derived.BigGuardPart
namespace Go.Proofs.Ytbjoegladcmibaa.Thr
set_option linter.unusedVariables false
set_option linter.unusedSimpArgs false
set_option linter.unnecessarySimpa false
open Go.RowKit Go.Maps Go.Proofs.YtbjoegladcmibaaK Go.Proofs.Ytbjoegladcmibaa.Money

theorem lim_any (n : Int) (w : World) : Calls Try.prog 74 #[.int .i64 n] w fun e w' => e = .returned (.bool (decide (1000000 < n))) ∧ w = w' := by
  go_enter Try.func74, Try.ntmps74
  go_wp2
  go_ret
  exact ⟨rfl, rfl⟩

theorem ret_bt {a b : Bool} {n : Int} (h : a = b) : Ending.returned (.tuple #[.bool a, .int .i64 n]) = .returned (.tuple #[.bool b, .int .i64 n]) := by rw [h]

def overB (T : Int → Int) (y a : Int) (o : Bool) : Bool := if withE T y a = 0 then (o || decide (1000000 < withV T y a) || decide (1000000 < T (y - 1))) else false

theorem wf64 {n : Int} (h1 : -9223372036854775808 ≤ n) (h2 : n ≤ 9223372036854775807) : (Lit.int .i64 n).wf = true := WalkArith.wf_i64 ⟨h1, h2⟩

set_option maxRecDepth 100000 in
set_option maxHeartbeats 2000000 in
theorem over_any (w : World) (g m n : Nat) (T : Int → Int) {K : Int → Bool} (h : Tot w g m n T K) (y a : Int) (o : Bool) (hy : (Lit.int .i64 y).wf = true) :
    Calls Try.prog 30 #[.pointer (some ⟨g, 0, none⟩), .int .i64 y, .int .i64 a, .bool o] w fun e w' => e = .returned (.tuple #[.bool (overB T y a o), .int .i64 (withE T y a)]) ∧ Below w.heap.size w w' := by
  have H := Lib.hid h
  have hw := fun wx (hx : Tot wx g m n T K) => with_any wx g m n T hx y a hy
  have hr : withE T y a = 0 → 1970 ≤ y ∧ y ≤ 9999 := fun e => by
    unfold withE at e
    split at e
    · assumption
    · omega
  have ho : overB T y a o = (if withE T y a = 0 then (o || decide (1000000 < withV T y a) || decide (1000000 < T (y - 1))) else false) := rfl
  generalize overB T y a o = B at *
  generalize withV T y a = V at *
  generalize withE T y a = E at *
  have HW := Lib.hid hw
  clear h hw
  by_cases hE : E = 0
  · subst hE
    obtain ⟨r1, r2⟩ := hr rfl
    rw [if_pos rfl] at ho
    have hlk := fun wx (hx : Tot wx g m n T K) => hx.look (y - 1) (wf64 (by omega) (by omega))
    have HL := Lib.hid hlk
    clear hr hlk
    generalize T (y - 1) = P at *
    have HO := Lib.hid ho
    clear ho
    by_cases h1 : 1000000 < V
    all_goals
      cases o
      all_goals
        go_enter Try.func30, Try.ntmps30
        go_wp2_with (first
          | (go_at_call 70; refine (HW.out _ H.out).mono ?_; rintro e w1 ⟨rfl, hb1⟩; have H1 := Lib.hid (H.out.below hb1); have hc1 := cells1 H1.out.box; have hl1 := HL.out _ H1.out; have HB1 := Lib.hid hb1; clear hb1)
          | (go_at_call 74; refine (lim_any _ _).mono ?_; rintro e w2 ⟨rfl, rfl⟩))
        all_goals
          go_ret2
          refine ⟨ret_bt ?_, HB1.out⟩
          rw [HO.out]
          first | (simp [h1]; done) | (simp [h1]; omega)
  · have hE' : (E != 0) = true := by simpa using hE
    rw [if_neg hE] at ho
    subst ho
    go_enter Try.func30, Try.ntmps30
    go_wp2_with (go_at_call 70; refine (HW.out _ H.out).mono ?_; rintro e w1 ⟨rfl, hb1⟩; have H1 := Lib.hid (H.out.below hb1); have HB1 := Lib.hid hb1; clear hb1)
    go_ret2
    exact ⟨rfl, HB1.out⟩

theorem new_any (w : World) : Calls Try.prog 24 #[] w fun e w' => e = .returned (.pointer (some ⟨w.heap.size + 1, 0, none⟩)) ∧ Tot w' (w.heap.size + 1) w.heap.size 0 (fun _ => 0) (fun _ => false) ∧ Below w.heap.size w w' := by
  have hmm := @run_makeMap Try.prog
  go_enter Try.func24, Try.ntmps24
  go_wp2
  go_ret
  refine ⟨rfl, ⟨?_, ⟨.map [], (World.ownsMap_made _ _ _ _).alloc _, isMap_empty, fun y _ => rfl, fun y _ => rfl⟩, by omega⟩, s_alloc ((Below.refl _ _).alloc (Nat.le_refl _) _) _⟩
  have : (w.alloc (.map #[] 0)).heap.size = w.heap.size + 1 := by simp
  rw [← this]
  exact Array.getElem?_push_size


def T0 : Int → Int := fun _ => 0
def T1 : Int → Int := upd T0 2022 600000

theorem lives_a : withE T0 2022 600000 = 0 ∧ withV T0 2022 600000 = 600000 ∧ overB T1 2022 400000 false = false ∧ withE T1 2022 400000 = 0 ∧ overB T1 2022 400001 false = true ∧ withE T1 2022 400001 = 0 ∧ T1 2022 = 600000 := by
  refine ⟨?_, ?_, ?_, ?_, ?_, ?_, ?_⟩ <;> decide +kernel

set_option maxRecDepth 100000 in
set_option maxHeartbeats 2000000 in
theorem lives_any (w : World) : Calls Try.prog 23 #[] w fun e w' => e = .returned (.bool true) ∧ Below w.heap.size w w' := by
  obtain ⟨a1, a2, a3, a4, a5, a6, a7⟩ := lives_a
  have y22 : (Lit.int .i64 2022).wf = true := wf64 (by omega) (by omega)
  have hadd := fun wx g m n (K : Int → Bool) (hx : Tot wx g m n T0 K) (hn : n < maxLen) => add_any wx g m n T0 hx 2022 600000 y22 hn (by rw [a2]; exact wf64 (by omega) (by omega))
  simp only [a1, a2, if_pos] at hadd
  have hov1 := fun wx g m n (K : Int → Bool) (hx : Tot wx g m n T1 K) => over_any wx g m n T1 hx 2022 400000 false y22
  rw [a3, a4] at hov1
  have hov2 := fun wx g m n (K : Int → Bool) (hx : Tot wx g m n T1 K) => over_any wx g m n T1 hx 2022 400001 false y22
  rw [a5, a6] at hov2
  have hof := fun wx g m n (K : Int → Bool) (hx : Tot wx g m n T1 K) => tof_any wx g m n T1 hx 2022 y22
  rw [a7] at hof
  have HA := Lib.hid hadd
  have HO1 := Lib.hid hov1
  have HO2 := Lib.hid hov2
  have HF := Lib.hid hof
  clear hadd hov1 hov2 hof a1 a2 a3 a4 a5 a6 a7 y22
  go_enter Try.func23, Try.ntmps23
  go_wp2_with (go_at_call 24; refine (new_any _).mono ?_; rintro e w1 ⟨rfl, ht1, hb1⟩; have HT1 := Lib.hid ht1; have HB1 := Lib.hid hb1; clear ht1 hb1)
  refine (HA.out _ _ _ _ _ HT1.out (by unfold maxLen; omega)).mono ?_
  rintro e w2 ⟨rfl, ht2, hg2⟩
  have HT2 := Lib.hid ht2
  have HB2 := Lib.hid (HB1.out.grown hg2 HB1.out.size (fun j hj => by cases hj; exact Nat.le_refl _))
  clear ht2 hg2
  go_wp2_with fail
  refine (HO1.out _ _ _ _ _ HT2.out).mono ?_
  rintro e w3 ⟨rfl, hb3⟩
  have HT3 := Lib.hid (HT2.out.below hb3)
  have HB3 := Lib.hid (s_trans HB2.out hb3)
  clear hb3
  go_wp2_with fail
  refine (HO2.out _ _ _ _ _ HT3.out).mono ?_
  rintro e w4 ⟨rfl, hb4⟩
  have HT4 := Lib.hid (HT3.out.below hb4)
  have HB4 := Lib.hid (s_trans HB3.out hb4)
  clear hb4
  go_wp2_with (go_at_call 27; refine (HF.out _ _ _ _ _ HT4.out).mono ?_; rintro e w5 ⟨rfl, rfl⟩)
  go_ret
  exact ⟨rfl, HB4.out⟩

end Go.Proofs.Ytbjoegladcmibaa.Thr
