import Derived.Test.YtbjoegladcmibaaM0
import Derived.Test.YtbjoegladcmibaaK2
import Derived.Laws.Externs
import Derived.Laws.StructEq
import Derived.Laws.Cover2
namespace Go.Proofs.Ytbjoegladcmibaa.Money
set_option linter.unusedVariables false
set_option linter.unusedSimpArgs false
open Go.RowKit Go.Proofs.YtbjoegladcmibaaK

theorem ret_b {a b : Bool} (h : a = true ↔ b = true) : Ending.returned (.bool a) = .returned (.bool b) := by
  cases a <;> cases b <;> simp_all

theorem add64_run (x y c : Int) (hx : 0 ≤ x) (hy : 0 ≤ y) (hc0 : 0 ≤ c) (hc : c ≤ 1) (w : World) :
    (callFunc 177 #[.int .u64 x, .int .u64 y, .int .u64 c]).run Try.prog w = .ok (.value (.tuple #[.int .u64 (sumB x y c), .int .u64 (carB x y c)])) w := by
  rw [run_callFunc_extern Try.func177 (by kernel_rfl) (by kernel_rfl) (by kernel_rfl) (e := add64Entry) (by kernel_rfl), run_add64 x y c hx hy hc0 hc]
  rfl

theorem mmay_any (a : Int) (w : World) : Calls Try.prog 171 #[.int .i64 a] w fun e w' => e = .returned (.bool (mayM a)) ∧ w = w' := by
  go_enter Try.func171, Try.ntmps171
  go_wp2
  all_goals
    go_ret
    refine ⟨ret_b ?_, rfl⟩
    rw [mayM_iff]
    simp only [Bool.or_eq_true, Bool.and_eq_true, beq_iff_eq, Bool.false_eq_true, true_iff, false_iff, decide_eq_true_eq]
    omega

theorem plus_any (a0 a1 b0 b1 : Int) (w : World) (h1 : 0 ≤ a0) (h2 : 0 ≤ a1) (h3 : 0 ≤ b0) (h4 : 0 ≤ b1) (h5 : 0 ≤ carB a0 b0 0 ∧ carB a0 b0 0 ≤ 1) :
    Calls Try.prog 172 #[.agg #[.int .u64 a0, .int .u64 a1], .agg #[.int .u64 b0, .int .u64 b1]] w fun e w' => e = .returned (.agg #[.int .u64 (sumB a0 b0 0), .int .u64 (sumB a1 b1 (carB a0 b0 0))]) ∧ Below w.heap.size w w' := by
  have hA := fun w => add64_run a0 b0 0 h1 h3 (by omega) (by omega) w
  have hB := fun w => add64_run a1 b1 (carB a0 b0 0) h2 h4 h5.1 h5.2 w
  clear h5
  go_enter Try.func172, Try.ntmps172
  go_wp2
  exact bodyPost_ret (v := .agg #[.int .u64 (sumB a0 b0 0), .int .u64 (sumB a1 b1 (carB a0 b0 0))]) (by simp [results, Try.results172, go_sem]) rfl ⟨rfl, s_alloc (s_alloc (s_alloc (Below.refl _ _) _) _) _⟩

theorem of_any (a : Int) (w : World) (ha : -9223372036854775808 ≤ a ∧ a ≤ 9223372036854775807) :
    Calls Try.prog 173 #[.int .i64 a] w fun e w' => e = .returned (.agg #[.int .u64 (loB a), .int .u64 (hiB a)]) ∧ Below w.heap.size w w' := by
  obtain ⟨h1, h2⟩ := ha
  have hw : IntKind.u64.wrap a = loB a := by rw [IntKind.wrap_u64]; rfl
  by_cases h : a < 0
  · have q := of_hi a h1 h2 h
    have Hw := Lib.hid hw
    have Q := Lib.hid q
    clear hw q
    go_enter Try.func173, Try.ntmps173
    go_wp2
    exact bodyPost_ret (v := .agg #[.int .u64 (IntKind.u64.wrap a), .int .u64 18446744073709551615]) (by simp [results, Try.results173, go_sem]) rfl ⟨by rw [Hw.out, Q.out], s_alloc (s_alloc (Below.refl _ _) _) _⟩
  · have q := of_lo a h1 h2 (by omega)
    have Q := Lib.hid q
    clear hw q
    go_enter Try.func173, Try.ntmps173
    go_wp2
    exact bodyPost_ret (v := .agg #[.int .u64 a, .int .u64 0]) (by simp [results, Try.results173, go_sem]) rfl ⟨by rw [Q.out.1, Q.out.2], s_alloc (s_alloc (Below.refl _ _) _) _⟩

theorem eq_wide (a b c d : Int) (w : World) : (Op.equalIn 10000 215 (.agg #[.int .u64 a, .int .u64 b]) (.agg #[.int .u64 c, .int .u64 d])).run Try.prog w = .ok (a == c && b == d) w := by
  have u3 := Try.underlying196
  have a3 := Try.isAgg196
  have z3 := Try.sizeOf196
  rw [show (10000 : Nat) = 9999 + 1 from rfl, Op.equalIn]
  simp only [Sem.run_bind, run_underlying Try.underlying215, Result.andThen_ok]
  simp only [Std.Legacy.Range.forIn_eq_forIn_range', Std.Legacy.Range.size, Nat.sub_zero, Nat.add_sub_cancel, Nat.div_one, List.range'_succ, List.range'_zero, List.forIn_cons, List.forIn_nil]
  go_simp
  by_cases h1 : a = c <;> by_cases h2 : b = d <;> simp [h1, h2]

theorem wrap_nar (s : Int) : wrap64 (loB s) = narB s := by unfold wrap64 loB narB; omega

def toldV (s : Int) : Int := if mayM s = true then s else 0
def toldE (s : Int) : Int := if mayM s = true then 0 else 3

set_option maxHeartbeats 1000000 in
theorem told_in (s : Int) (w : World) (hs : -9223372036854775808 ≤ s ∧ s ≤ 9223372036854775807) :
    Calls Try.prog 174 #[.agg #[.int .u64 (loB s), .int .u64 (hiB s)]] w fun e w' => e = .returned (.tuple #[.int .i64 (toldV s), .int .i64 (toldE s)]) ∧ Below w.heap.size w w' := by
  have hn : wrap64 (loB s) = s := by rw [wrap_nar, nar_in s hs.1 hs.2]
  have hc := fun w => of_any s w hs
  generalize loB s = a0 at *
  generalize hiB s = a1 at *
  have Hn := Lib.hid hn
  have Hc := Lib.hid hc
  have hq := eq_wide a0 a1 a0 a1
  clear hn hc
  go_enter Try.func174, Try.ntmps174
  go_wp2_with fail
  rw [Hn.out]
  obtain ⟨W1, hW⟩ : ∃ W, W = w.alloc (.cells #[.int .u64 a0, .int .u64 a1] 215) := ⟨_, rfl⟩
  rw [← hW]
  have hb := s_alloc (Below.refl w.heap.size w) (.cells #[.int .u64 a0, .int .u64 a1] 215)
  rw [← hW] at hb
  have c0 : W1.cell? ⟨w.heap.size, 0, none⟩ = some (.int .u64 a0) := by rw [hW]; simp
  have c1 : W1.cell? ⟨w.heap.size, 1, none⟩ = some (.int .u64 a1) := by rw [hW]; simp
  have hlt : w.heap.size < W1.heap.size := by rw [hW]; simp
  have HB := Lib.hid hb
  have hcu := fun (u : Sub W1) => sub_cell u
  clear hW hb
  refine wp_region_sub (by kernel_rfl) (by kernel_rfl) ?_
  repeat (go_big_quiet_step ((go_at_call 173; exact calls_sub (Hc.out _))))
  refine wpQuiet_nil ?_
  rintro _ ⟨u, rfl⟩
  have hu := Lib.hid u.property
  generalize u.val = w3 at *
  clear hcu u c0 c1
  have hm : toldV s = (if mayM s = true then s else 0) ∧ toldE s = (if mayM s = true then 0 else 3) := ⟨rfl, rfl⟩
  have hmay := fun w => mmay_any s w
  cases hM : mayM s
  all_goals
    rw [hM] at hm hmay
    obtain ⟨e1, e2⟩ := hm
    have E1 := Lib.hid e1
    have E2 := Lib.hid e2
    have Hmay := Lib.hid hmay
    clear e1 e2 hM hmay
    go_wp2_with (go_at_call 171; refine (Hmay.out _).mono ?_; rintro e w4 ⟨rfl, rfl⟩)
    go_ret2
    exact ⟨by rw [E1.out, E2.out]; rfl, s_trans HB.out hu.out⟩

theorem lo_nar (s : Int) : loB (narB s) = loB s := by unfold loB narB; omega

set_option maxHeartbeats 1000000 in
theorem told_out (s : Int) (w : World) (h1 : -170141183460469231731687303715884105728 ≤ s) (h2 : s < 170141183460469231731687303715884105728) (hs : ¬ (-9223372036854775808 ≤ s ∧ s ≤ 9223372036854775807)) :
    Calls Try.prog 174 #[.agg #[.int .u64 (loB s), .int .u64 (hiB s)]] w fun e w' => e = .returned (.tuple #[.int .i64 (toldV s), .int .i64 (toldE s)]) ∧ Below w.heap.size w w' := by
  have hn : wrap64 (loB s) = narB s := wrap_nar s
  have hc := fun w => of_any (narB s) w (nar_bd s)
  rw [lo_nar] at hc
  have hne : hiB s ≠ hiB (narB s) := fun h => hs (by have := nar_same s h1 h2 (lo_nar s).symm h; rw [← this]; exact nar_bd s)
  have hM : mayM s = false := by rw [mayM_not]; omega
  have e1 : toldV s = 0 := by simp [toldV, hM]
  have e2 : toldE s = 3 := by simp [toldE, hM]
  rw [e1, e2]
  clear e1 e2 hM h1 h2 hs
  have hq := fun w => eq_wide (loB s) (hiB s) (loB s) (hiB (narB s)) w
  have hf : (loB s == loB s && hiB s == hiB (narB s)) = false := by simp [hne]
  rw [hf] at hq
  clear hf hne
  generalize loB s = a0 at *
  generalize hiB s = a1 at *
  generalize hiB (narB s) = b1 at *
  generalize narB s = n at *
  have Hn := Lib.hid hn
  have Hc := Lib.hid hc
  clear hn hc
  go_enter Try.func174, Try.ntmps174
  go_wp2_with fail
  rw [Hn.out]
  obtain ⟨W1, hW⟩ : ∃ W, W = w.alloc (.cells #[.int .u64 a0, .int .u64 a1] 215) := ⟨_, rfl⟩
  rw [← hW]
  have hb := s_alloc (Below.refl w.heap.size w) (.cells #[.int .u64 a0, .int .u64 a1] 215)
  rw [← hW] at hb
  have c0 : W1.cell? ⟨w.heap.size, 0, none⟩ = some (.int .u64 a0) := by rw [hW]; simp
  have c1 : W1.cell? ⟨w.heap.size, 1, none⟩ = some (.int .u64 a1) := by rw [hW]; simp
  have hlt : w.heap.size < W1.heap.size := by rw [hW]; simp
  have HB := Lib.hid hb
  have hcu := fun (u : Sub W1) => sub_cell u
  clear hW hb
  refine wp_region_sub (by kernel_rfl) (by kernel_rfl) ?_
  repeat (go_big_quiet_step ((go_at_call 173; exact calls_sub (Hc.out _))))
  refine wpQuiet_nil ?_
  rintro _ ⟨u, rfl⟩
  have hu := Lib.hid u.property
  generalize u.val = w3 at *
  clear hcu u c0 c1
  go_wp2
  go_ret2
  exact ⟨rfl, s_trans HB.out hu.out⟩

theorem told_any (s : Int) (w : World) (h1 : -170141183460469231731687303715884105728 ≤ s) (h2 : s < 170141183460469231731687303715884105728) :
    Calls Try.prog 174 #[.agg #[.int .u64 (loB s), .int .u64 (hiB s)]] w fun e w' => e = .returned (.tuple #[.int .i64 (toldV s), .int .i64 (toldE s)]) ∧ Below w.heap.size w w' := by
  by_cases hs : -9223372036854775808 ≤ s ∧ s ≤ 9223372036854775807
  · exact told_in s w hs
  · exact told_out s w h1 h2 hs

end Go.Proofs.Ytbjoegladcmibaa.Money
