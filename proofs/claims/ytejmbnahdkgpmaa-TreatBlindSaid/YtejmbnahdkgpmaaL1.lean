import Derived.Test.YtejmbnahdkgpmaaT9
import Derived.Test.YtejmbnahdkgpmaaK
import Derived.Test.YtejmbnahdkgpmaaT8
namespace Go.Proofs.Ytejmbnahdkgpmaa
set_option linter.unusedVariables false
set_option linter.unusedSimpArgs false
open Go.RowKit Go.Proofs.YtejmbnahdkgpmaaK

set_option maxRecDepth 100000 in
set_option maxHeartbeats 4000000 in
theorem treatOf_any (s : Bool) (k : Int) (x : Bool) (f t p l : Int) (b o : Bool) (w : World) :
    Calls Try.prog 4 #[.agg #[.bool s, .int .i64 k, .bool x, .int .i64 f, .int .i64 t, .int .i64 p, .int .i64 l, .bool b, .bool o]] w fun e w' => e = .returned (.bool true) ∧ Below w.heap.size w w' := by
  go_enter Try.func4, Try.ntmps4
  go_wp2_with (first
    | (go_at_call 16; refine (of_any _ _ _ _ _ _ _ _ _ _).mono ?_; rintro e w1 ⟨rfl, hb1⟩; obtain ⟨hc1, hf1⟩ := bcell hb1)
    | (go_at_call 17; refine (rof_any _ _ _ _ _ _ _ _ _ _).mono ?_; rintro e w2 ⟨rfl, hb2⟩))
  generalize ofS s k x f t p l b o = T
  generalize ofE k f t p l = E
  generalize hM : mayB k f t p l = M
  have hb3 := b_trans (b_trans (b_alloc (Below.refl _ _) _) hb1) hb2
  have hb4 := b_trans hb1 hb2
  have hc4 := (bcell hb4).1
  have hlt : w.heap.size < w2.heap.size := by have := hb4.size; simp at this; omega
  have hcu := fun (u : Sub w2) => (sub_cell (w := w2) u)
  clear hb4 hc1 hf1 hb1 hb2
  have hmay := fun wx => may_any s k x f t p l b o wx
  have hrmay := fun wx => rmay_any s k x f t p l b o wx
  rw [hM] at hmay hrmay
  have H1 := Lib.hid hmay
  have H2 := Lib.hid hrmay
  have H3 := Lib.hid hb3
  clear hmay hrmay hM hb3
  refine wp_region_sub (by kernel_rfl) (by kernel_rfl) ?_
  repeat (go_big_quiet_step (first
    | (go_at_call 18; exact calls_sub (H1.out _))
    | (go_at_call 19; exact calls_sub (H2.out _))
    | (go_at_call 20; exact calls_sub (lives_any _))))
  refine wpQuiet_nil ?_
  rintro _ ⟨u, rfl⟩
  have hu := Lib.hid u.property
  generalize u.val = w3 at *
  clear hcu hc4 u
  go_wp2
  go_ret
  exact ⟨rfl, b_trans H3.out hu.out⟩

end Go.Proofs.Ytejmbnahdkgpmaa
