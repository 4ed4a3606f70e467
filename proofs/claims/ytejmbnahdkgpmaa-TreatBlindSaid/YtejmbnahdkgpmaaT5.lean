import Derived.Test.YtejmbnahdkgpmaaT4
import Derived.Test.YtejmbnahdkgpmaaT2
namespace Go.Proofs.Ytejmbnahdkgpmaa
set_option linter.unusedVariables false
set_option linter.unusedSimpArgs false
open Go.RowKit

def byS (z : Int) (b : Bool) (n : Int) : Int := if z = 0 then 11 else if b = true then n else 10
def boughtS (k f t p l : Int) (b : Bool) : Int :=
  if k = 1 ∨ k = 7 then (if t ≠ 0 then 10 else if f = 2 then 14 else if k = 7 then 3 else byS f b 12)
  else if k = 2 ∨ k = 6 then byS p b 13
  else if l ≠ 0 then 10 else byS p b 13

set_option maxRecDepth 100000 in
set_option maxHeartbeats 4000000 in
theorem by_any (z n : Int) (g : Nat) (b : Bool) (w : World) (hc : w.cell? ⟨g, 7, none⟩ = some (.bool b)) :
    Calls Try.prog 57 #[.int .i64 z, .int .i64 n, .pointer (some ⟨g, 0, none⟩)] w fun e w' => e = .returned (.int .i64 (byS z b n)) ∧ w = w' := by
  by_cases hz : z = 0
  · subst hz
    go_enter Try.func57, Try.ntmps57
    go_wp2
    go_ret
    exact ⟨rfl, rfl⟩
  · cases b
    all_goals
      go_enter Try.func57, Try.ntmps57
      go_wp2
      go_ret
      exact ⟨by simp [byS, hz], rfl⟩

set_option maxRecDepth 100000 in
set_option maxHeartbeats 4000000 in
theorem bought_any (s : Bool) (k : Int) (x : Bool) (f t p l : Int) (b o : Bool) (w : World) :
    Calls Try.prog 42 #[.agg #[.bool s, .int .i64 k, .bool x, .int .i64 f, .int .i64 t, .int .i64 p, .int .i64 l, .bool b, .bool o]] w fun e w' => e = .returned (.int .i64 (boughtS k f t p l b)) ∧ Below w.heap.size w w' := by
  have hmf : ∀ (fn : Fn) (first cap : Array Value) (w : World), (Instr.makeFunc fn first cap).run Try.prog w = .ok (.func fn first cap) w := fun _ _ _ _ => rfl
  go_enter Try.func42, Try.ntmps42
  go_wp2_with (go_at_call 57; refine (by_any _ _ _ b _ ?_).mono ?_; (simp); rintro e w1 ⟨rfl, rfl⟩)
  all_goals
    first
      | (exfalso; omega)
      | (go_ret; refine ⟨?_, b_alloc (Below.refl _ _) _⟩; simp_all [boughtS]; done)

set_option maxRecDepth 100000 in
set_option maxHeartbeats 4000000 in
theorem sold_ok (s : Bool) (k : Int) (x : Bool) (f t p l : Int) (b o : Bool) (w : World) :
    Calls Try.prog 41 #[.agg #[.bool s, .int .i64 k, .bool x, .int .i64 f, .int .i64 t, .int .i64 p, .int .i64 l, .bool b, .bool o]] w fun e w' => e = .returned (.int .i64 (soldS k f t p l b o)) ∧ Below w.heap.size w w' := by
  go_enter Try.func41, Try.ntmps41
  go_wp2_with (go_at_call 56; refine (far_any _ _ _ _ _ _ _ _ _ _ _).mono ?_; rintro e w1 ⟨rfl, hb⟩)
  all_goals
    first
      | (exfalso; omega)
      | (go_ret; refine ⟨?_, by first | exact b_trans (b_alloc (Below.refl _ _) _) (by assumption) | exact b_alloc (Below.refl _ _) _⟩; simp_all [soldS]; done)

def ofS (s : Bool) (k : Int) (x : Bool) (f t p l : Int) (b o : Bool) : Int :=
  if mayB k f t p l = false then 0 else if x = true then 2 else if s = true then soldS k f t p l b o else boughtS k f t p l b
def ofE (k f t p l : Int) : Int := if mayB k f t p l = false then 2 else 0

set_option maxRecDepth 100000 in
set_option maxHeartbeats 4000000 in
theorem of_any (s : Bool) (k : Int) (x : Bool) (f t p l : Int) (b o : Bool) (w : World) :
    Calls Try.prog 16 #[.agg #[.bool s, .int .i64 k, .bool x, .int .i64 f, .int .i64 t, .int .i64 p, .int .i64 l, .bool b, .bool o]] w fun e w' => e = .returned (.tuple #[.int .i64 (ofS s k x f t p l b o), .int .i64 (ofE k f t p l)]) ∧ Below w.heap.size w w' := by
  generalize hm : mayB k f t p l = m
  have Hm := Lib.hid hm
  clear hm
  cases m <;> cases x <;> cases s
  all_goals
    go_enter Try.func16, Try.ntmps16
    go_wp2_with (first
      | (go_at_call 18; refine (may_any _ _ _ _ _ _ _ _ _ _).mono ?_; rintro e w1 ⟨rfl, hb1⟩; rw [Hm.out]; obtain ⟨hc1, hf1⟩ := bcell hb1)
      | (go_at_call 41; refine (sold_ok _ _ _ _ _ _ _ _ _ _).mono ?_; rintro e w2 ⟨rfl, hb2⟩)
      | (go_at_call 42; refine (bought_any _ _ _ _ _ _ _ _ _ _).mono ?_; rintro e w2 ⟨rfl, hb2⟩))
    all_goals go_ret2
    all_goals (refine ⟨?_, by first | exact b_trans (b_trans (b_alloc (Below.refl _ _) _) (by assumption)) (by assumption) | exact b_trans (b_alloc (Below.refl _ _) _) (by assumption)⟩)
    all_goals (have hm := Hm.out; simp [ofS, ofE, hm])

end Go.Proofs.Ytejmbnahdkgpmaa
