import Derived.Test.YtejmbnahdkgpmaaT1
namespace Go.Proofs.Ytejmbnahdkgpmaa
set_option linter.unusedVariables false
set_option linter.unusedSimpArgs false
open Go.RowKit

theorem b_alloc {w W : World} (h : Below w.heap.size w W) (o : Obj) : Below w.heap.size w (W.alloc o) := h.alloc h.size o
theorem b_drew {B : Nat} {w W : World} (h : Below B w W) : Below B w W.drew := ⟨h.os, h.tape, h.output, h.size, h.block⟩
theorem b_drewN {B : Nat} {w W : World} (h : Below B w W) (n : Nat) : Below B w (W.drewN n) := ⟨h.os, h.tape, h.output, h.size, h.block⟩
theorem b_trans {w w1 w2 : World} (h : Below w.heap.size w w1) (k : Below w1.heap.size w1 w2) : Below w.heap.size w w2 :=
  h.trans ⟨k.os, k.tape, k.output, k.size, fun i hi => k.block i (Nat.lt_of_lt_of_le hi h.size)⟩

def localB (k : Int) : Bool := decide (3 ≤ k) && decide (k ≤ 5)

set_option maxHeartbeats 400000 in
theorem local_any (s : Bool) (k : Int) (x : Bool) (f t p l : Int) (b o : Bool) (w : World) :
    Calls Try.prog 44 #[.agg #[.bool s, .int .i64 k, .bool x, .int .i64 f, .int .i64 t, .int .i64 p, .int .i64 l, .bool b, .bool o]] w fun e w' => e = .returned (.bool (localB k)) ∧ Below w.heap.size w w' := by
  by_cases h1 : 3 ≤ k
  · by_cases h2 : k ≤ 5
    all_goals
      go_enter Try.func44, Try.ntmps44
      go_wp2
      go_ret
      refine ⟨?_, b_alloc (Below.refl _ _) _⟩
      simp [localB, h1, h2]
  · go_enter Try.func44, Try.ntmps44
    go_wp2
    go_ret
    refine ⟨?_, b_alloc (Below.refl _ _) _⟩
    have : ¬ 3 ≤ k := by omega
    simp [localB, this]

theorem bcell {W w1 : World} (hb : Below W.heap.size W w1) : (∀ b o, b < W.heap.size → w1.cell? ⟨b, o, none⟩ = W.cell? ⟨b, o, none⟩) ∧ (∀ b o, b < W.heap.size → w1.frozen? ⟨b, o, none⟩ = W.frozen? ⟨b, o, none⟩) :=
  ⟨fun b o h => hb.cell (p := ⟨b, o, none⟩) h, fun b o h => hb.frozen (p := ⟨b, o, none⟩) h⟩

def holdsB (n : Int) (s : Bool) (k : Int) (x : Bool) (f t p l : Int) (b o : Bool) : Bool :=
  let sale := s && !x
  let buy := !s && !x
  let goods := k == 1
  let second := k == 7
  let wire := k == 6
  let work := k == 2 || wire
  let out := goods && f == 0 && t == 1 && !b || wire && p == 1 && !b
  if n = 1 then sale && (goods && f == 0 && t == 0 || work && p == 0 || k == 2 && p == 1 && !b || localB k && l == 0)
  else if n = 2 then x
  else if n = 3 then sale && second && f == 0 && t != 2 || buy && second && t == 0 && f != 2
  else if n = 4 then sale && goods && f == 0 && t == 1 && b
  else if n = 5 then sale && (goods || second) && f == 0 && t == 2
  else if n = 6 then sale && work && p == 1 && b
  else if n = 7 then sale && work && p == 2
  else if n = 8 then sale && out && o
  else if n = 9 then sale && out && !o
  else if n = 10 then
    sale && ((goods || second) && f != 0 || localB k && l != 0) || buy && ((goods || second) && t != 0 || goods && t == 0 && f == 1 && !b || work && p != 0 && !b || localB k && (l != 0 || p != 0 && !b))
  else if n = 11 then buy && (goods && t == 0 && f == 0 || work && p == 0 || localB k && l == 0 && p == 0)
  else if n = 12 then buy && goods && t == 0 && f == 1 && b
  else if n = 13 then buy && b && p != 0 && (work || localB k && l == 0)
  else if n = 14 then buy && (goods || second) && t == 0 && f == 2
  else false



end Go.Proofs.Ytejmbnahdkgpmaa
