/-
  syntax.Refs: gathering.
-/
import Derived.Test.YtmkalnljclhigaaGreatQCh8
import Derived.Maps.AppendAt
import Derived.Lib.SmallJoins
namespace Go.Proofs.YtmkalnljclhigaaGreat.Ch
set_option linter.unusedVariables false
set_option linter.unusedSimpArgs false
set_option linter.unnecessarySimpa false
open Go.RowKit Go.Proofs.YtmkalnljclhigaaGreatK Go.Proofs.YtmkalnljclhigaaGreat.XCheckerChecks Go.Proofs.YtmkalnljclhigaaGreatW.PrintWords Go.Proofs.YtmkalnljclhigaaGreatW.PrintLast

theorem infoI : (Tryz.prog.info? 3).map (fun i => (i.zero, i.size, i.bytes)) = some (some (.int .i64 0), 1, 8) := by kernel_rfl
mutual
/-- The boxes that it names, as they stand. -/
def refsB : S33 → List Int
  | ⟨k, n, _, _, ks⟩ => (if k = 2 then [n] else []) ++ refsL ks
def refsL : List S33 → List Int
  | [] => []
  | x :: xs => refsB x ++ refsL xs
end
/-- What gather writes into, and gather itself. -/
structure Gat (w : World) (base g2 g3 : Nat) (v : Value) (l : List Int) : Prop where
  out : w.heap[g2]? = some (.cells #[v] 42 (0, 0))
  fn : w.heap[g3]? = some (.cells #[.func (.func 68) #[] #[.pointer (some ⟨g2, 0, none⟩), .pointer (some ⟨g3, 0, none⟩)]] 90 (0, 0))
  row : w.ownsRow base 3 1 v l.length (l.map (Value.int .i64))
  ge : base ≤ g2
theorem ty_ne {w : World} {a b : Nat} {C1 C2 : Array Value} {t1 t2 : TypeId} {f1 f2 : Nat × Nat} (h1 : w.heap[a]? = some (.cells C1 t1 f1)) (h2 : w.heap[b]? = some (.cells C2 t2 f2)) (hne : t1 ≠ t2) : a ≠ b := by
  intro e
  rw [e, h2] at h1
  injection h1 with h1
  injection h1 with _ h _
  exact hne h.symm
theorem Gat.own {w : World} {base g2 g3 : Nat} {v : Value} {l : List Int} (h : Gat w base g2 g3 v l) {q : Nat} (hq : v.ownBlock = some q) : base ≤ q ∧ ∃ cur, w.heap[q]? = some (.cells cur 3 (0, 0)) := by
  rcases h.row.2 with ⟨rfl, _⟩ | ⟨g', cap, cur, rfl, hb, hgg, _⟩
  · cases hq
  · have e : g' = q := Option.some.inj hq
    subst e
    exact ⟨hb, cur, hgg⟩
theorem Gat.below {w w' : World} {base g2 g3 : Nat} {v : Value} {l : List Int} (h : Gat w base g2 g3 v l) (hb : Below w.heap.size w w') : Gat w' base g2 g3 v l := by
  refine ⟨block_on hb h.out, block_on hb h.fn, ?_, h.ge⟩
  exact World.ownsRow.kept (row := none) h.row ⟨hb.os, hb.tape, hb.output, hb.size, fun k hk _ => hb.block k hk⟩ (by cases v.ownBlock <;> simp)
theorem Gat.put {w w1 : World} {base g2 g3 : Nat} {v v' : Value} {l : List Int} {n : Int} (h : Gat w base g2 g3 v l) (hg : w.grownBy w1 v.ownBlock) (ho : w1.ownsRow base 3 1 v' (l.length + 1) (l.map (Value.int .i64) ++ [.int .i64 n])) : Gat (w1.setCell ⟨g2, 0, none⟩ v') base g2 g3 v' (l ++ [n]) := by
  have hne2 : some g2 ≠ v.ownBlock := fun e => by
    obtain ⟨_, cur, hc⟩ := h.own e.symm
    exact ty_ne h.out hc (by decide) rfl
  have hne3 : some g3 ≠ v.ownBlock := fun e => by
    obtain ⟨_, cur, hc⟩ := h.own e.symm
    exact ty_ne h.fn hc (by decide) rfl
  have h2 : w1.heap[g2]? = some (.cells #[v] 42 (0, 0)) := (hg.block g2 (block_lt h.out) hne2).trans h.out
  have h3 : w1.heap[g3]? = _ := (hg.block g3 (block_lt h.fn) hne3).trans h.fn
  have h23 : g3 ≠ g2 := ty_ne h.fn h.out (by decide)
  refine ⟨?_, (Below.heap_setCell _ _ _ _ h23).trans h3, ?_, h.ge⟩
  · have := Go.Joins.block_setCell (i := 0) h2 v'
    simpa using this
  · have e : (l ++ [n]).map (Value.int .i64) = l.map (Value.int .i64) ++ [.int .i64 n] := by simp
    rw [e, List.length_append, List.length_singleton]
    refine World.ownsRow.kept (row := some g2) ho ⟨rfl, rfl, rfl, by simp, fun j _ hk => Below.heap_setCell _ _ _ _ (fun e => hk (by rw [e]))⟩ (Or.inr (fun e => ?_))
    rcases ho.2 with ⟨rfl, _⟩ | ⟨g', cap, cur, rfl, hb, hgg, _⟩
    · cases e
    · have e' : g' = g2 := Option.some.inj e
      subst e'
      exact ty_ne h2 hgg (by decide) rfl
def GatP (w0 : World) (g2 g3 : Nat) (l : List Int) (e : Ending) (w' : World) : Prop := e = .returned (.tuple #[]) ∧ ∃ v', Gat w' w0.heap.size g2 g3 v' l ∧ Below w0.heap.size w0 w'
def GatAt (x : S33) : Prop := ∀ (A4 : Option Addr) (c4 : Nat) (A5 : Option Addr) (c5 : Nat) (w0 w : World) (g2 g3 : Nat) (v : Value) (l : List Int), EIn w0 x A4 c4 A5 c5 → Below w0.heap.size w0 w → Gat w w0.heap.size g2 g3 v l → l.length + (refsB x).length ≤ 1000000 →
  Calls Tryz.prog 68 #[eV x A4 c4 A5 c5, .pointer (some ⟨g2, 0, none⟩), .pointer (some ⟨g3, 0, none⟩)] w (GatP w0 g2 g3 (l ++ refsB x))
theorem low_put {w0 w w1 : World} {g2 g3 : Nat} {v v' : Value} {l : List Int} (hb : Below w0.heap.size w0 w) (h : Gat w w0.heap.size g2 g3 v l) (hg : w.grownBy w1 v.ownBlock) : Below w0.heap.size w0 (w1.setCell ⟨g2, 0, none⟩ v') := by
  refine s_set ⟨hg.os.trans hb.os, hg.tape.trans hb.tape, hg.output.trans hb.output, Nat.le_trans hb.size hg.size, fun k hk => (hg.block k (Nat.lt_of_lt_of_le hk hb.size) (fun e => ?_)).trans (hb.block k hk)⟩ _ _ h.ge
  have := (h.own e.symm).1
  omega
end Go.Proofs.YtmkalnljclhigaaGreat.Ch
