/-
  people: Clone.
-/
import Derived.Test.YtbjoegladcmibaaQPc2
import Derived.Test.YtbjoegladcmibaaQWall
import Derived.Deep.RegionWith
namespace Go.Proofs.Ytbjoegladcmibaa.Pe
set_option linter.unusedVariables false
set_option linter.unusedSimpArgs false
set_option linter.unnecessarySimpa false
open Go.RowKit Go.Maps Go.Proofs.YtbjoegladcmibaaK Go.Proofs.Ytbjoegladcmibaa.Ln Go.Proofs.Ytbjoegladcmibaa.LnB Go.Proofs.Ytbjoegladcmibaa.Vi Go.Proofs.YtbjoegladcmibaaW.PrintWords

theorem owns_below {w w1 : World} {m n : Nat} {D : DataW Unit} (ho : w.ownsMap Try.prog 9 pc m n D) (hb : Below w.heap.size w w1) : w1.ownsMap Try.prog 9 pc m n D := by
  obtain ⟨es, clock, hm, rest⟩ := ho
  exact ⟨es, clock, block_on hb hm, rest⟩
theorem owns_size {w : World} {m n : Nat} {D : DataW Unit} (ho : w.ownsMap Try.prog 9 pc m n D) : size D ≤ n := World.ownsMap.size_le ho
theorem iter_ne {w : World} {b r n : Nat} {D : DataW Unit} {left : Lit → Bool} {cnt : Nat} (h : w.ranges Try.prog 9 pc b r n D left cnt) {a : Nat} {C : Array Value} {t : TypeId} {f : Nat × Nat} (ha : w.heap[a]? = some (.cells C t f)) : a ≠ r := by
  obtain ⟨es, clock, since, seen, c0, hb, _, _, _, hr, _⟩ := h
  intro e
  rw [← e, ha] at hr
  injection hr with hr
  cases hr
theorem iter_map_ne {w : World} {b r n : Nat} {D : DataW Unit} {left : Lit → Bool} {cnt : Nat} (h : w.ranges Try.prog 9 pc b r n D left cnt) {a : Nat} {es : Array MapEntry} {ck : Nat} (ha : w.heap[a]? = some (.map es ck)) : a ≠ r := by
  obtain ⟨es', clock, since, seen, c0, hb, _, _, _, hr, _⟩ := h
  intro e
  rw [← e, ha] at hr
  injection hr with hr
  cases hr
theorem own_iter_ne {w : World} {b r n : Nat} {D : DataW Unit} {left : Lit → Bool} {cnt : Nat} (h : w.ranges Try.prog 9 pc b r n D left cnt) {base : Nat} {v : Value} {l : List Held} (hr : Row w base v l) : v.ownBlock ≠ some r := by
  intro e
  obtain ⟨cur, hc⟩ := own_row hr e
  exact iter_ne h hc rfl
/-- A block that is neither the people's nor their lines' has turned. -/
theorem Pp.turned {w w' : World} {base p m n r : Nat} {home : ByteArray} {M : PM} (h : Pp w base p m n home M) (hg : w.grownBy w' (some r)) (hp : p ≠ r) (hm : m ≠ r) (hl : ∀ k g1 v1 l1, M k = some (g1, v1, l1) → g1 ≠ r ∧ v1.ownBlock ≠ some r) : Pp w' base p m n home M := by
  obtain ⟨g0, v0, l0, e0, hbox⟩ := h.box
  obtain ⟨D, ho, hi, hD⟩ := h.own
  obtain ⟨es, clock, hmm, hF, hs, hd⟩ := ho
  have ne : ∀ {a : Nat}, a ≠ r → some a ≠ some r := fun hn e => hn (Option.some.inj e)
  exact ⟨⟨g0, v0, l0, e0, (hg.block p (block_lt hbox) (ne hp)).trans hbox⟩, ⟨D, ⟨es, clock, (hg.block m (block_lt hmm) (ne hm)).trans hmm, hF, hs, hd⟩, hi, hD⟩, h.big, fun k g1 v1 l1 e => by
    have hL := h.lin _ _ _ _ e
    obtain ⟨a1, a2⟩ := hl _ _ _ _ e
    exact ⟨(hg.block g1 (block_lt hL.box) (ne a1)).trans hL.box, Row.grown hL.row hg (fun x => a2 x.symm), hL.ge, hL.most⟩, h.apart, h.pge, h.mge, h.pm⟩
/-- The range's own block turns. -/
theorem Pp.ranged {w w' : World} {base p m n r b n2 cnt : Nat} {home : ByteArray} {M : PM} {D : DataW Unit} {left : Lit → Bool} (h : Pp w base p m n home M) (hr : w.ranges Try.prog 9 pc b r n2 D left cnt) (hg : w.grownBy w' (some r)) : Pp w' base p m n home M := by
  obtain ⟨g0, v0, l0, e0, hbox⟩ := h.box
  obtain ⟨D', ho, hi, hD⟩ := h.own
  obtain ⟨es, clock, hmm, _⟩ := ho
  exact h.turned hg (iter_ne hr hbox) (iter_map_ne hr hmm) (fun k g1 v1 l1 e => ⟨iter_ne hr (h.lin _ _ _ _ e).box, own_iter_ne hr (h.lin _ _ _ _ e).row⟩)
theorem ranges_below {w w1 : World} {b r n : Nat} {D : DataW Unit} {left : Lit → Bool} {cnt : Nat} (h : w.ranges Try.prog 9 pc b r n D left cnt) (hb : Below w.heap.size w w1) : w1.ranges Try.prog 9 pc b r n D left cnt := by
  obtain ⟨es, clock, since, seen, c0, h1, h2, h3, h4, h5, rest⟩ := h
  exact ⟨es, clock, since, seen, c0, block_on hb h1, h2, h3, h4, block_on hb h5, rest⟩
theorem ranges_grown {w w1 : World} {b r n m : Nat} {D : DataW Unit} {left : Lit → Bool} {cnt : Nat} (h : w.ranges Try.prog 9 pc b r n D left cnt) (hg : w.grownBy w1 (some m)) (h1 : b ≠ m) (h2 : r ≠ m) : w1.ranges Try.prog 9 pc b r n D left cnt := by
  obtain ⟨es, clock, since, seen, c0, e1, e2, e3, e4, e5, rest⟩ := h
  exact ⟨es, clock, since, seen, c0, (hg.block b (block_lt e1) (fun e => h1 (Option.some.inj e))).trans e1, e2, e3, e4, (hg.block r (block_lt e5) (fun e => h2 (Option.some.inj e))).trans e5, rest⟩
theorem grown_below {w w1 w2 : World} {B m : Nat} (hb : Below B w w1) (hg : w1.grownBy w2 (some m)) (hm : B ≤ m) (hB : B ≤ w1.heap.size) : Below B w w2 :=
  ⟨hg.os.trans hb.os, hg.tape.trans hb.tape, hg.output.trans hb.output, Nat.le_trans hb.size hg.size, fun k hk => (hg.block k (by omega) (fun e => by have := Option.some.inj e; omega)).trans (hb.block k hk)⟩
end Go.Proofs.Ytbjoegladcmibaa.Pe
