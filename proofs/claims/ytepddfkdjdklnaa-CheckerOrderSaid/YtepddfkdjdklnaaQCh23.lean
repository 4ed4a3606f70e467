/-
  checker: arrange, the plain part.
-/
import Derived.Test.YtepddfkdjdklnaaQCh22
import Derived.Laws.MakeOwn
namespace Go.Proofs.Ytepddfkdjdklnaa.Ch
set_option linter.unusedVariables false
set_option linter.unusedSimpArgs false
set_option linter.unnecessarySimpa false
open Go.RowKit Go.Maps Go.Proofs.YtepddfkdjdklnaaK Go.Proofs.Ytepddfkdjdklnaa.PCheckerOrder Go.Proofs.YtepddfkdjdklnaaW.PrintWords Go.Proofs.YtepddfkdjdklnaaW.PrintLast Go.Sort

def lacks (ds : List Bool) (q : List Nat) : Bool := q.any fun x => !ds.getD x false
def ready (ds : List Bool) (q : List Nat) (i : Nat) : Bool := !ds.getD i false && !lacks ds q
def nextOf (ds : List Bool) : List (List Nat) → Nat → Option Nat
  | [], _ => none
  | q :: qs, i => if ready ds q i = true then some i else nextOf ds qs (i + 1)
def arrF (ns : List (List Nat)) : Nat → List Bool → List Nat → Option (List Nat)
  | 0, _, _ => none
  | f + 1, ds, o => if o.length < ns.length then match nextOf ds ns 0 with
      | none => none
      | some i => arrF ns f (ds.set i true) (o ++ [i])
    else some o
def arr (ns : List (List Nat)) : Option (List Nat) := arrF ns (ns.length + 1) (List.replicate ns.length false) []
/-- The world while arrange runs. -/
structure ArrR (w wr : World) (p D gd : Nat) (c0 c1 c2 vo : Value) (ds : List Bool) (o : List Nat) : Prop where
  grow : w.grownBy wr (some p)
  plan : wr.heap[p]? = some (.cells #[c0, c1, c2, vo] 36 (0, 0))
  low : p < w.heap.size
  done : Done wr D gd ds
  row : wr.ownsRow w.heap.size 3 1 vo o.length (intV o)
  geD : w.heap.size ≤ D
  geg : w.heap.size ≤ gd
theorem ArrR.below {w wr w1 : World} {p D gd : Nat} {c0 c1 c2 vo : Value} {ds : List Bool} {o : List Nat} (h : ArrR w wr p D gd c0 c1 c2 vo ds o) (hb : Below wr.heap.size wr w1) : ArrR w w1 p D gd c0 c1 c2 vo ds o :=
  ⟨⟨hb.os.trans h.grow.os, hb.tape.trans h.grow.tape, hb.output.trans h.grow.output, Nat.le_trans h.grow.size hb.size, fun k hk hn => (hb.block k (Nat.lt_of_lt_of_le hk h.grow.size)).trans (h.grow.block k hk hn)⟩, block_on hb h.plan, h.low, h.done.below hb, own_on h.row hb, h.geD, h.geg⟩
theorem ArrR.set {w wr : World} {p D gd : Nat} {c0 c1 c2 vo : Value} {ds : List Bool} {o : List Nat} (h : ArrR w wr p D gd c0 c1 c2 vo ds o) (i : Nat) : ArrR w (wr.setCell ⟨gd, i, none⟩ (.bool true)) p D gd c0 c1 c2 vo (ds.set i true) o := by
  have hpg : p ≠ gd := by have := h.low; have := h.geg; omega
  have hDg : D ≠ gd := ty_ne h.done.box h.done.row (by decide)
  refine ⟨⟨h.grow.os, h.grow.tape, h.grow.output, by simpa using h.grow.size, fun k hk hn => ?_⟩, (Below.heap_setCell _ _ _ _ hpg).trans h.plan, h.low, ⟨?_, ?_⟩, ?_, h.geD, h.geg⟩
  · rw [Below.heap_setCell _ _ _ _ (fun e => by have := h.geg; have e2 : k = gd := e; omega)]
    exact h.grow.block k hk hn
  · rw [List.length_set]
    exact (Below.heap_setCell _ _ _ _ hDg).trans h.done.box
  · have := Go.Joins.block_setCell (i := i) h.done.row (.bool true)
    rw [this]
    congr 2
    rw [List.setIfInBounds_toArray, List.map_set]
  · refine own_far h.row (set_grown _ _ _ _) (fun q hq cur hc => ?_)
    obtain rfl := Option.some.inj hq
    exact ty_ne hc h.done.row (by decide) rfl
theorem ArrR.put {w wr w1 : World} {p D gd : Nat} {c0 c1 c2 vo v' : Value} {ds : List Bool} {o : List Nat} (h : ArrR w wr p D gd c0 c1 c2 vo ds o) (i : Nat) (hg : wr.grownBy w1 vo.ownBlock) (ho : w1.ownsRow w.heap.size 3 1 v' (o.length + 1) (intV o ++ [.int .i64 (i : Nat)])) :
    w1.heap[p]? = some (.cells #[c0, c1, c2, vo] 36 (0, 0)) ∧ ArrR w (w1.setCell ⟨p, 3, none⟩ v') p D gd c0 c1 c2 v' ds (o ++ [i]) := by
  have hne : ∀ {g : Nat} {C : Array Value} {t : TypeId}, wr.heap[g]? = some (.cells C t (0, 0)) → t ≠ 3 → w1.heap[g]? = some (.cells C t (0, 0)) := fun {g C t} hh ht => by
    refine (hg.block g (block_lt hh) (fun e => ?_)).trans hh
    obtain ⟨_, cur, hc⟩ := own_block h.row e.symm
    exact ty_ne hh hc ht rfl
  have hp1 := hne h.plan (by decide)
  have hD1 := hne h.done.box (by decide)
  have hg1 := hne h.done.row (by decide)
  have hpD : D ≠ p := by have := h.low; have := h.geD; omega
  have hpg : gd ≠ p := by have := h.low; have := h.geg; omega
  refine ⟨hp1, ⟨⟨hg.os.trans h.grow.os, hg.tape.trans h.grow.tape, hg.output.trans h.grow.output, by simpa using Nat.le_trans h.grow.size hg.size, fun k hk hn => ?_⟩, ?_, h.low, ⟨?_, ?_⟩, ?_, h.geD, h.geg⟩⟩
  · rw [Below.heap_setCell _ _ _ _ (fun e => hn (by rw [e]))]
    refine (hg.block k (Nat.lt_of_lt_of_le hk h.grow.size) (fun e => ?_)).trans (h.grow.block k hk hn)
    have := (own_block h.row e.symm).1
    omega
  · have := Go.Joins.block_setCell (i := 3) hp1 v'
    simpa using this
  · exact (Below.heap_setCell _ _ _ _ hpD).trans hD1
  · exact (Below.heap_setCell _ _ _ _ hpg).trans hg1
  · rw [List.length_append, List.length_singleton]
    have e : intV (o ++ [i]) = intV o ++ [.int .i64 (i : Nat)] := by simp [intV]
    rw [e]
    refine own_far ho (set_grown _ _ _ _) (fun q hq cur hc => ?_)
    obtain rfl := Option.some.inj hq
    exact ty_ne hc hp1 (by decide) rfl
theorem rowI_of {w : World} {base : Nat} {u : Value} {q : List Nat} (h : w.ownsRow base 3 1 u q.length (intV q)) : ∃ A g c, u = .slice A q.length c ∧ q.length ≤ c ∧ RowI w A g q := by
  rcases h.2 with ⟨rfl, h0⟩ | ⟨g, cap, cur, rfl, hb, hg, hn, hc, hs, ht⟩
  · exact ⟨none, 0, 0, by rw [h0], by omega, fun k hk => by omega⟩
  · refine ⟨_, g, cap, rfl, hn, fun k hk => ⟨rfl, block_lt hg, ?_⟩⟩
    obtain ⟨g2, cap2, u2, e2, _, _, _, hu, hcell⟩ := own_at h hk
    cases e2
    rw [hcell]
    unfold intV at hu
    rw [List.getElem?_map, List.getElem?_eq_getElem hk] at hu
    exact hu.symm
theorem done_made (w : World) (n : Nat) : Done ((w.alloc (.cells (madeCells #[Value.bool false] n) 4)).alloc (.cells #[.slice (some ⟨w.heap.size, 0, none⟩) n n] 29)) (w.heap.size + 1) w.heap.size (List.replicate n false) := by
  refine ⟨?_, ?_⟩
  · have e : w.heap.size + 1 = (w.alloc (.cells (madeCells #[Value.bool false] n) 4)).heap.size := by simp
    rw [e, List.length_replicate]
    exact Array.getElem?_push_size
  · have h : (w.alloc (.cells (madeCells #[Value.bool false] n) 4)).heap[w.heap.size]? = some (.cells (madeCells #[Value.bool false] n) 4 (0, 0)) := Array.getElem?_push_size
    rw [block_alloc h]
    congr 2
    unfold madeCells
    rw [List.map_replicate]
    refine Array.ext (by simp) (fun i h1 h2 => ?_)
    simp [Nat.mod_one]
def ArrP (w : World) (p : Nat) (c0 c1 c2 : Value) (ns : List (List Nat)) (e : Ending) (w' : World) : Prop :=
  w.grownBy w' (some p) ∧ ((∃ o vo, arr ns = some o ∧ e = .returned (.int .i64 0) ∧ w'.heap[p]? = some (.cells #[c0, c1, c2, vo] 36 (0, 0)) ∧ w'.ownsRow w.heap.size 3 1 vo o.length (intV o)) ∨ (arr ns = none ∧ e = .returned (.int .i64 84)))
end Go.Proofs.Ytepddfkdjdklnaa.Ch
