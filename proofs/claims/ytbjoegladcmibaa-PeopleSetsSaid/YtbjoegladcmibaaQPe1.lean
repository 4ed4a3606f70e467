/-
  people: how they lie in memory; New, Home, Opted, none.
-/
import Derived.Test.YtbjoegladcmibaaQVi4
import Derived.Test.YtbjoegladcmibaaQLnB5
import Derived.Maps.OwnSet
import Derived.Maps.OwnOps
import Derived.Maps.Views
namespace Go.Proofs.Ytbjoegladcmibaa.Pe
set_option linter.unusedVariables false
set_option linter.unusedSimpArgs false
set_option linter.unnecessarySimpa false
open Go.RowKit Go.Maps Go.Proofs.YtbjoegladcmibaaK Go.Proofs.Ytbjoegladcmibaa.Ln Go.Proofs.Ytbjoegladcmibaa.LnB Go.Proofs.Ytbjoegladcmibaa.Vi Go.Proofs.YtbjoegladcmibaaW.PrintWords

abbrev Who := Option ByteArray
abbrev PM := Who → Option (Nat × Value × List Held)
/-- How a choice reads: its line's block. -/
def pc : Value → Option (DataW Unit × List MemPlace)
  | .agg a => match a.toList with
    | [.pointer none] => some (.nil, [])
    | [.pointer (some ⟨g, 0, none⟩)] => some (.lit (.int .i64 g), [])
    | _ => none
  | _ => none
theorem pc_mk (g : Nat) : pc (.agg #[.pointer (some ⟨g, 0, none⟩)]) = some (.lit (.int .i64 g), []) := rfl
theorem pc_nil : pc (.agg #[.pointer none]) = some (.nil, []) := rfl
theorem agg_of {a : Array Value} {l : List Value} (h : a.toList = l) : Value.agg a = .agg l.toArray := by rw [← h]
theorem pc_inv_nil {v : Value} {ps : List MemPlace} (h : pc v = some (.nil, ps)) : v = .agg #[.pointer none] := by
  unfold pc at h
  split at h
  · split at h
    · rename_i e; exact agg_of e
    · simp at h
    · cases h
  · cases h
theorem pc_inv {v : Value} {g : Nat} {ps : List MemPlace} (h : pc v = some (.lit (.int .i64 g), ps)) : v = .agg #[.pointer (some ⟨g, 0, none⟩)] := by
  unfold pc at h
  split at h
  · split at h
    · simp at h
    · rename_i g' e
      simp at h
      have : g' = g := by omega
      subst this
      exact agg_of e
    · cases h
  · cases h
theorem zeroC (w : World) : (zeroValue 102).run Try.prog w = .ok (.agg #[.pointer none]) w := by kernel_rfl
/-- At p lie people: M says of the choice (none) and of each number where its line lies, and what it holds. -/
structure Pp (w : World) (base p m n : Nat) (home : ByteArray) (M : PM) : Prop where
  box : ∃ g0 v0 l0, M none = some (g0, v0, l0) ∧ w.heap[p]? = some (.cells #[.pointer (some ⟨g0, 0, none⟩), .string home, .map (some m)] 105 (0, 0))
  own : ∃ D : DataW Unit, w.ownsMap Try.prog 9 pc m n D ∧ IsMap D ∧ ∀ s : ByteArray, s.size ≤ maxLen → (M (some s) = none → has D (.string s.data.toList) = false) ∧ (∀ g v l, M (some s) = some (g, v, l) → has D (.string s.data.toList) = true ∧ D.atKey (.string s.data.toList) .nil = .lit (.int .i64 g))
  big : ∀ s, M (some s) ≠ none → s.size ≤ maxLen
  lin : ∀ k g v l, M k = some (g, v, l) → Lin w base g v l
  apart : ∀ k1 k2 g1 v1 l1 g2 v2 l2, M k1 = some (g1, v1, l1) → M k2 = some (g2, v2, l2) → k1 ≠ k2 → g1 ≠ g2 ∧ (v1.ownBlock = none ∨ v1.ownBlock ≠ v2.ownBlock)
  pge : base ≤ p
  mge : base ≤ m
  pm : p ≠ m
theorem Pp.below {w w1 : World} {base p m n : Nat} {home : ByteArray} {M : PM} (h : Pp w base p m n home M) (hb : Below w.heap.size w w1) : Pp w1 base p m n home M := by
  obtain ⟨g0, v0, l0, e0, hbox⟩ := h.box
  obtain ⟨D, ho, hi, hD⟩ := h.own
  obtain ⟨es, clock, hm, hF, hs, hd⟩ := ho
  exact ⟨⟨g0, v0, l0, e0, block_on hb hbox⟩, ⟨D, ⟨es, clock, block_on hb hm, hF, hs, hd⟩, hi, hD⟩, h.big, fun k g v l e => (h.lin k g v l e).below hb, h.apart, h.pge, h.mge, h.pm⟩
theorem Pp.mono {w : World} {base p m n n' : Nat} {home : ByteArray} {M : PM} (h : Pp w base p m n home M) (hn : n ≤ n') : Pp w base p m n' home M := by
  obtain ⟨D, ho, hi, hD⟩ := h.own
  exact ⟨h.box, ⟨D, ho.mono hn, hi, hD⟩, h.big, h.lin, h.apart, h.pge, h.mge, h.pm⟩
theorem cells3 {w : World} {g : Nat} {a0 a1 a2 : Value} {t : TypeId} (h : w.heap[g]? = some (.cells #[a0, a1, a2] t (0, 0))) : w.cell? ⟨g, 0, none⟩ = some a0 ∧ w.cell? ⟨g, 1, none⟩ = some a1 ∧ w.cell? ⟨g, 2, none⟩ = some a2 := by refine ⟨?_, ?_, ?_⟩ <;> simp [World.cell?, h]
theorem not_empty {s : ByteArray} (h : s.size ≠ 0) : s.toList.isEmpty = false := by
  rw [ByteArray.toList_eq]
  cases hs : s.data.toList with
  | nil =>
    have h2 : s.data.toList.length = 0 := by rw [hs]; rfl
    rw [Array.length_toList] at h2
    exact absurd h2 h
  | cons a l => rfl
theorem none_any (w : World) (p g0 m : Nat) (home : ByteArray) (hh : home.size ≠ 0) (h : w.heap[p]? = some (.cells #[.pointer (some ⟨g0, 0, none⟩), .string home, .map (some m)] 105 (0, 0))) :
    Calls Try.prog 60 #[.pointer (some ⟨p, 0, none⟩)] w fun e w' => e = .returned (.bool false) ∧ w = w' := by
  obtain ⟨c0, c1, c2⟩ := cells3 h
  have hs := not_empty hh
  clear h
  go_enter Try.func60, Try.ntmps60
  go_wp2
  go_ret
  exact ⟨rfl, rfl⟩
theorem line_new (w : World) (base : Nat) (hb : base ≤ w.heap.size) : Calls Try.prog 94 #[.int .i64 256] w fun e w' => e = .returned (.pointer (some ⟨w.heap.size, 0, none⟩)) ∧ Lin w' base w.heap.size (.slice none 0 0) [] ∧ Below w.heap.size w w' := by
  go_enter Try.func94, Try.ntmps94
  go_wp2
  go_ret
  exact ⟨rfl, ⟨Array.getElem?_push_size, World.ownsRow_nil _ _ _ _, hb, by simp⟩, s_alloc (Below.refl _ _) _⟩
theorem fresh_any (w : World) (base : Nat) (hb : base ≤ w.heap.size) : Calls Try.prog 59 #[] w fun e w' => ∃ g, e = .returned (.agg #[.pointer (some ⟨g, 0, none⟩)]) ∧ w.heap.size ≤ g ∧ Lin w' base g (.slice none 0 0) [] ∧ Below w.heap.size w w' := by
  have hl := fun wx (h : base ≤ wx.heap.size) => line_new wx base h
  have HL := Lib.hid hl
  clear hl
  go_enter Try.func59, Try.ntmps59
  go_wp2_with (go_at_call 94; refine (HL.out _ (by simp; omega)).mono ?_; rintro e w1 ⟨rfl, hl1, hb1⟩; have HL1 := Lib.hid hl1; have HB1 := Lib.hid hb1; have HX := Lib.hid (block_kept hb1); have x0 := cells1 HX.out; have hfz := blockFree HX.out 0; clear hl1 hb1)
  have hq : (w1.setCell ⟨w.heap.size, 0, none⟩ (.pointer (some ⟨w.heap.size + 1, 0, none⟩))).heap[w.heap.size]? = some (.cells #[.pointer (some ⟨w.heap.size + 1, 0, none⟩)] 102 (0, 0)) := by simp [World.setCell, HX.out, Array.getElem?_modify]
  refine bodyPost_ret (results_cell_row rfl _ _ w.heap.size 102 _ (0, 0) _ rfl hq Try.underlying102 rfl (by kernel_rfl)) rfl ?_
  have e1 : (w.alloc (.cells #[.pointer none] 102)).heap.size = w.heap.size + 1 := by simp
  have hL := HL1.out
  rw [e1] at hL
  refine ⟨w.heap.size + 1, rfl, by omega, ?_, s_set (s_trans (s_alloc (Below.refl _ _) _) HB1.out) _ _ (Nat.le_refl _)⟩
  have hne : w.heap.size ≠ w.heap.size + 1 := by omega
  refine ⟨(set_ne hL.box (fun e => hne e.symm)), ?_, hL.ge, hL.most⟩
  exact World.ownsRow_nil _ _ _ _
end Go.Proofs.Ytbjoegladcmibaa.Pe
