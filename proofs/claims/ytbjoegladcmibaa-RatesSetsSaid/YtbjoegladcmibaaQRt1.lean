import Derived.Test.YtbjoegladcmibaaQLnI5
import Derived.Maps.OwnSet
import Derived.Maps.OwnOps
import Derived.Maps.Views
import Derived.DeepKeys4
namespace Go.Proofs.Ytbjoegladcmibaa.Rt
set_option linter.unusedVariables false
set_option linter.unusedSimpArgs false
set_option linter.unnecessarySimpa false
open Go.RowKit Go.Maps Go.Proofs.YtbjoegladcmibaaK Go.Proofs.Ytbjoegladcmibaa.Ln Go.Proofs.Ytbjoegladcmibaa.LnI

/-! ### the key: a state and a category -/
theorem laidOut : laidOutB Try.prog = true := by kernel_rfl
theorem lawK : Keyed Try.prog 109 := Keyed.of_law (deep_law_laid laidOut (m := 3) (by omega) (of_decide_eq_true (by kernel_rfl)) (by kernel_rfl) (by kernel_rfl))
theorem key_ex (s : ByteArray) (c : Int) (hs : s.size ≤ maxLen) (hc : (Lit.int .i64 c).wf = true) : ∃ kl, keyOf Try.prog 109 (.agg #[.string s, .int .i64 c]) = some kl := by
  have u := Try.underlying109
  have u9 := Try.underlying9
  have u3 := Try.underlying3
  have c9 : Try.prog.cellsOf 9 = 1 := by kernel_rfl
  have c3 : Try.prog.cellsOf 3 = 1 := by kernel_rfl
  have ck : Try.prog.cellsOf 109 = 2 := by kernel_rfl
  have kt : Try.prog.keyType 109 = true := by kernel_rfl
  obtain ⟨q, hq⟩ : ∃ q, Try.prog.types.size = q + 1 := ⟨Try.prog.types.size - 1, by have : 0 < Try.prog.types.size := of_decide_eq_true (by kernel_rfl); omega⟩
  have e9 : Try.prog.keyLits (q + 1) 9 [.string s] = some [.string s.data.toList] := by
    unfold Program.keyLits; simp [u9, hs]
  have e3 : Try.prog.keyLits (q + 1) 3 [.int .i64 c] = some [.int .i64 c] := by
    unfold Program.keyLits; simp [u3, hc]
  have ek : ∃ ls, Try.prog.keyLits (q + 1 + 1) 109 [.string s, .int .i64 c] = some ls := by
    refine ⟨[.string s.data.toList, .int .i64 c], ?_⟩
    unfold Program.keyLits
    simp [u, ck, c9, c3, e9, e3]
  obtain ⟨ls, hls⟩ := ek
  refine ⟨.string (keyBytes ls), ?_⟩
  unfold keyOf
  rw [u]
  simp [kt, Value.formed, u, ck, hq, Value.cells, hls]
noncomputable def keyL (s : ByteArray) (c : Int) : Lit := (keyOf Try.prog 109 (.agg #[.string s, .int .i64 c])).getD (.int .i64 0)
theorem key_of (s : ByteArray) (c : Int) (hs : s.size ≤ maxLen) (hc : (Lit.int .i64 c).wf = true) : keyOf Try.prog 109 (.agg #[.string s, .int .i64 c]) = some (keyL s c) := by
  obtain ⟨kl, h⟩ := key_ex s c hs hc
  unfold keyL
  rw [h]
  rfl
theorem key_inj (s s' : ByteArray) (c c' : Int) (hs : s.size ≤ maxLen) (hc : (Lit.int .i64 c).wf = true) (hs' : s'.size ≤ maxLen) (hc' : (Lit.int .i64 c').wf = true) (h : keyL s c = keyL s' c') : s = s' ∧ c = c' := by
  have e := lawK.inj (key_of s c hs hc) (by rw [h]; exact key_of s' c' hs' hc')
  injection e with e
  simp at e
  exact e
/-- How a pointer to a line reads: its block's number. -/
def pe : Value → Option (DataW Unit × List MemPlace)
  | .pointer none => some (.nil, [])
  | .pointer (some ⟨g, 0, none⟩) => some (.lit (.int .i64 g), [])
  | _ => none
theorem pe_inv_nil {v : Value} {ps : List MemPlace} (h : pe v = some (.nil, ps)) : v = .pointer none := by
  unfold pe at h
  split at h <;> simp_all
theorem pe_inv {v : Value} {g : Nat} {ps : List MemPlace} (h : pe v = some (.lit (.int .i64 g), ps)) : v = .pointer (some ⟨g, 0, none⟩) := by
  unfold pe at h
  split at h
  · simp at h
  · rename_i g'
    simp at h
    have : g' = g := by omega
    rw [this]
  · cases h
theorem pe_mk (g : Nat) : pe (.pointer (some ⟨g, 0, none⟩)) = some (.lit (.int .i64 g), []) := rfl
theorem zeroL (w : World) : (zeroValue 110).run Try.prog w = .ok (.pointer none) w := by kernel_rfl

/-- At r lie rates: M says of each key where its line lies, and what it holds. -/
structure Rt (w : World) (base r m n : Nat) (M : Lit → Option (Nat × Value × List Held)) : Prop where
  box : w.heap[r]? = some (.cells #[.map (some m)] 86 (0, 0))
  own : ∃ D : DataW Unit, w.ownsMap Try.prog 109 pe m n D ∧ IsMap D ∧ ∀ kl, (M kl = none → has D kl = false) ∧ (∀ g v l, M kl = some (g, v, l) → has D kl = true ∧ D.atKey kl .nil = .lit (.int .i64 g))
  lin : ∀ kl g v l, M kl = some (g, v, l) → Lin w base g v l
  apart : ∀ k1 k2 g1 v1 l1 g2 v2 l2, M k1 = some (g1, v1, l1) → M k2 = some (g2, v2, l2) → k1 ≠ k2 → g1 ≠ g2 ∧ (v1.ownBlock = none ∨ v1.ownBlock ≠ v2.ownBlock)
  rge : base ≤ r
  mge : base ≤ m
  rm : r ≠ m
theorem Rt.below {w w1 : World} {base r m n : Nat} {M : Lit → Option (Nat × Value × List Held)} (h : Rt w base r m n M) (hb : Below w.heap.size w w1) : Rt w1 base r m n M := by
  obtain ⟨D, ho, hi, hD⟩ := h.own
  obtain ⟨es, clock, hm, hF, hs, hd⟩ := ho
  exact ⟨block_on hb h.box, ⟨D, ⟨es, clock, block_on hb hm, hF, hs, hd⟩, hi, hD⟩, fun kl g v l e => (h.lin kl g v l e).below hb, h.apart, h.rge, h.mge, h.rm⟩
theorem none_any (w : World) (r m : Nat) (h : w.heap[r]? = some (.cells #[.map (some m)] 86 (0, 0))) : Calls Try.prog 52 #[.pointer (some ⟨r, 0, none⟩)] w fun e w' => e = .returned (.bool false) ∧ w = w' := by
  have c0 := cells1 h
  have qT : ∀ (w : World) (r : Option Nat), (binOp .eql 84 (.map r) (.map none)).run Try.prog w = .ok (.bool r.isNone) w := fun w r => run_eql_map_nil w _ _ _ r Try.underlying84
  clear h
  go_enter Try.func52, Try.ntmps52
  go_wp2
  go_ret
  exact ⟨rfl, rfl⟩
theorem new_any (w : World) : Calls Try.prog 13 #[] w fun e w' => e = .returned (.pointer (some ⟨w.heap.size + 1, 0, none⟩)) ∧ Rt w' w.heap.size (w.heap.size + 1) w.heap.size 0 (fun _ => none) ∧ Below w.heap.size w w' := by
  have hmm := @run_makeMap Try.prog
  go_enter Try.func13, Try.ntmps13
  go_wp2
  go_ret
  refine ⟨rfl, ⟨?_, ⟨.map [], (World.ownsMap_made _ _ _ _).alloc _, isMap_empty, fun kl => ⟨fun _ => rfl, fun g v l e => by cases e⟩⟩, fun kl g v l e => (by cases e), fun k1 k2 g1 v1 l1 g2 v2 l2 e => (by cases e), by omega, Nat.le_refl _, by omega⟩, s_alloc ((Below.refl _ _).alloc (Nat.le_refl _) _) _⟩
  have : (w.alloc (.map #[] 0)).heap.size = w.heap.size + 1 := by simp
  rw [← this]
  exact Array.getElem?_push_size
end Go.Proofs.Ytbjoegladcmibaa.Rt
