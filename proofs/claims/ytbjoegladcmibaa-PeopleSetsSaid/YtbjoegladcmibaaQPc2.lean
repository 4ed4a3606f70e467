/-
  people: what a clone holds, round by round (plain).
-/
import Derived.Test.YtbjoegladcmibaaQPc1
import Derived.Maps.RangeWalk
namespace Go.Proofs.Ytbjoegladcmibaa.Pe
set_option linter.unusedVariables false
set_option linter.unusedSimpArgs false
set_option linter.unnecessarySimpa false
open Go.RowKit Go.Maps Go.Proofs.YtbjoegladcmibaaK Go.Proofs.Ytbjoegladcmibaa.Ln Go.Proofs.Ytbjoegladcmibaa.LnB Go.Proofs.Ytbjoegladcmibaa.Vi Go.Proofs.YtbjoegladcmibaaW.PrintWords

theorem keyS_inv {key : Value} {kl : Lit} (h : keyOf Try.prog 9 key = some kl) : ∃ s : ByteArray, key = .string s ∧ kl = .string s.data.toList ∧ s.size ≤ maxLen := by
  have hk := Try.underlying9
  cases key <;> simp [keyOf, hk, mapKey] at h
  exact ⟨_, rfl, h.2.symm, h.1⟩
def M1 (g : Nat) (v : Value) (l : List Held) : PM := fun k => match k with | none => some (g, v, l) | some _ => none
theorem Pp.start {w : World} {base p m g : Nat} {v : Value} {l : List Held} {home : ByteArray} (hL : Lin w base g v l) (hbox : w.heap[p]? = some (.cells #[.pointer (some ⟨g, 0, none⟩), .string home, .map (some m)] 105 (0, 0)))
    (hm : w.heap[m]? = some (.map #[] 0)) (hp : base ≤ p) (hmb : base ≤ m) : Pp w base p m 0 home (M1 g v l) := by
  obtain ⟨es, clock, hm', hF, hs, hd⟩ := World.ownsMap_made (H := Unit) w Try.prog 9 pc
  rw [show (w.alloc (.map #[] 0)).heap[w.heap.size]? = some (.map #[] 0) from Array.getElem?_push_size] at hm'
  injection hm' with hm'
  injection hm' with h1 h2
  subst h1 h2
  refine ⟨⟨g, v, l, rfl, hbox⟩, ⟨.map [], ⟨_, _, hm, hF, hs, hd⟩, isMap_empty, fun s _ => ⟨fun _ => rfl, fun g v l e => by cases e⟩⟩, fun s e => absurd rfl e, fun k g1 v1 l1 e => ?_, fun k1 k2 g1 v1 l1 g2 v2 l2 e1 e2 hne => ?_, hp, hmb, map_ne hbox hm⟩
  · cases k with
    | none => cases e; exact hL
    | some s => cases e
  · cases k1 with
    | some s => cases e1
    | none => cases k2 with
      | some s => cases e2
      | none => exact absurd rfl hne
theorem Pp.add {w w5 : World} {base p m n n' g : Nat} {home : ByteArray} {M : PM} {s : ByteArray} {v : Value} {l : List Held} (h : Pp w base p m n home M) (hss : s.size ≤ maxLen) (hM : M (some s) = none) (hL : Lin w base g v l)
    (hsep : ∀ k g1 v1 l1, M k = some (g1, v1, l1) → g1 ≠ g ∧ (v1.ownBlock = none ∨ v1.ownBlock ≠ v.ownBlock)) {D : DataW Unit} (hi : IsMap D)
    (hD : ∀ s : ByteArray, s.size ≤ maxLen → (M (some s) = none → has D (.string s.data.toList) = false) ∧ (∀ g v l, M (some s) = some (g, v, l) → has D (.string s.data.toList) = true ∧ D.atKey (.string s.data.toList) .nil = .lit (.int .i64 g)))
    (ho0 : w.ownsMap Try.prog 9 pc m n D)
    (ho : w5.ownsMap Try.prog 9 pc m n' (D.put (.string s.data.toList) (.lit (.int .i64 g)))) (h5 : w.grownBy w5 (some m)) : Pp w5 base p m n' home (upd M (some s) (g, v, l)) := by
  obtain ⟨g0, v0, l0, e0, hbox⟩ := h.box
  obtain ⟨es, clock, hmm, _⟩ := ho0
  have lin5 : ∀ g1 v1 l1, Lin w base g1 v1 l1 → Lin w5 base g1 v1 l1 := fun g1 v1 l1 l4 => ⟨(h5.block g1 (block_lt l4.box) (fun e => map_ne l4.box hmm (Option.some.inj e))).trans l4.box, Row.grown l4.row h5 (own_map_ne l4.row hmm), l4.ge, l4.most⟩
  refine ⟨⟨g0, v0, l0, by rw [upd_other _ _ _ _ (by simp)]; exact e0, (h5.block p (block_lt hbox) (fun e => h.pm (Option.some.inj e))).trans hbox⟩, ⟨_, ho, hi.put _ _, fun s' hs' => ?_⟩, fun s' hs' => ?_, fun k g1 v1 l1 e => ?_, fun k1 k2 g1 v1 l1 g2 v2 l2 e1 e2 hne => ?_, h.pge, h.mge, h.pm⟩
  · by_cases hk : s' = s
    · subst hk
      rw [upd_same]
      refine ⟨fun e => (by cases e), fun g1 v1 l1 e => ?_⟩
      cases e
      exact ⟨has_put_same hi (by simp [WideAt.IsKeyLit]) _, atKey_put_same hi (by simp [WideAt.IsKeyLit]) _ _⟩
    · have hk' : (some s' : Who) ≠ some s := fun e => hk (Option.some.inj e)
      have hl : Lit.string s'.data.toList ≠ Lit.string s.data.toList := fun x => hk (ba_of_list (by injection x))
      rw [upd_other _ _ _ _ hk', has_put_other hl, atKey_put_other hl]
      exact hD s' hs'
  · by_cases hk : some s' = some s
    · have := Option.some.inj hk
      subst this
      exact hss
    · rw [upd_other _ _ _ _ hk] at hs'
      exact h.big s' hs'
  · by_cases hk : k = some s
    · subst hk
      rw [upd_same] at e
      cases e
      exact lin5 _ _ _ hL
    · rw [upd_other _ _ _ _ hk] at e
      exact lin5 _ _ _ (h.lin _ _ _ _ e)
  · by_cases hk1 : k1 = some s
    · subst hk1
      have hk2 : k2 ≠ some s := fun e => hne e.symm
      rw [upd_same] at e1
      rw [upd_other _ _ _ _ hk2] at e2
      cases e1
      obtain ⟨q1, q2⟩ := hsep _ _ _ _ e2
      refine ⟨fun e => q1 e.symm, ?_⟩
      cases hv : v.ownBlock with
      | none => exact Or.inl rfl
      | some q =>
        refine Or.inr (fun e => ?_)
        rcases q2 with q2 | q2
        · rw [q2] at e; cases e
        · exact q2 (e.symm.trans hv.symm)
    · rw [upd_other _ _ _ _ hk1] at e1
      by_cases hk2 : k2 = some s
      · subst hk2
        rw [upd_same] at e2
        cases e2
        exact hsep _ _ _ _ e1
      · rw [upd_other _ _ _ _ hk2] at e2
        exact h.apart _ _ _ _ _ _ _ _ e1 e2 hne
/-- What is copied of M so far; left: what is still to come. -/
structure Part (M M' : PM) (left : Lit → Bool) : Prop where
  o1 : ∃ g v, M' none = some (g, v, cont M none)
  come : ∀ s : ByteArray, s.size ≤ maxLen → left (.string s.data.toList) = true → M' (some s) = none
  gone : ∀ s, M (some s) = none → M' (some s) = none
  did : ∀ s : ByteArray, s.size ≤ maxLen → left (.string s.data.toList) = false → M (some s) ≠ none → M' (some s) ≠ none ∧ cont M' (some s) = cont M (some s)
/-- The same, at other places. -/
structure Same (M M' : PM) : Prop where
  cont : ∀ k, cont M' k = cont M k
  none : ∀ k, M' k = none ↔ M k = none
theorem Part.start {M : PM} {left : Lit → Bool} {g : Nat} {v : Value} (h : ∀ s : ByteArray, s.size ≤ maxLen → M (some s) ≠ none → left (.string s.data.toList) = true) : Part M (M1 g v (Pe.cont M none)) left :=
  ⟨⟨g, v, rfl⟩, fun _ _ _ => rfl, fun _ _ => rfl, fun s hs h1 h2 => by rw [h s hs h2] at h1; cases h1⟩
theorem Part.step {M M' : PM} {left : Lit → Bool} (h : Part M M' left) {x : ByteArray} (hx : x.size ≤ maxLen) {g g' : Nat} {v v' : Value} {l : List Held} (hM : M (some x) = some (g, v, l)) :
    Part M (upd M' (some x) (g', v', l)) (fun z => left z && !z.sameKey (.string x.data.toList)) := by
  have hno : ∀ s : ByteArray, s ≠ x → (Lit.string s.data.toList).sameKey (.string x.data.toList) = false := fun s hs => by
    cases hk : (Lit.string s.data.toList).sameKey (.string x.data.toList)
    · rfl
    · have e := WideAt.sameKey_eq hk
      exact absurd (ba_of_list (by injection e)) hs
  have hne : ∀ s : ByteArray, s ≠ x → (some s : Who) ≠ some x := fun s hs e => hs (Option.some.inj e)
  refine ⟨?_, fun s hs hl => ?_, fun s hs => ?_, fun s hs hl hs2 => ?_⟩
  · obtain ⟨g1, v1, e⟩ := h.o1
    exact ⟨g1, v1, by rw [upd_other _ _ _ _ (by simp)]; exact e⟩
  · by_cases e : s = x
    · subst e
      simp [Lit.sameKey] at hl
    · rw [upd_other _ _ _ _ (hne s e)]
      rw [hno s e] at hl
      exact h.come s hs (by simpa using hl)
  · have e : s ≠ x := fun e => by rw [e, hM] at hs; cases hs
    rw [upd_other _ _ _ _ (hne s e)]
    exact h.gone s hs
  · by_cases e : s = x
    · subst e
      unfold Pe.cont
      rw [upd_same, hM]
      exact ⟨fun e => (by cases e), rfl⟩
    · rw [hno s e] at hl
      obtain ⟨a, b⟩ := h.did s hs (by simpa using hl) hs2
      unfold Pe.cont at b ⊢
      rw [upd_other _ _ _ _ (hne s e)]
      exact ⟨a, b⟩
theorem Part.same {M M' : PM} {left : Lit → Bool} (h : Part M M' left) (hl : ∀ kl, left kl = false) (hb : ∀ s, M (some s) ≠ none → s.size ≤ maxLen) (h0 : M none ≠ none) : Same M M' := by
  have key : ∀ k, Pe.cont M' k = Pe.cont M k ∧ (M' k = none ↔ M k = none) := fun k => by
    cases k with
    | none =>
      obtain ⟨g, v, e⟩ := h.o1
      exact ⟨by rw [show Pe.cont M' none = Pe.cont M none by unfold Pe.cont; rw [e]; rfl], ⟨fun x => (by rw [e] at x; cases x), fun x => absurd x h0⟩⟩
    | some s =>
      by_cases hs : M (some s) = none
      · have h1 := h.gone s hs
        exact ⟨by unfold Pe.cont; rw [hs, h1], ⟨fun _ => hs, fun _ => h1⟩⟩
      · obtain ⟨a, b⟩ := h.did s (hb s hs) (hl _) hs
        exact ⟨b, ⟨fun x => absurd x a, fun x => absurd x hs⟩⟩
  exact ⟨fun k => (key k).1, fun k => (key k).2⟩
end Go.Proofs.Ytbjoegladcmibaa.Pe
