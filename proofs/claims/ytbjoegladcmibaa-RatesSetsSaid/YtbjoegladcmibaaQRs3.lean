/-
  rates: what a Clone has copied so far.
-/
import Derived.Test.YtbjoegladcmibaaQRs1
import Derived.Test.YtbjoegladcmibaaQRs2
import Derived.Test.YtbjoegladcmibaaQSpI3
import Derived.Test.YtbjoegladcmibaaQShelf
namespace Go.Proofs.Ytbjoegladcmibaa.Rt
set_option linter.unusedVariables false
set_option linter.unusedSimpArgs false
set_option linter.unnecessarySimpa false
open Go.RowKit Go.Maps Go.Proofs.YtbjoegladcmibaaK Go.Proofs.Ytbjoegladcmibaa.Ln Go.Proofs.Ytbjoegladcmibaa.LnI Go.Proofs.Ytbjoegladcmibaa.SpI

/-- Every key that is there is one. -/
def KeysOk (M : RM) : Prop := ∀ kl, M kl ≠ none → ∃ s c, s.size ≤ maxLen ∧ (Lit.int .i64 c).wf = true ∧ kl = keyL s c
theorem KeysOk.of_rel {M : RM} {L : List VRatesSets.S26} (h : RelR M L) : KeysOk M := fun kl hk => by
  obtain ⟨x, hx, e⟩ := (h.all kl).1 hk
  obtain ⟨g1, g2, g3, g4⟩ := h.good x hx
  exact ⟨_, _, g2, wf3 ⟨g3, g4⟩, e⟩
theorem no_key {kl z : Lit} (h : z ≠ kl) : z.sameKey kl = false := by
  cases hk : z.sameKey kl
  · rfl
  · exact absurd (WideAt.sameKey_eq hk) h
theorem yes_key {kl : Lit} (h : WideAt.IsKeyLit kl) : kl.sameKey kl = true := WideAt.sameKey_self h
/-- Of M the lines that are still to come are its own, all others are new ones. -/
structure Half (w : World) (B : Nat) (M M' : RM) (D : DataW Unit) (left : Lit → Bool) : Prop where
  map : IsMap D
  no : ∀ kl, M kl = none → has D kl = false ∧ M' kl = none
  come : ∀ kl g v l, M kl = some (g, v, l) → left kl = true → has D kl = true ∧ M' kl = none ∧ D.atKey kl .nil = .lit (.int .i64 g)
  did : ∀ kl g v l, M kl = some (g, v, l) → left kl = false → has D kl = true ∧ ∃ g' v', M' kl = some (g', v', l) ∧ D.atKey kl .nil = .lit (.int .i64 g')
  lin : ∀ kl g v l, M' kl = some (g, v, l) → Lin w B g v l
  apart : ∀ k1 k2 g1 v1 l1 g2 v2 l2, M' k1 = some (g1, v1, l1) → M' k2 = some (g2, v2, l2) → k1 ≠ k2 → g1 ≠ g2 ∧ (v1.ownBlock = none ∨ v1.ownBlock ≠ v2.ownBlock)
theorem Half.start {w : World} {B : Nat} {M : RM} {D : DataW Unit} (hi : IsMap D) (hD : ∀ kl, (M kl = none → has D kl = false) ∧ (∀ g v l, M kl = some (g, v, l) → has D kl = true ∧ D.atKey kl .nil = .lit (.int .i64 g))) : Half w B M (fun _ => none) D (has D) :=
  ⟨hi, fun kl h => ⟨(hD kl).1 h, rfl⟩, fun kl g v l h _ => ⟨((hD kl).2 g v l h).1, rfl, ((hD kl).2 g v l h).2⟩, fun kl g v l h h2 => (by rw [((hD kl).2 g v l h).1] at h2; cases h2), fun kl g v l e => (by cases e), fun k1 k2 g1 v1 l1 g2 v2 l2 e => (by cases e)⟩
theorem Half.below {w w1 : World} {B : Nat} {M M' : RM} {D : DataW Unit} {left : Lit → Bool} (h : Half w B M M' D left) (hb : Below w.heap.size w w1) : Half w1 B M M' D left :=
  ⟨h.map, h.no, h.come, h.did, fun kl g v l e => (h.lin kl g v l e).below hb, h.apart⟩
theorem lin_ne_map {w : World} {base g m : Nat} {v : Value} {l : List Held} (h : Lin w base g v l) {es : Array MapEntry} {ck : Nat} (hm : w.heap[m]? = some (.map es ck)) : g ≠ m ∧ some m ≠ v.ownBlock :=
  ⟨map_ne h.box hm, own_map_ne h.row hm⟩
theorem lin_grown {w w1 : World} {base g m : Nat} {v : Value} {l : List Held} (h : Lin w base g v l) (hg : w.grownBy w1 (some m)) (h1 : g ≠ m) (h2 : some m ≠ v.ownBlock) : Lin w1 base g v l :=
  ⟨(hg.block g (block_lt h.box) (fun e => h1 (Option.some.inj e))).trans h.box, Row.grown h.row hg h2, h.ge, h.most⟩
theorem lin_iter {w w1 : World} {base g r : Nat} {v : Value} {l : List Held} {b n cnt : Nat} {D : DataW Unit} {left : Lit → Bool} (h : Lin w base g v l) (hr : w.ranges Try.prog 109 pe b r n D left cnt) (hg : w.grownBy w1 (some r)) : Lin w1 base g v l := by
  obtain ⟨es, clock, since, seen, c0, hb, _, _, _, hi, _⟩ := hr
  refine lin_grown h hg (fun e => ?_) (fun e => ?_)
  · rw [← e, h.box] at hi
    injection hi with hi
    cases hi
  · obtain ⟨cur, hc⟩ := own_row h.row e.symm
    rw [hc] at hi
    injection hi with hi
    cases hi
theorem Half.iter {w w1 : World} {B b r n cnt : Nat} {M M' : RM} {D D2 : DataW Unit} {left left2 : Lit → Bool} (h : Half w B M M' D left) (hr : w.ranges Try.prog 109 pe b r n D2 left2 cnt) (hg : w.grownBy w1 (some r)) : Half w1 B M M' D left :=
  ⟨h.map, h.no, h.come, h.did, fun kl g v l e => lin_iter (h.lin kl g v l e) hr hg, h.apart⟩
/-- One more is copied: w: ahead of the copying; w2: behind it; w5: behind the storing. -/
theorem Half.step {w w2 w5 : World} {B m g g' : Nat} {M M' : RM} {D : DataW Unit} {left : Lit → Bool} {kl : Lit} {v v' : Value} {l : List Held} (h : Half w B M M' D left) (hkl : WideAt.IsKeyLit kl) (hM : M kl = some (g, v, l)) (hl : left kl = true)
    (hb : Below w.heap.size w w2) (hL : Lin w2 w.heap.size g' v' l) (hB : B ≤ w.heap.size) {es : Array MapEntry} {ck : Nat} (hm : w2.heap[m]? = some (.map es ck)) (hg : w2.grownBy w5 (some m)) :
    Half w5 B M (upd M' kl (g', v', l)) (D.put kl (.lit (.int .i64 g'))) (fun z => left z && !z.sameKey kl) := by
  have hL2 : Lin w5 w.heap.size g' v' l := lin_grown hL hg (lin_ne_map hL hm).1 (lin_ne_map hL hm).2
  have hold : ∀ k2 g2 v2 l2, M' k2 = some (g2, v2, l2) → Lin w5 B g2 v2 l2 := fun k2 g2 v2 l2 e => by
    have := (h.lin k2 g2 v2 l2 e).below hb
    exact lin_grown this hg (lin_ne_map this hm).1 (lin_ne_map this hm).2
  have hsep : ∀ k2 g2 v2 l2, M' k2 = some (g2, v2, l2) → g2 ≠ g' ∧ (v2.ownBlock = none ∨ v2.ownBlock ≠ v'.ownBlock) := fun k2 g2 v2 l2 e => by
    have hq := h.lin k2 g2 v2 l2 e
    have h1 := block_lt hq.box
    have h2 := hL.ge
    refine ⟨by omega, ?_⟩
    cases hv : v2.ownBlock with
    | none => exact Or.inl rfl
    | some q =>
      refine Or.inr (fun e2 => ?_)
      obtain ⟨cur, hc⟩ := own_row hq.row hv
      have h3 := block_lt hc
      have h4 := own_ge hL.row e2.symm
      omega
  refine ⟨h.map.put _ _, fun k2 hk2 => ?_, fun k2 g2 v2 l2 hk2 hl2 => ?_, fun k2 g2 v2 l2 hk2 hl2 => ?_, fun k2 g2 v2 l2 e => ?_, fun k1 k2 g1 v1 l1 g2 v2 l2 e1 e2 hne => ?_⟩
  · have hne : k2 ≠ kl := fun e => by rw [e, hM] at hk2; cases hk2
    rw [has_put_other hne, upd_other _ _ _ _ hne]
    exact h.no k2 hk2
  · have hne : k2 ≠ kl := fun e => by
      rw [e, yes_key hkl] at hl2
      simp at hl2
    rw [no_key hne] at hl2
    rw [has_put_other hne, upd_other _ _ _ _ hne, atKey_put_other hne]
    exact h.come k2 g2 v2 l2 hk2 (by simpa using hl2)
  · by_cases hne : k2 = kl
    · subst hne
      rw [hM] at hk2
      cases hk2
      exact ⟨has_put_same h.map hkl _, g', v', upd_same _ _ _, atKey_put_same h.map hkl _ _⟩
    · rw [no_key hne] at hl2
      rw [has_put_other hne, upd_other _ _ _ _ hne, atKey_put_other hne]
      exact h.did k2 g2 v2 l2 hk2 (by simpa using hl2)
  · by_cases hne : k2 = kl
    · subst hne
      rw [upd_same] at e
      cases e
      exact lin_less hL2 hB
    · rw [upd_other _ _ _ _ hne] at e
      exact hold k2 g2 v2 l2 e
  · by_cases h1 : k1 = kl
    · subst h1
      rw [upd_same] at e1
      cases e1
      rw [upd_other _ _ _ _ (fun e => hne e.symm)] at e2
      obtain ⟨a, b⟩ := hsep k2 g2 v2 l2 e2
      refine ⟨fun e => a e.symm, ?_⟩
      rcases b with b | b
      · cases hv : v'.ownBlock with
        | none => exact Or.inl rfl
        | some q => exact Or.inr (by rw [b]; simp)
      · exact Or.inr (fun e => b e.symm)
    · rw [upd_other _ _ _ _ h1] at e1
      by_cases h2 : k2 = kl
      · subst h2
        rw [upd_same] at e2
        cases e2
        exact hsep k1 g1 v1 l1 e1
      · rw [upd_other _ _ _ _ h2] at e2
        exact h.apart _ _ _ _ _ _ _ _ e1 e2 hne
theorem Half.done {w : World} {B r m n : Nat} {M M' : RM} {D : DataW Unit} {left : Lit → Bool} (h : Half w B M M' D left) (hl : ∀ kl, left kl = false) (hbox : w.heap[r]? = some (.cells #[.map (some m)] 86 (0, 0)))
    (ho : w.ownsMap Try.prog 109 pe m n D) (hr : B ≤ r) (hm : B ≤ m) (hrm : r ≠ m) : Rt w B r m n M' ∧ SameR M M' := by
  have hsome : ∀ kl g v l, M kl = some (g, v, l) → ∃ g' v', M' kl = some (g', v', l) ∧ has D kl = true ∧ D.atKey kl .nil = .lit (.int .i64 g') := fun kl g v l e => by
    obtain ⟨a, g', v', b, c⟩ := h.did kl g v l e (hl kl)
    exact ⟨g', v', b, a, c⟩
  refine ⟨⟨hbox, ⟨D, ho, h.map, fun kl => ⟨fun e => ?_, fun g v l e => ?_⟩⟩, h.lin, h.apart, hr, hm, hrm⟩, ⟨fun kl => ?_, fun kl => ?_⟩⟩
  · cases hM : M kl with
    | none => exact (h.no kl hM).1
    | some z =>
      obtain ⟨g', v', b, _⟩ := hsome kl z.1 z.2.1 z.2.2 hM
      rw [b] at e; cases e
  · cases hM : M kl with
    | none => rw [(h.no kl hM).2] at e; cases e
    | some z =>
      obtain ⟨g', v', b, c, d⟩ := hsome kl z.1 z.2.1 z.2.2 hM
      rw [b] at e; cases e
      exact ⟨c, d⟩
  · unfold cont
    cases hM : M kl with
    | none => rw [(h.no kl hM).2]
    | some z =>
      obtain ⟨g', v', b, _⟩ := hsome kl z.1 z.2.1 z.2.2 hM
      rw [b]
  · cases hM : M kl with
    | none => exact ⟨fun _ => rfl, fun _ => (h.no kl hM).2⟩
    | some z =>
      obtain ⟨g', v', b, _⟩ := hsome kl z.1 z.2.1 z.2.2 hM
      rw [b]
      exact ⟨fun e => (by cases e), fun e => (by cases e)⟩
end Go.Proofs.Ytbjoegladcmibaa.Rt
