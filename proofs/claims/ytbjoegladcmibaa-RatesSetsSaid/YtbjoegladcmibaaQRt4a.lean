import Derived.Test.YtbjoegladcmibaaQRt3
namespace Go.Proofs.Ytbjoegladcmibaa.Rt
set_option linter.unusedVariables false
set_option linter.unusedSimpArgs false
set_option linter.unnecessarySimpa false
open Go.RowKit Go.Maps Go.Proofs.YtbjoegladcmibaaK Go.Proofs.Ytbjoegladcmibaa.Ln Go.Proofs.Ytbjoegladcmibaa.LnI

theorem ty_ne {w : World} {a b : Nat} {C1 C2 : Array Value} {t1 t2 : TypeId} {f1 f2 : Nat × Nat} (h1 : w.heap[a]? = some (.cells C1 t1 f1)) (h2 : w.heap[b]? = some (.cells C2 t2 f2)) (hne : t1 ≠ t2) : a ≠ b := by
  intro e
  subst e
  rw [h1] at h2
  injection h2 with h2
  injection h2 with _ h
  exact hne h
theorem map_ne {w : World} {a b : Nat} {C1 : Array Value} {t1 : TypeId} {f1 : Nat × Nat} {es : Array MapEntry} {ck : Nat} (h1 : w.heap[a]? = some (.cells C1 t1 f1)) (h2 : w.heap[b]? = some (.map es ck)) : a ≠ b := by
  intro e
  subst e
  rw [h1] at h2
  injection h2 with h2
  cases h2
theorem own_row {w : World} {base q : Nat} {v : Value} {l : List Held} (h : Row w base v l) (hq : v.ownBlock = some q) : ∃ cur, w.heap[q]? = some (.cells cur 147 (0, 0)) := by
  rcases h.2 with ⟨rfl, _⟩ | ⟨g', cap, cur, rfl, hb, hgg, rest⟩
  · cases hq
  · have e : g' = q := Option.some.inj hq
    subst e
    exact ⟨cur, hgg⟩
theorem own_ne {w : World} {base a : Nat} {v : Value} {l : List Held} (h : Row w base v l) {C : Array Value} {t : TypeId} {f : Nat × Nat} (ha : w.heap[a]? = some (.cells C t f)) (hne : t ≠ 147) : some a ≠ v.ownBlock := by
  intro e
  obtain ⟨cur, hc⟩ := own_row h e.symm
  exact ty_ne ha hc hne rfl
theorem own_map_ne {w : World} {base a : Nat} {v : Value} {l : List Held} (h : Row w base v l) {es : Array MapEntry} {ck : Nat} (ha : w.heap[a]? = some (.map es ck)) : some a ≠ v.ownBlock := by
  intro e
  obtain ⟨cur, hc⟩ := own_row h e.symm
  exact map_ne hc ha rfl

/-- The line that Set takes: the one that is there, or a new one. -/
structure Got (w : World) (base : Nat) (M : Lit → Option (Nat × Value × List Held)) (kl : Lit) (g : Nat) (v : Value) (l : List Held) : Prop where
  lin : Lin w base g v l
  eq : l = cont M kl
  isM : M kl = some (g, v, l) ∨ M kl = none
  sep : ∀ k g1 v1 l1, k ≠ kl → M k = some (g1, v1, l1) → g1 ≠ g ∧ ∀ q, v1.ownBlock = some q → some q ≠ v.ownBlock
theorem closure_any (w : World) (base r m n b kb : Nat) (M : Lit → Option (Nat × Value × List Held)) (h : Rt w base r m n M) (hbase : base ≤ w.heap.size) (s : ByteArray) (c : Int) (hs : s.size ≤ maxLen) (hc : (Lit.int .i64 c).wf = true)
    (hb : w.heap[b]? = some (.cells #[.pointer (some ⟨r, 0, none⟩)] 31 (0, 0))) (hk : w.heap[kb]? = some (.cells #[.string s, .int .i64 c] 109 (0, 0))) :
    Calls Try.prog 54 #[.pointer (some ⟨b, 0, none⟩), .pointer (some ⟨kb, 0, none⟩)] w fun e w' => ∃ g v l, e = .returned (.pointer (some ⟨g, 0, none⟩)) ∧ Got w' base M (keyL s c) g v l ∧ Below w.heap.size w w' := by
  cases hM : M (keyL s c) with
  | some z =>
    obtain ⟨g, v, l⟩ := z
    refine (of_some w base r m n b kb M h s c hs hc hb hk g v l hM).mono fun e w' ⟨he, hbl⟩ => ⟨g, v, l, he, ⟨(h.lin _ _ _ _ hM).below hbl, by unfold cont; rw [hM], Or.inl hM, fun k g1 v1 l1 hne hk1 => ?_⟩, hbl⟩
    obtain ⟨a1, a2⟩ := h.apart _ _ _ _ _ _ _ _ hk1 hM hne
    refine ⟨a1, fun q hq e => ?_⟩
    rcases a2 with a2 | a2
    · rw [a2] at hq; cases hq
    · exact a2 (hq.trans e)
  | none =>
    refine (of_none w base r m n b kb M h hbase s c hs hc hb hk hM).mono fun e w' ⟨he, hl, hbl⟩ => ⟨_, _, _, he, ⟨hl, by unfold cont; rw [hM], Or.inr hM, fun k g1 v1 l1 hne hk1 => ⟨?_, fun q hq e => by cases e⟩⟩, hbl⟩
    have := block_lt (h.lin _ _ _ _ hk1).box
    omega
theorem Row.grown {w w' : World} {base : Nat} {v : Value} {l : List Held} (h : Row w base v l) {m : Nat} (hg : w.grownBy w' (some m)) (hne : some m ≠ v.ownBlock) : Row w' base v l :=
  World.ownsRow.kept (row := some m) h hg (Or.inr (fun e => hne e.symm))
/-- Rates once the line's pointer is (again) in the map. -/
theorem Rt.put {w3 w4 w5 : World} {base r m n n' g : Nat} {M : Lit → Option (Nat × Value × List Held)} {kl : Lit} {v v' : Value} {l l' : List Held} (h : Rt w3 base r m n M) (hg : Got w3 base M kl g v l) (hL : Lin w4 base g v' l')
    (hk : Kp w3 w4 g v.ownBlock) (hat : ∀ q, v'.ownBlock = some q → v.ownBlock = some q ∨ w3.heap.size ≤ q)
    (hown : ∃ D : DataW Unit, w5.ownsMap Try.prog 109 pe m n' D ∧ IsMap D ∧ ∀ k, (upd M kl (g, v', l') k = none → has D k = false) ∧ (∀ g1 v1 l1, upd M kl (g, v', l') k = some (g1, v1, l1) → has D k = true ∧ D.atKey k .nil = .lit (.int .i64 g1)))
    (h5 : w4.grownBy w5 (some m)) : Rt w5 base r m n' (upd M kl (g, v', l')) := by
  obtain ⟨D, ho, hi, hD⟩ := h.own
  obtain ⟨es, clock, hmm, hF, hs, hd⟩ := ho
  have hrg : r ≠ g := ty_ne h.box hg.lin.box (by decide)
  have hro : some r ≠ v.ownBlock := own_ne hg.lin.row h.box (by decide)
  have hmg : m ≠ g := (map_ne hg.lin.box hmm).symm
  have hmo : some m ≠ v.ownBlock := own_map_ne hg.lin.row hmm
  have hm3 := block_lt hmm
  have s34 := hk.size
  have hr4 := (hk.block r (block_lt h.box) hrg hro).trans h.box
  have hm4 := (hk.block m hm3 hmg hmo).trans hmm
  have hmv' : some m ≠ v'.ownBlock := own_map_ne hL.row hm4
  have l5 : Lin w5 base g v' l' := ⟨(h5.block g (block_lt hL.box) (fun e => hmg (Option.some.inj e).symm)).trans hL.box, Row.grown hL.row h5 hmv', hL.ge, hL.most⟩
  have other : ∀ k g1 v1 l1, k ≠ kl → M k = some (g1, v1, l1) → Lin w5 base g1 v1 l1 := fun k g1 v1 l1 hne e => by
    have hL1 := h.lin k g1 v1 l1 e
    obtain ⟨q1, q2⟩ := hg.sep k g1 v1 l1 hne e
    have q3 : some g1 ≠ v.ownBlock := own_ne hg.lin.row hL1.box (by decide)
    have l4 : Lin w4 base g1 v1 l1 := by
      refine ⟨(hk.block g1 (block_lt hL1.box) q1 q3).trans hL1.box, ⟨hL1.row.1, ?_⟩, hL1.ge, hL1.most⟩
      rcases hL1.row.2 with hn | ⟨g', cap, cur, rfl, hb, hgg, rest⟩
      · exact .inl hn
      · exact .inr ⟨g', cap, cur, rfl, hb, (hk.block g' (block_lt hgg) (fun e => (own_ne hL1.row hg.lin.box (by decide)) (by rw [← e]; rfl)) (q2 g' rfl)).trans hgg, rest⟩
    have hm1 : g1 ≠ m := map_ne l4.box hm4
    exact ⟨(h5.block g1 (block_lt l4.box) (fun e => hm1 (Option.some.inj e))).trans l4.box, Row.grown l4.row h5 (own_map_ne l4.row hm4), l4.ge, l4.most⟩
  have sep' : ∀ k g1 v1 l1, k ≠ kl → M k = some (g1, v1, l1) → g1 ≠ g ∧ (v1.ownBlock = none ∨ v1.ownBlock ≠ v'.ownBlock) := fun k g1 v1 l1 hne e => by
    obtain ⟨q1, q2⟩ := hg.sep k g1 v1 l1 hne e
    refine ⟨q1, ?_⟩
    cases ho1 : v1.ownBlock with
    | none => exact Or.inl rfl
    | some q =>
      refine Or.inr (fun e2 => ?_)
      obtain ⟨cur, hc⟩ := own_row (h.lin k g1 v1 l1 e).row ho1
      rcases hat q e2.symm with h9 | h9
      · exact q2 q ho1 h9.symm
      · have := block_lt hc
        omega
  refine ⟨(h5.block r (by have := block_lt h.box; omega) (fun e => h.rm (Option.some.inj e))).trans hr4, hown, fun k g1 v1 l1 e => ?_, fun k1 k2 g1 v1 l1 g2 v2 l2 e1 e2 hne => ?_, h.rge, h.mge, h.rm⟩
  · by_cases hkk : k = kl
    · subst hkk
      rw [upd_same] at e
      injection e with e
      injection e with e1 e
      injection e with e2 e3
      subst e1 e2 e3
      exact l5
    · rw [upd_other _ _ _ _ hkk] at e
      exact other k g1 v1 l1 hkk e
  · by_cases hk1 : k1 = kl
    · subst hk1
      have hk2 : k2 ≠ k1 := fun e => hne e.symm
      rw [upd_same] at e1
      rw [upd_other _ _ _ _ hk2] at e2
      injection e1 with e1
      injection e1 with a1 e1
      injection e1 with a2 a3
      subst a1 a2 a3
      obtain ⟨p1, p2⟩ := sep' k2 g2 v2 l2 hk2 e2
      refine ⟨fun e => p1 e.symm, ?_⟩
      cases ho2 : v'.ownBlock with
      | none => exact Or.inl rfl
      | some q =>
        refine Or.inr (fun e => ?_)
        rcases p2 with p2 | p2
        · rw [p2] at e; cases e
        · exact p2 (e.symm.trans ho2.symm)
    · rw [upd_other _ _ _ _ hk1] at e1
      by_cases hk2 : k2 = kl
      · subst hk2
        rw [upd_same] at e2
        injection e2 with e2
        injection e2 with a1 e2
        injection e2 with a2 a3
        subst a1 a2 a3
        exact sep' k1 g1 v1 l1 hk1 e1
      · rw [upd_other _ _ _ _ hk2] at e2
        exact h.apart k1 k2 g1 v1 l1 g2 v2 l2 e1 e2 hne
end Go.Proofs.Ytbjoegladcmibaa.Rt
