/-
  people: what a setting leaves.
-/
import Derived.Test.YtbjoegladcmibaaQPe2
namespace Go.Proofs.Ytbjoegladcmibaa.Pe
set_option linter.unusedVariables false
set_option linter.unusedSimpArgs false
set_option linter.unnecessarySimpa false
open Go.RowKit Go.Maps Go.Proofs.YtbjoegladcmibaaK Go.Proofs.Ytbjoegladcmibaa.Ln Go.Proofs.Ytbjoegladcmibaa.LnB Go.Proofs.Ytbjoegladcmibaa.Vi Go.Proofs.YtbjoegladcmibaaW.PrintWords

theorem ty_ne {w : World} {a b : Nat} {C1 C2 : Array Value} {t1 t2 : TypeId} {f1 f2 : Nat × Nat} (h1 : w.heap[a]? = some (.cells C1 t1 f1)) (h2 : w.heap[b]? = some (.cells C2 t2 f2)) (hne : t1 ≠ t2) : a ≠ b := by
  intro e
  subst e
  rw [h1] at h2
  injection h2 with h2
  injection h2 with _ h
  exact hne h
theorem map_ne {w : World} {a b : Nat} {C1 : Array Value} {t1 : TypeId} {f1 : Nat × Nat} {es : Array MapEntry} {ck : Nat} (h1 : w.heap[a]? = some (.cells C1 t1 f1)) (h2 : w.heap[b]? = some (.map es ck)) : a ≠ b := by
  intro e
  subst e
  rw [h1] at h2
  injection h2 with h2
  cases h2
theorem own_row {w : World} {base q : Nat} {v : Value} {l : List Held} (h : Row w base v l) (hq : v.ownBlock = some q) : ∃ cur, w.heap[q]? = some (.cells cur 154 (0, 0)) := by
  rcases h.2 with ⟨rfl, _⟩ | ⟨g', cap, cur, rfl, hb, hgg, rest⟩
  · cases hq
  · have e : g' = q := Option.some.inj hq
    subst e
    exact ⟨cur, hgg⟩
theorem own_ne {w : World} {base a : Nat} {v : Value} {l : List Held} (h : Row w base v l) {C : Array Value} {t : TypeId} {f : Nat × Nat} (ha : w.heap[a]? = some (.cells C t f)) (hne : t ≠ 154) : some a ≠ v.ownBlock := by
  intro e
  obtain ⟨cur, hc⟩ := own_row h e.symm
  exact ty_ne ha hc hne rfl
theorem own_map_ne {w : World} {base a : Nat} {v : Value} {l : List Held} (h : Row w base v l) {es : Array MapEntry} {ck : Nat} (ha : w.heap[a]? = some (.map es ck)) : some a ≠ v.ownBlock := by
  intro e
  obtain ⟨cur, hc⟩ := own_row h e.symm
  exact map_ne hc ha rfl
theorem Row.grown {w w' : World} {base : Nat} {v : Value} {l : List Held} (h : Row w base v l) {m : Nat} (hg : w.grownBy w' (some m)) (hne : some m ≠ v.ownBlock) : Row w' base v l :=
  World.ownsRow.kept (row := some m) h hg (Or.inr (fun e => hne e.symm))
open Classical in
noncomputable def upd (M : PM) (kl : Who) (x : Nat × Value × List Held) : PM := fun k => if k = kl then some x else M k
theorem upd_same (M : PM) (kl : Who) (x : Nat × Value × List Held) : upd M kl x kl = some x := by unfold upd; rw [if_pos rfl]
theorem upd_other (M : PM) (kl k : Who) (x : Nat × Value × List Held) (h : k ≠ kl) : upd M kl x k = M k := by unfold upd; rw [if_neg h]
/-- The line that is set: the one that is there, or a new one. -/
structure Got (w : World) (base : Nat) (M : PM) (kl : Who) (g : Nat) (v : Value) (l : List Held) : Prop where
  lin : Lin w base g v l
  eq : l = cont M kl
  isM : M kl = some (g, v, l) ∨ (M kl = none ∧ kl ≠ none)
  sep : ∀ k g1 v1 l1, k ≠ kl → M k = some (g1, v1, l1) → g1 ≠ g ∧ ∀ q, v1.ownBlock = some q → some q ≠ v.ownBlock
theorem Pp.got {w : World} {base p m n : Nat} {home : ByteArray} {M : PM} (h : Pp w base p m n home M) {kl : Who} {g : Nat} {v : Value} {l : List Held} (hM : M kl = some (g, v, l)) : Got w base M kl g v l :=
  ⟨h.lin _ _ _ _ hM, by unfold cont; rw [hM], Or.inl hM, fun k g1 v1 l1 hne hk1 => by
    obtain ⟨a1, a2⟩ := h.apart _ _ _ _ _ _ _ _ hk1 hM hne
    refine ⟨a1, fun q hq e => ?_⟩
    rcases a2 with a2 | a2
    · rw [a2] at hq; cases hq
    · exact a2 (hq.trans e)⟩
theorem Pp.got_new {w w1 : World} {base p m n : Nat} {home : ByteArray} {M : PM} (h : Pp w base p m n home M) {s : ByteArray} {g : Nat} (hM : M (some s) = none) (hg : w.heap.size ≤ g) (hl : Lin w1 base g (.slice none 0 0) []) : Got w1 base M (some s) g (.slice none 0 0) [] :=
  ⟨hl, by unfold cont; rw [hM], Or.inr ⟨hM, fun e => by cases e⟩, fun k g1 v1 l1 hne hk1 => ⟨by have := block_lt (h.lin _ _ _ _ hk1).box; omega, fun q hq e => by cases e⟩⟩
/-- People once the line is written, and (again) in the map. -/
theorem Pp.put {w3 w4 w5 : World} {base p m n n' g : Nat} {home : ByteArray} {M : PM} {kl : Who} {v v' : Value} {l l' : List Held} (h : Pp w3 base p m n home M) (hg : Got w3 base M kl g v l) (hL : Lin w4 base g v' l')
    (hk : Kp w3 w4 g v.ownBlock) (hat : ∀ q, v'.ownBlock = some q → v.ownBlock = some q ∨ w3.heap.size ≤ q) (hbig : ∀ s, kl = some s → s.size ≤ maxLen)
    (hown : ∃ D : DataW Unit, w5.ownsMap Try.prog 9 pc m n' D ∧ IsMap D ∧ ∀ s : ByteArray, s.size ≤ maxLen → (upd M kl (g, v', l') (some s) = none → has D (.string s.data.toList) = false) ∧ (∀ g1 v1 l1, upd M kl (g, v', l') (some s) = some (g1, v1, l1) → has D (.string s.data.toList) = true ∧ D.atKey (.string s.data.toList) .nil = .lit (.int .i64 g1)))
    (h5 : w4.grownBy w5 (some m)) : Pp w5 base p m n' home (upd M kl (g, v', l')) := by
  obtain ⟨D, ho, hi, hD⟩ := h.own
  obtain ⟨es, clock, hmm, hF, hs, hd⟩ := ho
  obtain ⟨g0, v0, l0, e0, hbox⟩ := h.box
  have hrg : p ≠ g := ty_ne hbox hg.lin.box (by decide)
  have hro : some p ≠ v.ownBlock := own_ne hg.lin.row hbox (by decide)
  have hmg : m ≠ g := (map_ne hg.lin.box hmm).symm
  have hmo : some m ≠ v.ownBlock := own_map_ne hg.lin.row hmm
  have hm3 := block_lt hmm
  have s34 := hk.size
  have hr4 := (hk.block p (block_lt hbox) hrg hro).trans hbox
  have hm4 := (hk.block m hm3 hmg hmo).trans hmm
  have hmv' : some m ≠ v'.ownBlock := own_map_ne hL.row hm4
  have l5 : Lin w5 base g v' l' := ⟨(h5.block g (block_lt hL.box) (fun e => hmg (Option.some.inj e).symm)).trans hL.box, Row.grown hL.row h5 hmv', hL.ge, hL.most⟩
  have other : ∀ k g1 v1 l1, k ≠ kl → M k = some (g1, v1, l1) → Lin w5 base g1 v1 l1 := fun k g1 v1 l1 hne e => by
    have hL1 := h.lin k g1 v1 l1 e
    obtain ⟨q1, q2⟩ := hg.sep k g1 v1 l1 hne e
    have q3 : some g1 ≠ v.ownBlock := own_ne hg.lin.row hL1.box (by decide)
    have l4 : Lin w4 base g1 v1 l1 := by
      refine ⟨(hk.block g1 (block_lt hL1.box) q1 q3).trans hL1.box, ⟨hL1.row.1, ?_⟩, hL1.ge, hL1.most⟩
      rcases hL1.row.2 with hn | ⟨g', cap, cur, rfl, hb, hgg, rest⟩
      · exact .inl hn
      · exact .inr ⟨g', cap, cur, rfl, hb, (hk.block g' (block_lt hgg) (fun e => (own_ne hL1.row hg.lin.box (by decide)) (by rw [← e]; rfl)) (q2 g' rfl)).trans hgg, rest⟩
    have hm1 : g1 ≠ m := map_ne l4.box hm4
    exact ⟨(h5.block g1 (block_lt l4.box) (fun e => hm1 (Option.some.inj e))).trans l4.box, Row.grown l4.row h5 (own_map_ne l4.row hm4), l4.ge, l4.most⟩
  have sep' : ∀ k g1 v1 l1, k ≠ kl → M k = some (g1, v1, l1) → g1 ≠ g ∧ (v1.ownBlock = none ∨ v1.ownBlock ≠ v'.ownBlock) := fun k g1 v1 l1 hne e => by
    obtain ⟨q1, q2⟩ := hg.sep k g1 v1 l1 hne e
    refine ⟨q1, ?_⟩
    cases ho1 : v1.ownBlock with
    | none => exact Or.inl rfl
    | some q =>
      refine Or.inr (fun e2 => ?_)
      obtain ⟨cur, hc⟩ := own_row (h.lin k g1 v1 l1 e).row ho1
      rcases hat q e2.symm with h9 | h9
      · exact q2 q ho1 h9.symm
      · have := block_lt hc
        omega
  have hbox5 : w5.heap[p]? = some (.cells #[.pointer (some ⟨g0, 0, none⟩), .string home, .map (some m)] 105 (0, 0)) := (h5.block p (by have := block_lt hbox; omega) (fun e => h.pm (Option.some.inj e))).trans hr4
  refine ⟨?_, hown, fun s hs => ?_, fun k g1 v1 l1 e => ?_, fun k1 k2 g1 v1 l1 g2 v2 l2 e1 e2 hne => ?_, h.pge, h.mge, h.pm⟩
  · by_cases hkn : kl = none
    · subst hkn
      rcases hg.isM with e | ⟨e, e9⟩
      · rw [e0] at e
        injection e with e
        injection e with e1 e2
        subst e1
        exact ⟨g0, v', l', upd_same _ _ _, hbox5⟩
      · exact absurd rfl e9
    · exact ⟨g0, v0, l0, by rw [upd_other _ _ _ _ (fun e => hkn e.symm)]; exact e0, hbox5⟩
  · by_cases hkk : some s = kl
    · exact hbig s hkk.symm
    · rw [upd_other _ _ _ _ hkk] at hs
      exact h.big s hs
  · by_cases hkk : k = kl
    · subst hkk
      rw [upd_same] at e
      injection e with e
      injection e with e1 e
      injection e with e2 e3
      subst e1 e2 e3
      exact l5
    · rw [upd_other _ _ _ _ hkk] at e
      exact other k g1 v1 l1 hkk e
  · by_cases hk1 : k1 = kl
    · subst hk1
      have hk2 : k2 ≠ k1 := fun e => hne e.symm
      rw [upd_same] at e1
      rw [upd_other _ _ _ _ hk2] at e2
      injection e1 with e1
      injection e1 with a1 e1
      injection e1 with a2 a3
      subst a1 a2 a3
      obtain ⟨p1, p2⟩ := sep' k2 g2 v2 l2 hk2 e2
      refine ⟨fun e => p1 e.symm, ?_⟩
      cases ho2 : v'.ownBlock with
      | none => exact Or.inl rfl
      | some q =>
        refine Or.inr (fun e => ?_)
        rcases p2 with p2 | p2
        · rw [p2] at e; cases e
        · exact p2 (e.symm.trans ho2.symm)
    · rw [upd_other _ _ _ _ hk1] at e1
      by_cases hk2 : k2 = kl
      · subst hk2
        rw [upd_same] at e2
        injection e2 with e2
        injection e2 with a1 e2
        injection e2 with a2 a3
        subst a1 a2 a3
        exact sep' k1 g1 v1 l1 hk1 e1
      · rw [upd_other _ _ _ _ hk2] at e2
        exact h.apart k1 k2 g1 v1 l1 g2 v2 l2 e1 e2 hne
/-- A line that was written, or is new, and not in the map. -/
theorem Pp.kept {w w' : World} {base p m n g : Nat} {home : ByteArray} {row : Option Nat} {M : PM} (h : Pp w base p m n home M) (hk : Kp w w' g row) (hr : p ≠ g ∧ some p ≠ row) (hm : m ≠ g ∧ some m ≠ row)
    (hl : ∀ kl g1 v1 l1, M kl = some (g1, v1, l1) → g1 ≠ g ∧ some g1 ≠ row ∧ (∀ q, v1.ownBlock = some q → q ≠ g ∧ some q ≠ row)) : Pp w' base p m n home M := by
  obtain ⟨g0, v0, l0, e0, hbox⟩ := h.box
  obtain ⟨D, ho, hi, hD⟩ := h.own
  obtain ⟨es, clock, hmm, hF, hs, hd⟩ := ho
  refine ⟨⟨g0, v0, l0, e0, (hk.block p (block_lt hbox) hr.1 hr.2).trans hbox⟩, ⟨D, ⟨es, clock, (hk.block m (block_lt hmm) hm.1 hm.2).trans hmm, hF, hs, hd⟩, hi, hD⟩, h.big, fun kl g1 v1 l1 e => ?_, h.apart, h.pge, h.mge, h.pm⟩
  have hL := h.lin kl g1 v1 l1 e
  obtain ⟨q1, q2, q3⟩ := hl kl g1 v1 l1 e
  refine ⟨(hk.block g1 (block_lt hL.box) q1 q2).trans hL.box, ⟨hL.row.1, ?_⟩, hL.ge, hL.most⟩
  rcases hL.row.2 with hn | ⟨g', cap, cur, rfl, hb, hgg, rest⟩
  · exact .inl hn
  · obtain ⟨q4, q5⟩ := q3 g' rfl
    exact .inr ⟨g', cap, cur, rfl, hb, (hk.block g' (block_lt hgg) q4 q5).trans hgg, rest⟩
theorem map_kp {w w' : World} {base g m n : Nat} {M : PM} {kl : Who} {v : Value} {l : List Held} {D : DataW Unit} (ho : w.ownsMap Try.prog 9 pc m n D) (hG : Got w base M kl g v l) (hk : Kp w w' g v.ownBlock) : w'.ownsMap Try.prog 9 pc m n D := by
  obtain ⟨es, clock, hmm, rest⟩ := ho
  exact ⟨es, clock, (hk.block m (block_lt hmm) (map_ne hG.lin.box hmm).symm (own_map_ne hG.lin.row hmm)).trans hmm, rest⟩
theorem kp_cells {w w' : World} {base g a : Nat} {M : PM} {kl : Who} {v : Value} {l : List Held} (hG : Got w base M kl g v l) (hk : Kp w w' g v.ownBlock) {C : Array Value} {t : TypeId} {f : Nat × Nat} (h : w.heap[a]? = some (.cells C t f)) (h1 : t ≠ 152) (h2 : t ≠ 154) : w'.heap[a]? = some (.cells C t f) :=
  (hk.block a (block_lt h) (ty_ne h hG.lin.box h1) (own_ne hG.lin.row h h2)).trans h
theorem own_ge {w : World} {base q : Nat} {v : Value} {l : List Held} (h : Row w base v l) (hq : v.ownBlock = some q) : base ≤ q := by
  rcases h.2 with ⟨rfl, _⟩ | ⟨g', cap, cur, rfl, hb, hgg, rest⟩
  · cases hq
  · have e : g' = q := Option.some.inj hq
    omega
theorem below_base {w w3 w4 : World} {base g : Nat} {v : Value} {l : List Held} (hbase : base ≤ w.heap.size) (hB : Below w.heap.size w w3) (hL : Lin w3 base g v l) (hK : Kp w3 w4 g v.ownBlock) : Below base w w4 := by
  refine ⟨hK.os.trans hB.os, hK.tape.trans hB.tape, hK.output.trans hB.output, Nat.le_trans hB.size hK.size, fun k hk => ?_⟩
  refine (hK.block k (by have := hB.size; omega) (by have := hL.ge; omega) (fun e => ?_)).trans (hB.block k (by omega))
  have := own_ge hL.row e.symm
  omega
/-- What is neither a line nor a line's row is as it was. -/
def Keeps (w w' : World) : Prop := ∀ (k : Nat) (C : Array Value) (t : TypeId) (f : Nat × Nat), t ≠ 152 → t ≠ 154 → w.heap[k]? = some (.cells C t f) → w'.heap[k]? = some (.cells C t f)
/-- What a setting of k leaves: its error, and what the line then holds. -/
def StP (w : World) (base p m n : Nat) (home : ByteArray) (M : PM) (k : Who) (E : Int) (L : List Held) (e : Ending) (w' : World) : Prop :=
  e = .returned (.int .i64 E) ∧ (∃ M', Pp w' base p m (n + 1) home M' ∧ (∀ j, j ≠ k → M' j = M j) ∧ cont M' k = L ∧ (M' k = none ↔ M k = none ∧ E ≠ 0) ∧ Keeps w w') ∧ Below base w w'
theorem st_same {w w' : World} {base p m n : Nat} {home : ByteArray} {M : PM} {k : Who} {E : Int} (h : Pp w base p m n home M) (hbase : base ≤ w.heap.size) (hb : Below w.heap.size w w') (he : E ≠ 0) : StP w base p m n home M k E (cont M k) (.returned (.int .i64 E)) w' :=
  ⟨rfl, ⟨M, (h.below hb).mono (Nat.le_succ _), fun _ _ => rfl, rfl, ⟨fun e => ⟨e, he⟩, fun e => e.1⟩, fun k C t f _ _ e => block_on hb e⟩, ⟨hb.os, hb.tape, hb.output, hb.size, fun k hk => hb.block k (by omega)⟩⟩
/-- The line was set (or not), the map is as it was. -/
theorem st_kept {w w3 w4 : World} {base p m n g : Nat} {home : ByteArray} {M : PM} {kl : Who} {v v' : Value} {l l' : List Held} {E : Int} (h : Pp w base p m n home M) (hbase : base ≤ w.heap.size) (hB : Below w.heap.size w w3) (hG : Got w3 base M kl g v l) (hL : Lin w4 base g v' l')
    (hK : Kp w3 w4 g v.ownBlock) (hA : ∀ q, v'.ownBlock = some q → v.ownBlock = some q ∨ w3.heap.size ≤ q) (hc : M kl = some (g, v, l) ∨ (E ≠ 0 ∧ l' = l)) : StP w base p m n home M kl E l' (.returned (.int .i64 E)) w4 := by
  have h3 := h.below hB
  obtain ⟨D, ho, hi, hD⟩ := h3.own
  refine ⟨rfl, ?_, below_base hbase hB hG.lin hK⟩
  have hkeep : Keeps w w4 := fun k C t f h1 h2 e => kp_cells hG hK (block_on hB e) h1 h2
  have key : M kl = some (g, v, l) → ∃ M', Pp w4 base p m (n + 1) home M' ∧ (∀ j, j ≠ kl → M' j = M j) ∧ cont M' kl = l' ∧ (M' kl = none ↔ M kl = none ∧ E ≠ 0) ∧ Keeps w w4 := fun hM => by
    refine ⟨upd M kl (g, v', l'), (Pp.put (w5 := w4) h3 hG hL hK hA (fun s e => h.big s (by rw [← e, hM]; intro x; cases x)) ⟨D, map_kp ho hG hK, hi, fun s hs => ?_⟩ ⟨rfl, rfl, rfl, Nat.le_refl _, fun _ _ _ => rfl⟩).mono (Nat.le_succ _), fun k hk => upd_other _ _ _ _ hk, by unfold cont; rw [upd_same], ?_⟩
    · by_cases hk : some s = kl
      · subst hk
        rw [upd_same]
        exact ⟨fun e => (by cases e), fun g1 v1 l1 e => (by cases e; exact (hD s hs).2 g v l hM)⟩
      · rw [upd_other _ _ _ _ hk]
        exact hD s hs
    · rw [upd_same, hM]
      exact ⟨⟨fun e => (by cases e), fun e => (by cases e.1)⟩, hkeep⟩
  rcases hG.isM with hM | ⟨hM, hkn⟩
  · exact key hM
  · rcases hc with hc | ⟨hE, rfl⟩
    · exact key hc
    obtain ⟨g0, v0, l0, e0, hbox⟩ := h3.box
    have hm3 := ho
    obtain ⟨es, clock, hmm, _⟩ := hm3
    refine ⟨M, (Pp.kept h3 hK ⟨ty_ne hbox hG.lin.box (by decide), own_ne hG.lin.row hbox (by decide)⟩ ⟨(map_ne hG.lin.box hmm).symm, own_map_ne hG.lin.row hmm⟩ fun k g1 v1 l1 e => ?_).mono (Nat.le_succ _), fun _ _ => rfl, hG.eq.symm, ⟨fun e => ⟨e, hE⟩, fun e => e.1⟩, hkeep⟩
    have hkk : k ≠ kl := fun e1 => by rw [e1, hM] at e; cases e
    obtain ⟨q1, q2⟩ := hG.sep k g1 v1 l1 hkk e
    exact ⟨q1, own_ne hG.lin.row (h3.lin _ _ _ _ e).box (by decide), fun q hq => ⟨fun e1 => own_ne (h3.lin _ _ _ _ e).row hG.lin.box (by decide) (by rw [hq, e1]), q2 q hq⟩⟩
theorem grown_base {w w4 w5 : World} {base m : Nat} (hb : Below base w w4) (hm : base ≤ m) (hw : base ≤ w.heap.size) (h : w4.grownBy w5 (some m)) : Below base w w5 :=
  ⟨h.os.trans hb.os, h.tape.trans hb.tape, h.output.trans hb.output, Nat.le_trans hb.size h.size, fun k hk => (h.block k (by have := hb.size; omega) (fun e => by have := Option.some.inj e; omega)).trans (hb.block k hk)⟩
theorem st_put {w w3 w4 w5 : World} {base p m n g : Nat} {home : ByteArray} {M : PM} {s : ByteArray} (hss : s.size ≤ maxLen) {v v' : Value} {l l' : List Held} (h : Pp w base p m n home M) (hbase : base ≤ w.heap.size) (hB : Below w.heap.size w w3) (hG : Got w3 base M (some s) g v l) (hL : Lin w4 base g v' l')
    (hK : Kp w3 w4 g v.ownBlock) (hA : ∀ q, v'.ownBlock = some q → v.ownBlock = some q ∨ w3.heap.size ≤ q) {D : DataW Unit} (hi : IsMap D)
    (hD : ∀ s : ByteArray, s.size ≤ maxLen → (M (some s) = none → has D (.string s.data.toList) = false) ∧ (∀ g v l, M (some s) = some (g, v, l) → has D (.string s.data.toList) = true ∧ D.atKey (.string s.data.toList) .nil = .lit (.int .i64 g)))
    (ho : w5.ownsMap Try.prog 9 pc m (n + 1) (D.put (.string s.data.toList) (.lit (.int .i64 g)))) (h5 : w4.grownBy w5 (some m)) : StP w base p m n home M (some s) 0 l' (.returned (.int .i64 0)) w5 := by
  refine ⟨rfl, ⟨upd M (some s) (g, v', l'), Pp.put (w5 := w5) (h.below hB) hG hL hK hA (fun s' e => by cases e; exact hss) ⟨_, ho, hi.put _ _, fun s' hs' => ?_⟩ h5, fun k hk => upd_other _ _ _ _ hk, by unfold cont; rw [upd_same], ?_⟩, grown_base (below_base hbase hB hG.lin hK) h.mge hbase h5⟩
  · by_cases hk : s' = s
    · subst hk
      rw [upd_same]
      refine ⟨fun e => (by cases e), fun g1 v1 l1 e => ?_⟩
      cases e
      exact ⟨has_put_same hi (by simp [WideAt.IsKeyLit]) _, atKey_put_same hi (by simp [WideAt.IsKeyLit]) _ _⟩
    · have hk' : (some s' : Who) ≠ some s := fun e => hk (Option.some.inj e)
      have hl : Lit.string s'.data.toList ≠ Lit.string s.data.toList := fun x => hk (ba_of_list (by injection x))
      rw [upd_other _ _ _ _ hk', has_put_other hl, atKey_put_other hl]
      exact hD s' hs'
  · rw [upd_same]
    refine ⟨⟨fun e => (by cases e), fun e => absurd rfl e.2⟩, fun k C t f h1 h2 e => ?_⟩
    have e4 := kp_cells hG hK (block_on hB e) h1 h2
    obtain ⟨D0, ho0, _⟩ := (h.below hB).own
    have hm4 := map_kp ho0 hG hK
    obtain ⟨es, ck, hm, _⟩ := hm4
    exact (h5.block k (block_lt e4) (fun x => map_ne e4 hm (Option.some.inj x))).trans e4
end Go.Proofs.Ytbjoegladcmibaa.Pe
