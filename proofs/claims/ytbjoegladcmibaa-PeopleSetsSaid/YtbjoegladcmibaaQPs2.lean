/-
  What the document's own steps leave as it was (plain).
-/
import Derived.Test.YtbjoegladcmibaaQPs1
import Derived.Test.YtbjoegladcmibaaQPc6
import Derived.Test.YtbjoegladcmibaaQPe7
import Derived.Test.YtbjoegladcmibaaQZPeopleSetsx12
namespace Go.Proofs.Ytbjoegladcmibaa.Pe
set_option linter.unusedVariables false
set_option linter.unusedSimpArgs false
set_option linter.unnecessarySimpa false
open Go.RowKit Go.Maps Go.Proofs.YtbjoegladcmibaaK Go.Proofs.Ytbjoegladcmibaa.ZPeopleSets Go.Proofs.YtbjoegladcmibaaW.PrintWords Go.Proofs.YtbjoegladcmibaaW.PrintLast Go.Proofs.Ytbjoegladcmibaa.Vi Go.Proofs.Ytbjoegladcmibaa.Ln Go.Proofs.Ytbjoegladcmibaa.LnB Go.Proofs.Ytbjoegladcmibaa.Pl Go.Proofs.Ytbjoegladcmibaa.SpB

/-- A block's type is one of the document's: its people, spans, statuses. -/
def Doc (o : Obj) : Prop := ∃ C t f, o = .cells C t f ∧ (t = 92 ∨ t = 24 ∨ t = 139)
/-- All blocks that are none of the document's are as they were. -/
def SafeD (w w' : World) : Prop := ∀ (k : Nat) (o : Obj), w.heap[k]? = some o → ¬ Doc o → w'.heap[k]? = some o
theorem SafeD.trans {a b c : World} (h : SafeD a b) (k : SafeD b c) : SafeD a c := fun i o ho hd => k i o (h i o ho hd) hd
theorem SafeD.of_kept {a b : World} {P : Nat → Prop} (h : Kept a b P) (hP : ∀ k, P k → ∃ C, a.heap[k]? = some (.cells C 24 (0, 0)) ∨ a.heap[k]? = some (.cells C 139 (0, 0))) : SafeD a b := fun i o ho hd => by
  refine (h.2 i (block_lt ho) (fun hp => hd ?_)).trans ho
  obtain ⟨C, e | e⟩ := hP i hp
  · rw [ho] at e; injection e with e; exact ⟨_, _, _, e, Or.inr (Or.inl rfl)⟩
  · rw [ho] at e; injection e with e; exact ⟨_, _, _, e, Or.inr (Or.inr rfl)⟩
theorem SafeD.set {a : World} {g i : Nat} {v : Value} {C : Array Value} {f : Nat × Nat} (h : a.heap[g]? = some (.cells C 92 f)) : SafeD a (a.setCell ⟨g, i, none⟩ v) := fun k o ho hd => by
  have hk : k ≠ g := fun e => hd (by rw [e, h] at ho; injection ho with ho; exact ⟨_, _, _, ho.symm, Or.inl rfl⟩)
  rw [Below.heap_setCell _ _ _ _ hk]
  exact ho
theorem not_doc {C : Array Value} {t : TypeId} {f : Nat × Nat} (h1 : t ≠ 92) (h2 : t ≠ 24) (h3 : t ≠ 139) : ¬ Doc (.cells C t f) := by
  rintro ⟨C', t', f', e, h⟩
  injection e with e1 e2 e3
  rw [← e2] at h
  rcases h with h | h | h
  · exact h1 h
  · exact h2 h
  · exact h3 h
theorem not_doc_map {es : Array MapEntry} {c : Nat} : ¬ Doc (.map es c) := by
  rintro ⟨C', t', f', e, h⟩
  cases e
theorem Pp.safe {w w' : World} {base p m n : Nat} {home : ByteArray} {M : PM} (h : Pp w base p m n home M) (hs : SafeD w w') : Pp w' base p m n home M := by
  obtain ⟨g0, v0, l0, e0, hbox⟩ := h.box
  obtain ⟨D, ho, hi, hD⟩ := h.own
  obtain ⟨es, clock, hmm, hF, hz, hd⟩ := ho
  refine ⟨⟨g0, v0, l0, e0, hs _ _ hbox (not_doc (by decide) (by decide) (by decide))⟩, ⟨D, ⟨es, clock, hs _ _ hmm not_doc_map, hF, hz, hd⟩, hi, hD⟩, h.big, fun k g v l e => ?_, h.apart, h.pge, h.mge, h.pm⟩
  have hL := h.lin k g v l e
  refine ⟨hs _ _ hL.box (not_doc (by decide) (by decide) (by decide)), ⟨hL.row.1, ?_⟩, hL.ge, hL.most⟩
  rcases hL.row.2 with hn | ⟨g', cap, cur, rfl, hb, hgg, rest⟩
  · exact .inl hn
  · exact .inr ⟨g', cap, cur, rfl, hb, hs _ _ hgg (not_doc (by decide) (by decide) (by decide)), rest⟩
theorem strs_safe {w w' : World} {B : Nat} {v : Value} {rs : List ByteArray} (h : Kd.R Kd.string 9 w B (fun _ => True) v rs) (hs : SafeD w w') : Kd.R Kd.string 9 w' B (fun _ => True) v rs := by
  refine Kd.R_mono (Kd.R_step (Kd.R_bound h) (fun k hk _ => ?_)) (fun _ _ => trivial)
  obtain ⟨_, _, _, q, hq, cells, hc⟩ := hk
  have hq9 : q = 9 := by simpa [Kd.string, Kd.scalar] using hq
  subst hq9
  rw [hc]
  exact hs _ _ hc (not_doc (by decide) (by decide) (by decide))
theorem strs_keeps {w w' : World} {B : Nat} {v : Value} {rs : List ByteArray} (h : Kd.R Kd.string 9 w B (fun _ => True) v rs) (hs : Keeps w w') : Kd.R Kd.string 9 w' B (fun _ => True) v rs := by
  refine Kd.R_mono (Kd.R_step (Kd.R_bound h) (fun k hk _ => ?_)) (fun _ _ => trivial)
  obtain ⟨_, _, _, q, hq, cells, hc⟩ := hk
  have hq9 : q = 9 := by simpa [Kd.string, Kd.scalar] using hq
  subst hq9
  rw [hc]
  exact hs _ _ _ _ (by decide) (by decide) hc
theorem r24_type {w : World} {B : Nat} {v : Value} {O : List S24} (h : Kd.R k24 24 w B (fun _ => True) v O) : Kd.R k24 24 w B (fun k => k < w.heap.size ∧ ∃ C, w.heap[k]? = some (.cells C 24 (0, 0))) v O := by
  refine Kd.R_mono (Kd.R_bound h) (fun k hk => ⟨hk.2.2.1, ?_⟩)
  obtain ⟨_, _, _, q, hq, cells, hc⟩ := hk
  have : q = 24 := by simpa [k24, Kd.iso, Kd.pair, Kd.int, Kd.scalar] using hq
  subst this
  exact ⟨cells, hc⟩
theorem r139_type {w : World} {B : Nat} {v : Value} {L : List S139} (h : Kd.R k139 139 w B (fun _ => True) v L) : Kd.R k139 139 w B (fun k => k < w.heap.size ∧ ∃ C, w.heap[k]? = some (.cells C 139 (0, 0))) v L := by
  refine Kd.R_mono (Kd.R_bound h) (fun k hk => ⟨hk.2.2.1, ?_⟩)
  obtain ⟨_, _, _, q, hq, cells, hc⟩ := hk
  have : q = 139 := by simpa [k139, k24, Kd.iso, Kd.pair, Kd.int, Kd.scalar, Kd.string] using hq
  subst this
  exact ⟨cells, hc⟩
/-- What a step of the document's people leaves. -/
def DocP (w0 w : World) (home : ByteArray) (O : List S24) (L : List S139) (E : Int) (e : Ending) (w' : World) : Prop :=
  ∃ A1 c1 A2 c2, e = .returned (.tuple #[.agg #[.string home, .slice A1 O.length c1, .slice A2 L.length c2], .int .i64 E]) ∧ Kd.R k24 24 w' w0.heap.size (fun _ => True) (.slice A1 O.length c1) O ∧ Kd.R k139 139 w' w0.heap.size (fun _ => True) (.slice A2 L.length c2) L ∧ Below w0.heap.size w0 w' ∧ SafeD w w' ∧
    ∀ (g : Nat) (C : Array Value) (f : Nat × Nat), w.heap[g]? = some (.cells C 92 f) → w'.heap[g]? = some (.cells C 92 f)
theorem box_kept {a b : World} {P : Nat → Prop} (h : Kept a b P) (hP : ∀ k, P k → ∃ C, a.heap[k]? = some (.cells C 24 (0, 0)) ∨ a.heap[k]? = some (.cells C 139 (0, 0))) (g : Nat) (C : Array Value) (f : Nat × Nat) (hg : a.heap[g]? = some (.cells C 92 f)) : b.heap[g]? = some (.cells C 92 f) := by
  refine (h.2 g (block_lt hg) (fun hp => ?_)).trans hg
  obtain ⟨C', e | e⟩ := hP g hp
  · exact ty_ne hg e (by decide) rfl
  · exact ty_ne hg e (by decide) rfl
theorem choose_rel {M : PM} {O : List S24} {L : List S139} (hR : RelP M O L) (hO : O.length ≤ 1000) (home : ByteArray) (A1 : Option Addr) (c1 : Nat) (A2 : Option Addr) (c2 : Nat) (f u x : Int) (w0 w : World) (hB : Below w0.heap.size w0 w) (ho : Kd.R k24 24 w w0.heap.size (fun _ => True) (.slice A1 O.length c1) O) (hl : Kd.R k139 139 w w0.heap.size (fun _ => True) (.slice A2 L.length c2) L) :
    Calls Try.prog 45 #[.agg #[.string home, .slice A1 O.length c1, .slice A2 L.length c2], .agg #[.int .i64 f, .int .i64 u, .int .i64 x]] w (DocP w0 w home (if setE (cont M none) f u = 0 then O ++ [⟨f, u, x⟩] else O) L (setE (cont M none) f u)) := by
  have h1 := choose_any 100000 home _ A1 c1 O A2 c2 L.length f u x _ _ w0 w hB (r24_type ho) (set_f hR.opt (by omega) f u x 100000 (by omega)) (by omega) (r13_eq hR.opt f u)
  have hP : ∀ k, (k < w.heap.size ∧ ∃ C, w.heap[k]? = some (.cells C 24 (0, 0))) → ∃ C, w.heap[k]? = some (.cells C 24 (0, 0)) ∨ w.heap[k]? = some (.cells C 139 (0, 0)) := fun k ⟨_, C, e⟩ => ⟨C, Or.inl e⟩
  have hif : (if setE (cont M none) f u = 0 then (if setE (cont M none) f u = 0 then O ++ [⟨f, u, x⟩] else O) else O) = (if setE (cont M none) f u = 0 then O ++ [⟨f, u, x⟩] else O) := by split <;> simp_all
  refine h1.mono ?_
  rintro e w' ⟨A', c', rfl, hr, hb, hk⟩
  rw [hif] at hr ⊢
  refine ⟨A', c', A2, c2, rfl, Kd.R_mono hr (fun _ _ => trivial), ?_, hb, SafeD.of_kept hk hP, box_kept hk hP⟩
  refine Kd.R_mono (Kd.R_kept (r139_type hl) hk (fun k hk1 hk2 => ?_)) (fun _ _ => trivial)
  obtain ⟨_, C, e1⟩ := hk1
  obtain ⟨_, C', e2⟩ := hk2
  exact ty_ne e1 e2 (by decide) rfl
theorem set_rel {M : PM} {O : List S24} {L : List S139} (hR : RelP M O L) (hL : L.length ≤ 1000) (home c n : ByteArray) (hc : c.size ≤ 1000) (hn : n.size ≤ 1000) (A1 : Option Addr) (c1 : Nat) (A2 : Option Addr) (c2 : Nat) (f u x : Int) (w0 w : World) (hB : Below w0.heap.size w0 w) (ho : Kd.R k24 24 w w0.heap.size (fun _ => True) (.slice A1 O.length c1) O) (hl : Kd.R k139 139 w w0.heap.size (fun _ => True) (.slice A2 L.length c2) L) :
    Calls Try.prog 46 #[.agg #[.string home, .slice A1 O.length c1, .slice A2 L.length c2], .string c, .string n, .agg #[.int .i64 f, .int .i64 u, .int .i64 x]] w (DocP w0 w home O (if stE M c n f u = 0 then L ++ [⟨c ++ n, ⟨f, u, x⟩⟩] else L) (stE M c n f u)) := by
  have h1 := octroiref15_People_Set.calls 110000 home _ (.slice A1 O.length c1) O _ (.slice A2 L.length c2) L c n f u x _ _ _ _ w0 w hB (r24_type ho) (r139_type hl) (set_f15 hR (by omega) home c n hc hn f u x (Nat.le_refl _))
  have hP : ∀ k, ((k < w.heap.size ∧ ∃ C, w.heap[k]? = some (.cells C 24 (0, 0))) ∨ (k < w.heap.size ∧ ∃ C, w.heap[k]? = some (.cells C 139 (0, 0)))) → ∃ C, w.heap[k]? = some (.cells C 24 (0, 0)) ∨ w.heap[k]? = some (.cells C 139 (0, 0)) := fun k h => by
    rcases h with ⟨_, C, e⟩ | ⟨_, C, e⟩
    · exact ⟨C, Or.inl e⟩
    · exact ⟨C, Or.inr e⟩
  refine h1.mono ?_
  rintro e w' ⟨v1, v2, rfl, hr1, hr2, hb, hk⟩
  obtain ⟨A1', c1', rfl, _, _⟩ := Kd.R_reads hr1
  obtain ⟨A2', c2', rfl, _, _⟩ := Kd.R_reads hr2
  exact ⟨A1', c1', A2', c2', rfl, Kd.R_mono hr1 (fun _ _ => trivial), Kd.R_mono hr2 (fun _ _ => trivial), hb, SafeD.of_kept hk hP, box_kept hk hP⟩
end Go.Proofs.Ytbjoegladcmibaa.Pe
