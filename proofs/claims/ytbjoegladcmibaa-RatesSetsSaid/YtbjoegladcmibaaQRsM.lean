/-
  RatesSets: what the document's own step leaves; what is known at the head of a round.
-/
import Derived.Test.YtbjoegladcmibaaQRs7
import Derived.Test.YtbjoegladcmibaaQVRatesSetsx1
namespace Go.Proofs.Ytbjoegladcmibaa.Rt
set_option linter.unusedVariables false
set_option linter.unusedSimpArgs false
set_option linter.unnecessarySimpa false
open Go.RowKit Go.Maps Go.Proofs.YtbjoegladcmibaaK Go.Proofs.Ytbjoegladcmibaa.Ln Go.Proofs.Ytbjoegladcmibaa.LnI Go.Proofs.Ytbjoegladcmibaa.SpI Go.Proofs.Ytbjoegladcmibaa.VRatesSets Go.Proofs.YtbjoegladcmibaaW.PrintWords

theorem light_ends (l : List S26) (s : ByteArray) (c d : Int) (hl : l.length < 9223372036854775807) : ∀ (m i k : Nat), i + m = l.length → m + 1 ≤ k → ∃ r, octroilaw14_light.l0 k l l (l.length : Int) (i : Int) s c d = some r ∧ (r = true → l.length ≤ 60)
  | 0, i, k, h1, h2 => by
    obtain ⟨k, rfl⟩ : ∃ q, k = q + 1 := ⟨k - 1, by omega⟩
    rw [octroilaw14_light.l0, if_neg (by omega)]
    by_cases h : (l.length : Int) ≤ 60
    · rw [if_pos h]; exact ⟨_, rfl, fun _ => by omega⟩
    · rw [if_neg h]; exact ⟨_, rfl, fun e => by cases e⟩
  | m + 1, i, k, h1, h2 => by
    obtain ⟨k, rfl⟩ : ∃ q, k = q + 1 := ⟨k - 1, by omega⟩
    rw [octroilaw14_light.l0, if_pos (by omega), if_pos (by omega), if_pos (by omega)]
    by_cases h : (((rd_T26 l i).f0).size : Int) > 100
    · rw [if_pos h]; exact ⟨_, rfl, fun e => by cases e⟩
    · rw [if_neg h]
      have e : wrap64 ((i : Int) + 1) = ((i + 1 : Nat) : Int) := by
        unfold wrap64
        omega
      rw [e]
      exact light_ends l s c d hl m (i + 1) k (by omega) (by omega)
theorem light_any (l : List S26) (s : ByteArray) (c d : Int) (hl : l.length < 9223372036854775807) :
    ∃ b, (b = true → l.length ≤ 60) ∧ ∀ (A : Option Addr) (c0 : Nat) (w : World), Kd.C k26 w A l.length l → l.length ≤ c0 → Calls Try.prog 11 #[.slice A l.length c0, .agg #[.string s, .int .i64 c, .int .i64 d]] w fun e w' => e = .returned (.bool b) ∧ Below w.heap.size w w' := by
  obtain ⟨r, h1, h2⟩ := light_ends l s c d hl l.length 0 (l.length + 1) (by omega) (by omega)
  exact ⟨r, h2, fun A c0 w hr hc => octroilaw14_light.calls (l.length + 1) A c0 l s c d r w hr hc h1⟩

/-- All blocks that are no rates of the document's are as they were. -/
def SafeT (w w' : World) : Prop := ∀ (k : Nat) (o : Obj), w.heap[k]? = some o → (∀ C f, o ≠ .cells C 26 f) → w'.heap[k]? = some o
theorem SafeT.cells {w w' : World} (h : SafeT w w') {k : Nat} {C : Array Value} {t : TypeId} {f : Nat × Nat} (hk : w.heap[k]? = some (.cells C t f)) (ht : t ≠ 26) : w'.heap[k]? = some (.cells C t f) :=
  h _ _ hk (fun C' f' e => by injection e with e1 e2 e3; exact ht e2)
theorem lin_safe {w w' : World} {base g : Nat} {v : Value} {l : List Held} (h : Lin w base g v l) (hs : SafeT w w') : Lin w' base g v l := by
  refine ⟨hs.cells h.box (by decide), ⟨h.row.1, ?_⟩, h.ge, h.most⟩
  rcases h.row.2 with hn | ⟨g', cap, cur, rfl, hb, hgg, rest⟩
  · exact .inl hn
  · exact .inr ⟨g', cap, cur, rfl, hb, hs.cells hgg (by decide), rest⟩
theorem Rt.safe {w w' : World} {base r m n : Nat} {M : RM} (h : Rt w base r m n M) (hs : SafeT w w') : Rt w' base r m n M := by
  obtain ⟨D, ho, hi, hD⟩ := h.own
  obtain ⟨es, clock, hm, hF, hz, hd⟩ := ho
  exact ⟨hs.cells h.box (by decide), ⟨D, ⟨es, clock, hs _ _ hm (fun C f e => by cases e), hF, hz, hd⟩, hi, hD⟩, fun kl g v l e => lin_safe (h.lin kl g v l e) hs, h.apart, h.rge, h.mge, h.rm⟩
theorem r26_type {w : World} {B : Nat} {v : Value} {O : List S26} (h : Kd.R k26 26 w B (fun _ => True) v O) : Kd.R k26 26 w B (fun k => k < w.heap.size ∧ ∃ C, w.heap[k]? = some (.cells C 26 (0, 0))) v O := by
  refine Kd.R_mono (Kd.R_bound h) (fun k hk => ⟨hk.2.2.1, ?_⟩)
  obtain ⟨_, _, _, q, hq, cells, hc⟩ := hk
  have : q = 26 := by simpa [k26, k24, Kd.iso, Kd.pair, Kd.int, Kd.scalar, Kd.string] using hq
  subst this
  exact ⟨cells, hc⟩
def RSetP (w0 w : World) (L : List S26) (E : Int) (e : Ending) (w' : World) : Prop :=
  ∃ A c, e = .returned (.tuple #[.slice A L.length c, .int .i64 E]) ∧ Kd.R k26 26 w' w0.heap.size (fun _ => True) (.slice A L.length c) L ∧ Below w0.heap.size w0 w' ∧ SafeT w w'
theorem rset_any {M : RM} {L : List S26} (hR : RelR M L) (hL : L.length ≤ 1000) (s : ByteArray) (c f u x : Int) (hs : s.size ≤ maxLen) (hc : (Lit.int .i64 c).wf = true) (A : Option Addr) (cp : Nat) (w0 w : World) (hB : Below w0.heap.size w0 w) (ho : Kd.R k26 26 w w0.heap.size (fun _ => True) (.slice A L.length cp) L) :
    Calls Try.prog 37 #[.slice A L.length cp, .agg #[.string s, .int .i64 c, .int .i64 f, .int .i64 u, .int .i64 x]] w (RSetP w0 w (if rsE (cont M (keyL s c)) s c f u x = 0 then L ++ [⟨s, c, ⟨f, u, x⟩⟩] else L) (rsE (cont M (keyL s c)) s c f u x)) := by
  refine (octroiref14_Set.calls 110000 _ _ L s c f u x _ _ w0 w hB (r26_type ho) (set14_f hR (by omega) s c f u x hs hc (Nat.le_refl _))).mono ?_
  rintro e w' ⟨v, rfl, hr, hb, hk⟩
  obtain ⟨A', c', rfl, _, _⟩ := Kd.R_reads hr
  refine ⟨A', c', rfl, Kd.R_mono hr (fun _ _ => trivial), hb, fun k o ho' hd => (hk.2 k (block_lt ho') (fun hp => ?_)).trans ho'⟩
  obtain ⟨_, C, e⟩ := hp
  rw [ho'] at e
  injection e with e
  exact hd _ _ e
theorem reads_C26 {w : World} {b : Nat} {ok : Nat → Prop} {A : Option Addr} {c n : Nat} {l : List S26} (h : Kd.R k26 26 w b ok (.slice A n c) l) : Kd.C k26 w A l.length l ∧ l.length ≤ c := by
  obtain ⟨A', c', e, hle, hc⟩ := Kd.R_reads h
  injection e with e1 e2 e3
  rw [e1, e3]; exact ⟨hc, hle⟩
/-- All that is known at the head of a round. -/
structure AtR (w wr : World) (k r m n base : Nat) (M : RM) (L : List S26) (A : Option Addr) (c : Nat) (sa : ByteArray) (ac ad : Int) : Prop where
  rt : Rt wr base r m n M
  rel : RelR M L
  ge : base ≤ wr.heap.size
  few : n ≤ k ∧ L.length ≤ k
  lst : Kd.R k26 26 wr w.heap.size (fun _ => True) (.slice A L.length c) L
  ask : wr.heap[w.heap.size]? = some (.cells #[.string sa, .int .i64 ac, .int .i64 ad] 28 (0, 0))
  low : Below w.heap.size w wr
section
variable {w wr : World} {k r m n base : Nat} {M : RM} {L : List S26} {A : Option Addr} {c : Nat} {sa : ByteArray} {ac ad : Int}
theorem AtR.below {wz : World} (h : AtR w wr k r m n base M L A c sa ac ad) (hb : Below wr.heap.size wr wz) : AtR w wz k r m n base M L A c sa ac ad :=
  ⟨h.rt.below hb, h.rel, Nat.le_trans h.ge hb.size, h.few, Kd.R_below h.lst hb, block_on hb h.ask, s_trans h.low hb⟩
theorem AtR.of (h : AtR w wr k r m n base M L A c sa ac ad) (hs : sa.size ≤ maxLen) (hc : (Lit.int .i64 ac).wf = true) :
    Calls Try.prog 15 #[.pointer (some ⟨r, 0, none⟩), .string sa, .int .i64 ac, .int .i64 ad] wr fun e w' => e = .returned (.tuple #[.int .i64 (ofV (cont M (keyL sa ac)) sa ac ad), .int .i64 (ofE (cont M (keyL sa ac)) sa ac ad)]) ∧ Below wr.heap.size wr w' :=
  of_any wr base r m n M h.rt sa ac ad hs hc
theorem AtR.rof (h : AtR w wr k r m n base M L A c sa ac ad) (hk : k ≤ 1000) (hs : sa.size ≤ maxLen) (hc : (Lit.int .i64 ac).wf = true) :
    Calls Try.prog 38 #[.slice A L.length c, .string sa, .int .i64 ac, .int .i64 ad] wr fun e w' => e = .returned (.tuple #[.int .i64 (ofV (cont M (keyL sa ac)) sa ac ad), .int .i64 (ofE (cont M (keyL sa ac)) sa ac ad)]) ∧ Below wr.heap.size wr w' := by
  obtain ⟨q1, q2⟩ := reads_C26 h.lst
  have := h.few
  exact octroiref14_Of.calls 110000 A c L sa ac ad _ _ wr q1 q2 (of14_f h.rel (by omega) sa ac ad hs hc (Nat.le_refl _))
theorem AtR.len (h : AtR w wr k r m n base M L A c sa ac ad) (hk : k ≤ 1000) :
    Calls Try.prog 36 #[.pointer (some ⟨r, 0, none⟩)] wr fun e w' => e = .returned (.int .i64 L.length) ∧ Below wr.heap.size wr w' :=
  len_any wr base r m n M L h.rt h.rel (by have := h.few; omega)
/-- The states that are told, as a slice that may be read. -/
def Strs (w : World) (A : Option Addr) (c : Nat) (rs : List ByteArray) : Prop := Kd.C Kd.string w A rs.length rs ∧ rs.length ≤ c
theorem Strs.below {w w' : World} {A : Option Addr} {c : Nat} {rs : List ByteArray} (h : Strs w A c rs) (hb : Below w.heap.size w w') : Strs w' A c rs := ⟨Kd.C_below h.1 hb, h.2⟩
theorem AtR.states (h : AtR w wr k r m n base M L A c sa ac ad) (hk : k ≤ 1000) :
    Calls Try.prog 40 #[.pointer (some ⟨r, 0, none⟩)] wr fun e w' => ∃ A' c', e = .returned (.slice A' (statesR L).length c') ∧ Strs w' A' c' (statesR L) ∧ Below wr.heap.size wr w' := by
  refine (states_any wr base r m n M h.rt (KeysOk.of_rel h.rel) (by have := h.few; omega)).mono ?_
  rintro e w' ⟨A', c', rs, rfl, h1, h2, h3, h4⟩
  obtain rfl := states_eq h.rel h3
  exact ⟨A', c', rfl, ⟨h1, h2⟩, h4⟩
theorem AtR.rstates (h : AtR w wr k r m n base M L A c sa ac ad) (hk : k ≤ 1000) :
    Calls Try.prog 41 #[.slice A L.length c] wr fun e w' => ∃ A' c', e = .returned (.slice A' (statesR L).length c') ∧ Strs w' A' c' (statesR L) ∧ Below wr.heap.size wr w' := by
  obtain ⟨q1, q2⟩ := reads_C26 h.lst
  have := h.few
  refine (octroiref14_States.calls 50000 A c L (statesR L) wr q1 q2 (states_f L (by omega) (Nat.le_refl _))).mono ?_
  rintro e w' ⟨v, rfl, hr, hb⟩
  obtain ⟨A', c', rfl, hle, hc⟩ := Kd.R_reads hr
  exact ⟨A', c', rfl, ⟨hc, hle⟩, hb⟩
theorem same_any {w : World} {A A' : Option Addr} {c c' : Nat} {L : List S26} (h : Strs w A c (statesR L)) (h' : Strs w A' c' (statesR L)) :
    Calls Try.prog 39 #[.slice A (statesR L).length c, .slice A' (statesR L).length c'] w fun e w' => e = .returned (.bool true) ∧ Below w.heap.size w w' := by
  have := statesR_len L
  refine (octroiref07_Same.calls 2000 A c _ A' c' _ true w h.1 h.2 h'.1 h'.2 (same_f _ (by omega) (by omega))).mono ?_
  rintro e w' ⟨rfl, hb⟩
  exact ⟨rfl, hb.below⟩
end
end Go.Proofs.Ytbjoegladcmibaa.Rt
