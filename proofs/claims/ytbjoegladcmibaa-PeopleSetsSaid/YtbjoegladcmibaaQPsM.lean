/-
  PeopleSets: what is known of the program's people and the document's, beside each other; what both tell.
-/
import Derived.Test.YtbjoegladcmibaaQPs2
import Derived.Test.YtbjoegladcmibaaQZPeopleSetsx13
import Derived.Test.YtbjoegladcmibaaQPe7
namespace Go.Proofs.Ytbjoegladcmibaa.Pe
set_option linter.unusedVariables false
set_option linter.unusedSimpArgs false
set_option linter.unnecessarySimpa false
open Go.RowKit Go.Maps Go.Proofs.YtbjoegladcmibaaK Go.Proofs.Ytbjoegladcmibaa.ZPeopleSets Go.Proofs.YtbjoegladcmibaaW.PrintWords Go.Proofs.YtbjoegladcmibaaW.PrintLast Go.Proofs.Ytbjoegladcmibaa.Vi Go.Proofs.Ytbjoegladcmibaa.Ln Go.Proofs.Ytbjoegladcmibaa.LnB Go.Proofs.Ytbjoegladcmibaa.Pl Go.Proofs.Ytbjoegladcmibaa.SpB

/-- Both, in one world. -/
structure Both (w : World) (bw : Nat) (home : ByteArray) (p m n base : Nat) (M : PM) (O : List S24) (L : List S139) (A1 : Option Addr) (c1 : Nat) (A2 : Option Addr) (c2 : Nat) : Prop where
  pp : Pp w base p m n home M
  rel : RelP M O L
  few : n ≤ 60 ∧ O.length ≤ 60 ∧ L.length ≤ 60
  opt : Kd.C k24 w A1 O.length O ∧ O.length ≤ c1
  lst : Kd.C k139 w A2 L.length L ∧ L.length ≤ c2
  box : w.heap[bw]? = some (.cells #[.string home, .slice A1 O.length c1, .slice A2 L.length c2] 92 (0, 0))
theorem Both.below {w w' : World} {bw : Nat} {home : ByteArray} {p m n base : Nat} {M : PM} {O : List S24} {L : List S139} {A1 : Option Addr} {c1 : Nat} {A2 : Option Addr} {c2 : Nat} (h : Both w bw home p m n base M O L A1 c1 A2 c2) (hb : Below w.heap.size w w') : Both w' bw home p m n base M O L A1 c1 A2 c2 :=
  ⟨h.pp.below hb, h.rel, h.few, ⟨Kd.C_below h.opt.1 hb, h.opt.2⟩, ⟨Kd.C_below h.lst.1 hb, h.lst.2⟩, block_on hb h.box⟩
section
variable {w : World} {bw : Nat} {home : ByteArray} {p m n base : Nat} {M : PM} {O : List S24} {L : List S139} {A1 : Option Addr} {c1 : Nat} {A2 : Option Addr} {c2 : Nat}
theorem Both.opted (h : Both w bw home p m n base M O L A1 c1 A2 c2) (hh : home.size ≠ 0) (day : Int) :
    Calls Try.prog 47 #[.pointer (some ⟨p, 0, none⟩), .int .i64 day] w fun e w' => e = .returned (.bool (heldB (cont M none) day)) ∧ Below w.heap.size w w' :=
  opted_any w base p m n home hh M h.pp day
theorem Both.dopted (h : Both w bw home p m n base M O L A1 c1 A2 c2) (day : Int) :
    Calls Try.prog 48 #[.agg #[.string home, .slice A1 O.length c1, .slice A2 L.length c2], .int .i64 day] w fun e w' => e = .returned (.bool (heldB (cont M none) day)) ∧ Below w.heap.size w w' :=
  octroiref15_People_Opted.calls 1000 home A1 c1 O A2 c2 L day _ w h.opt.1 h.opt.2 h.lst.1 h.lst.2 (opted_f h.rel (by have := h.few; omega) home day (by have := h.few; omega))
theorem Both.biz (h : Both w bw home p m n base M O L A1 c1 A2 c2) (hh : home.size ≠ 0) (c num : ByteArray) (hsz : c.size ≤ 100 ∧ num.size ≤ 100) (day : Int) :
    Calls Try.prog 21 #[.pointer (some ⟨p, 0, none⟩), .string c, .string num, .int .i64 day] w fun e w' => e = .returned (.bool (bizB home M c num day)) ∧ Below w.heap.size w w' :=
  biz_any w base p m n home hh M h.pp c num (by omega) day
theorem Both.dbiz (h : Both w bw home p m n base M O L A1 c1 A2 c2) (c num : ByteArray) (hsz : c.size ≤ 100 ∧ num.size ≤ 100) (day : Int) :
    Calls Try.prog 49 #[.agg #[.string home, .slice A1 O.length c1, .slice A2 L.length c2], .string c, .string num, .int .i64 day] w fun e w' => e = .returned (.bool (bizB home M c num day)) ∧ Below w.heap.size w w' :=
  octroiref15_People_Business.calls 200000 home A1 c1 O A2 c2 L c num day _ w h.opt.1 h.opt.2 h.lst.1 h.lst.2 (biz_f h.rel (by have := h.few; omega) home c num (by omega) (by omega) day (by omega))
/-- What is known, as a slice that may be read. -/
def Strs (w : World) (M : PM) (A : Option Addr) (c : Nat) (rs : List ByteArray) : Prop := Kd.C Kd.string w A rs.length rs ∧ rs.length ≤ c ∧ Keys M rs
theorem Strs.below {w w' : World} {M : PM} {A : Option Addr} {c : Nat} {rs : List ByteArray} (h : Strs w M A c rs) (hb : Below w.heap.size w w') : Strs w' M A c rs := ⟨Kd.C_below h.1 hb, h.2⟩
theorem Strs.keys {w : World} {M : PM} {A : Option Addr} {c : Nat} {rs : List ByteArray} (h : Strs w M A c rs) : Keys M rs := h.2.2
def KnownP (w : World) (M : PM) (e : Ending) (w' : World) : Prop := ∃ A c rs, e = .returned (.slice A rs.length c) ∧ Strs w' M A c rs ∧ Below w.heap.size w w'
theorem Pp.known {w : World} {base p m n : Nat} {home : ByteArray} {M : PM} (h : Pp w base p m n home M) (hn : n ≤ 100) (hh : home.size ≠ 0) :
    Calls Try.prog 43 #[.pointer (some ⟨p, 0, none⟩)] w (KnownP w M) := by
  refine (known_any w base p m n home hh M h (by omega)).mono ?_
  rintro e w' ⟨v, rs, rfl, hr, hk, hb⟩
  obtain ⟨A, c, rfl, hle, hc⟩ := Kd.R_reads hr
  exact ⟨A, c, rs, rfl, ⟨hc, hle, hk⟩, hb⟩
theorem Both.dknown (h : Both w bw home p m n base M O L A1 c1 A2 c2) {A : Option Addr} {c : Nat} {rs : List ByteArray} (hs : Strs w M A c rs) :
    Calls Try.prog 51 #[.agg #[.string home, .slice A1 O.length c1, .slice A2 L.length c2]] w fun e w' => ∃ A' c', e = .returned (.slice A' rs.length c') ∧ Strs w' M A' c' rs ∧ Strs w' M A c rs ∧ Below w.heap.size w w' := by
  refine (octroiref15_People_Known.calls 2000000 home A1 c1 O A2 c2 L rs w h.opt.1 h.opt.2 h.lst.1 h.lst.2 (known_f h.rel (by have := h.few; omega) home hs.2.2 (Nat.le_refl _))).mono ?_
  rintro e w' ⟨v, rfl, hr, hb⟩
  obtain ⟨A', c', rfl, hle, hc⟩ := Kd.R_reads hr
  exact ⟨A', c', rfl, ⟨hc, hle, hs.2.2⟩, hs.below hb, hb⟩
theorem Both.keys_few (h : Both w bw home p m n base M O L A1 c1 A2 c2) {rs : List ByteArray} (hs : Keys M rs) : rs.length ≤ 60 := Nat.le_trans (keys_len h.rel hs) h.few.2.2
theorem same_any {w : World} {M M' : PM} {A A' : Option Addr} {c c' : Nat} {rs rs' : List ByteArray} (h : Strs w M A c rs) (h' : Strs w M' A' c' rs') (hs : ∀ s, M' (some s) = none ↔ M (some s) = none) (hf : rs.length ≤ 1000) :
    Calls Try.prog 39 #[.slice A rs.length c, .slice A' rs'.length c'] w fun e w' => e = .returned (.bool true) ∧ Below w.heap.size w w' := by
  obtain rfl : rs' = rs := keys_uniq h.2.2 h'.2.2 hs
  refine (octroiref07_Same.calls 2000 A c rs' A' c' rs' true w h.1 h.2.1 h'.1 h'.2.1 (same_f rs' (by omega) (by omega))).mono ?_
  rintro e w' ⟨rfl, hb⟩
  exact ⟨rfl, hb.below⟩
end
abbrev c42 (y : S42) : Array Value := #[.int .i64 y.f0, .string y.f1, .string y.f2, .int .i64 y.f3.f0, .int .i64 y.f3.f1, .int .i64 y.f3.f2]
/-- All that is known at the head of a round. -/
structure At (w wr : World) (bw k : Nat) (x : S42) (home : ByteArray) (p m n base : Nat) (M : PM) (O : List S24) (L : List S139) (A1 : Option Addr) (c1 : Nat) (A2 : Option Addr) (c2 : Nat) : Prop where
  pp : Pp wr base p m n home M
  rel : RelP M O L
  ge : w.heap.size + 1 ≤ base ∧ base ≤ wr.heap.size
  few : n ≤ k ∧ O.length ≤ k ∧ L.length ≤ k
  opt : Kd.R k24 24 wr w.heap.size (fun _ => True) (.slice A1 O.length c1) O
  lst : Kd.R k139 139 wr w.heap.size (fun _ => True) (.slice A2 L.length c2) L
  box : wr.heap[bw]? = some (.cells #[.string home, .slice A1 O.length c1, .slice A2 L.length c2] 92 (0, 0))
  ask : wr.heap[w.heap.size]? = some (.cells (c42 x) 42 (0, 0))
  low : Below w.heap.size w wr
theorem At.below {w wr wz : World} {bw k : Nat} {x : S42} {home : ByteArray} {p m n base : Nat} {M : PM} {O : List S24} {L : List S139} {A1 : Option Addr} {c1 : Nat} {A2 : Option Addr} {c2 : Nat} (h : At w wr bw k x home p m n base M O L A1 c1 A2 c2) (hb : Below wr.heap.size wr wz) : At w wz bw k x home p m n base M O L A1 c1 A2 c2 :=
  ⟨h.pp.below hb, h.rel, ⟨h.ge.1, Nat.le_trans h.ge.2 hb.size⟩, h.few, Kd.R_below h.opt hb, Kd.R_below h.lst hb, block_on hb h.box, block_on hb h.ask, s_trans h.low hb⟩
theorem reads_C24 {w : World} {b : Nat} {ok : Nat → Prop} {A : Option Addr} {c n : Nat} {l : List S24} (h : Kd.R k24 24 w b ok (.slice A n c) l) : Kd.C k24 w A l.length l ∧ l.length ≤ c := by
  obtain ⟨A', c', e, hle, hc⟩ := Kd.R_reads h
  injection e with e1 e2 e3
  rw [e1, e3]; exact ⟨hc, hle⟩
theorem reads_C139 {w : World} {b : Nat} {ok : Nat → Prop} {A : Option Addr} {c n : Nat} {l : List S139} (h : Kd.R k139 139 w b ok (.slice A n c) l) : Kd.C k139 w A l.length l ∧ l.length ≤ c := by
  obtain ⟨A', c', e, hle, hc⟩ := Kd.R_reads h
  injection e with e1 e2 e3
  rw [e1, e3]; exact ⟨hc, hle⟩
theorem reads_Cs {w : World} {b : Nat} {ok : Nat → Prop} {A : Option Addr} {c n : Nat} {l : List ByteArray} (h : Kd.R Kd.string 9 w b ok (.slice A n c) l) : Kd.C Kd.string w A l.length l ∧ l.length ≤ c := by
  obtain ⟨A', c', e, hle, hc⟩ := Kd.R_reads h
  injection e with e1 e2 e3
  rw [e1, e3]; exact ⟨hc, hle⟩
theorem At.both {w wr : World} {bw k : Nat} {x : S42} {home : ByteArray} {p m n base : Nat} {M : PM} {O : List S24} {L : List S139} {A1 : Option Addr} {c1 : Nat} {A2 : Option Addr} {c2 : Nat} (h : At w wr bw k x home p m n base M O L A1 c1 A2 c2) (hk : k ≤ 60) : Both wr bw home p m n base M O L A1 c1 A2 c2 :=
  ⟨h.pp, h.rel, by have := h.few; omega, reads_C24 h.opt, reads_C139 h.lst, h.box⟩
theorem Pp_lt {w : World} {base p m n : Nat} {home : ByteArray} {M : PM} (h : Pp w base p m n home M) : base ≤ w.heap.size := by
  obtain ⟨_, _, _, _, hb⟩ := h.box
  exact Nat.le_trans h.pge (Nat.le_of_lt (block_lt hb))
/-- What is known behind a setting. -/
structure Mid (w wr wc : World) (bw k : Nat) (x y : S42) (home : ByteArray) (p m n base : Nat) (M : PM) (Ak : Option Addr) (ck : Nat) (rs : List ByteArray) (p2 m2 n2 base2 : Nat) (M2 : PM) (O : List S24) (L : List S139) (A1 : Option Addr) (c1 : Nat) (A2 : Option Addr) (c2 : Nat) : Prop where
  old : Pp wc base p m n home M
  new : At w wc bw (k + 1) x home p2 m2 n2 base2 M2 O L A1 c1 A2 c2
  row : wc.heap[wr.heap.size]? = some (.cells (c42 y) 42 (0, 0))
  kn : Strs wc M Ak ck rs
def stored (w : World) (g : Nat) (v0 v1 v2 : Value) : World := ((w.setCell ⟨g, 0, none⟩ v0).setCell ⟨g, 1, none⟩ v1).setCell ⟨g, 2, none⟩ v2
theorem block_set {w : World} {g : Nat} {cs : Array Value} {t : TypeId} {fr : Nat × Nat} (h : w.heap[g]? = some (.cells cs t fr)) (i : Nat) (v : Value) : (w.setCell ⟨g, i, none⟩ v).heap[g]? = some (.cells (cs.setIfInBounds i v) t fr) := Go.Joins.block_setCell h v
theorem stored_at {w : World} {g : Nat} {a0 a1 a2 : Value} {t : TypeId} (h : w.heap[g]? = some (.cells #[a0, a1, a2] t (0, 0))) (v0 v1 v2 : Value) : (stored w g v0 v1 v2).heap[g]? = some (.cells #[v0, v1, v2] t (0, 0)) := by
  have q := block_set (block_set (block_set h 0 v0) 1 v1) 2 v2
  simpa [stored] using q
theorem stored_off {w : World} {g k : Nat} (hne : k ≠ g) (v0 v1 v2 : Value) : (stored w g v0 v1 v2).heap[k]? = w.heap[k]? := by
  unfold stored
  rw [Below.heap_setCell _ _ _ _ hne, Below.heap_setCell _ _ _ _ hne, Below.heap_setCell _ _ _ _ hne]
theorem stored_low {w0 w : World} (h : Below w0.heap.size w0 w) {g : Nat} (hg : w0.heap.size ≤ g) (v0 v1 v2 : Value) : Below w0.heap.size w0 (stored w g v0 v1 v2) := s_set (s_set (s_set h _ _ hg) _ _ hg) _ _ hg
theorem stored_safe {w : World} {g : Nat} {C : Array Value} (h : w.heap[g]? = some (.cells C 92 (0, 0))) (v0 v1 v2 : Value) : SafeD w (stored w g v0 v1 v2) :=
  (SafeD.set h).trans ((SafeD.set (block_set h 0 v0)).trans (SafeD.set (block_set (block_set h 0 v0) 1 v1)))
theorem stored_R24 {w : World} {g B : Nat} {C : Array Value} {v : Value} {O : List S24} (h : w.heap[g]? = some (.cells C 92 (0, 0))) (hr : Kd.R k24 24 w B (fun _ => True) v O) (v0 v1 v2 : Value) : Kd.R k24 24 (stored w g v0 v1 v2) B (fun _ => True) v O := by
  refine Kd.R_mono (Kd.R_step (r24_type hr) (fun k hk _ => stored_off ?_ _ _ _)) (fun _ _ => trivial)
  obtain ⟨_, C', e⟩ := hk
  exact ty_ne e h (by decide)
theorem stored_R139 {w : World} {g B : Nat} {C : Array Value} {v : Value} {O : List S139} (h : w.heap[g]? = some (.cells C 92 (0, 0))) (hr : Kd.R k139 139 w B (fun _ => True) v O) (v0 v1 v2 : Value) : Kd.R k139 139 (stored w g v0 v1 v2) B (fun _ => True) v O := by
  refine Kd.R_mono (Kd.R_step (r139_type hr) (fun k hk _ => stored_off ?_ _ _ _)) (fun _ _ => trivial)
  obtain ⟨_, C', e⟩ := hk
  exact ty_ne e h (by decide)
theorem mid_of {w wr w7 w8 : World} {bw k : Nat} {x y : S42} {home : ByteArray} {p m n base : Nat} {M : PM} {Ak : Option Addr} {ck : Nat} {rs : List ByteArray} {p2 m2 n2 base2 B : Nat} {M2 : PM} {O' : List S24} {L' : List S139} {A1 : Option Addr} {c1 : Nat} {A2 : Option Addr} {c2 : Nat} {a1 a2 : Value}
    (hbw : w.heap.size ≤ bw) (hpo : Pp w7 base p m n home M) (hpn : Pp w7 base2 p2 m2 n2 home M2) (hrel : RelP M2 O' L') (hge : w.heap.size + 1 ≤ base2) (hfew : n2 ≤ k + 1 ∧ O'.length ≤ k + 1 ∧ L'.length ≤ k + 1)
    (hy : w7.heap[wr.heap.size]? = some (.cells (c42 y) 42 (0, 0))) (hask : w7.heap[w.heap.size]? = some (.cells (c42 x) 42 (0, 0)))
    (hkr : Kd.R Kd.string 9 w7 B (fun _ => True) (.slice Ak rs.length ck) rs) (hks : Keys M rs)
    (ho : Kd.R k24 24 w8 w.heap.size (fun _ => True) (.slice A1 O'.length c1) O') (hl : Kd.R k139 139 w8 w.heap.size (fun _ => True) (.slice A2 L'.length c2) L') (hlow : Below w.heap.size w w8) (hsd : SafeD w7 w8)
    (hbx : w8.heap[bw]? = some (.cells #[.string home, a1, a2] 92 (0, 0))) :
    Mid w wr (stored w8 bw (.string home) (.slice A1 O'.length c1) (.slice A2 L'.length c2)) bw k x y home p m n base M Ak ck rs p2 m2 n2 base2 M2 O' L' A1 c1 A2 c2 := by
  have hs := hsd.trans (stored_safe hbx (.string home) (.slice A1 O'.length c1) (.slice A2 L'.length c2))
  obtain ⟨hc1, hc2⟩ := reads_Cs (strs_safe hkr hs)
  have hpn2 := hpn.safe hs
  have hlt := Pp_lt hpn2
  exact ⟨hpo.safe hs, ⟨hpn2, hrel, ⟨hge, hlt⟩, hfew, stored_R24 hbx ho _ _ _, stored_R139 hbx hl _ _ _, stored_at hbx _ _ _, hs _ _ hask (not_doc (by decide) (by decide) (by decide)), stored_low hlow hbw _ _ _⟩,
    hs _ _ hy (not_doc (by decide) (by decide) (by decide)), ⟨hc1, hc2, hks⟩⟩
theorem cells12 {w : World} {g : Nat} {a0 a1 a2 a3 a4 a5 a6 a7 a8 a9 a10 a11 : Value} {t : TypeId} (h : w.heap[g]? = some (.cells #[a0, a1, a2, a3, a4, a5, a6, a7, a8, a9, a10, a11] t (0, 0))) : w.cell? ⟨g, 0, none⟩ = some a0 ∧ w.cell? ⟨g, 1, none⟩ = some a1 ∧ w.cell? ⟨g, 2, none⟩ = some a2 ∧ w.cell? ⟨g, 3, none⟩ = some a3 ∧ w.cell? ⟨g, 4, none⟩ = some a4 ∧ w.cell? ⟨g, 5, none⟩ = some a5 ∧ w.cell? ⟨g, 6, none⟩ = some a6 ∧ w.cell? ⟨g, 7, none⟩ = some a7 ∧ w.cell? ⟨g, 8, none⟩ = some a8 ∧ w.cell? ⟨g, 9, none⟩ = some a9 ∧ w.cell? ⟨g, 10, none⟩ = some a10 ∧ w.cell? ⟨g, 11, none⟩ = some a11 := by
  refine ⟨?_, ?_, ?_, ?_, ?_, ?_, ?_, ?_, ?_, ?_, ?_, ?_⟩ <;> simp [World.cell?, h]
theorem held7 {w : World} {b bw : Nat} {a0 a1 a2 a3 a4 a5 b0 b1 b2 : Value} {t1 t2 : TypeId} (h1 : w.heap[b]? = some (.cells #[a0, a1, a2, a3, a4, a5] t1 (0, 0))) (h2 : w.heap[bw]? = some (.cells #[b0, b1, b2] t2 (0, 0))) :
    w.cell? ⟨b, 1, none⟩ = some a1 ∧ w.cell? ⟨b, 2, none⟩ = some a2 ∧ w.cell? ⟨b, 3, none⟩ = some a3 ∧ w.cell? ⟨b, 4, none⟩ = some a4 ∧ w.cell? ⟨bw, 0, none⟩ = some b0 ∧ w.cell? ⟨bw, 1, none⟩ = some b1 ∧ w.cell? ⟨bw, 2, none⟩ = some b2 := by
  refine ⟨?_, ?_, ?_, ?_, ?_, ?_, ?_⟩ <;> simp [World.cell?, h1, h2]
end Go.Proofs.Ytbjoegladcmibaa.Pe
