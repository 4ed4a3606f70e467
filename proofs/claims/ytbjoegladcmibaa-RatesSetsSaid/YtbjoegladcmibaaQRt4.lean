import Derived.Test.YtbjoegladcmibaaQRt4a
namespace Go.Proofs.Ytbjoegladcmibaa.Rt
set_option linter.unusedVariables false
set_option linter.unusedSimpArgs false
set_option linter.unnecessarySimpa false
open Go.RowKit Go.Maps Go.Proofs.YtbjoegladcmibaaK Go.Proofs.Ytbjoegladcmibaa.Ln Go.Proofs.Ytbjoegladcmibaa.LnI

theorem block_two {w w1 : World} {A B : Obj} (h : Below ((w.alloc A).alloc B).heap.size ((w.alloc A).alloc B) w1) : w1.heap[w.heap.size + 1]? = some B := by
  have e : (w.alloc A).heap.size = w.heap.size + 1 := by simp
  have : ((w.alloc A).alloc B).heap[(w.alloc A).heap.size]? = some B := Array.getElem?_push_size
  rw [e] at this
  exact block_on h this
theorem kp_cells {w w' : World} {base g a : Nat} {M : Lit → Option (Nat × Value × List Held)} {kl : Lit} {v : Value} {l : List Held} (hG : Got w base M kl g v l) (hk : Kp w w' g v.ownBlock) {C : Array Value} {t : TypeId} {f : Nat × Nat} (h : w.heap[a]? = some (.cells C t f)) (h1 : t ≠ 143) (h2 : t ≠ 147) : w'.heap[a]? = some (.cells C t f) :=
  (hk.block a (block_lt h) (ty_ne h hG.lin.box h1) (own_ne hG.lin.row h h2)).trans h
theorem own_ge {w : World} {base q : Nat} {v : Value} {l : List Held} (h : Row w base v l) (hq : v.ownBlock = some q) : base ≤ q := by
  rcases h.2 with ⟨rfl, _⟩ | ⟨g', cap, cur, rfl, hb, hgg, rest⟩
  · cases hq
  · have e : g' = q := Option.some.inj hq
    omega
theorem below_base {w w3 w4 : World} {base g : Nat} {v : Value} {l : List Held} (hbase : base ≤ w.heap.size) (hB : Below w.heap.size w w3) (hL : Lin w3 base g v l) (hK : Kp w3 w4 g v.ownBlock) : Below base w w4 := by
  refine ⟨hK.os.trans hB.os, hK.tape.trans hB.tape, hK.output.trans hB.output, Nat.le_trans hB.size hK.size, fun k hk => ?_⟩
  refine (hK.block k (by have := hB.size; omega) (by have := hL.ge; omega) (fun e => ?_)).trans (hB.block k (by omega))
  have := own_ge hL.row e.symm
  omega
theorem map_kp {w w' : World} {base g m n : Nat} {M : Lit → Option (Nat × Value × List Held)} {kl : Lit} {v : Value} {l : List Held} {D : DataW Unit} (ho : w.ownsMap Try.prog 109 pe m n D) (hG : Got w base M kl g v l) (hk : Kp w w' g v.ownBlock) : w'.ownsMap Try.prog 109 pe m n D := by
  obtain ⟨es, clock, hmm, rest⟩ := ho
  exact ⟨es, clock, (hk.block m (block_lt hmm) (map_ne hG.lin.box hmm).symm (own_map_ne hG.lin.row hmm)).trans hmm, rest⟩
theorem rs_kept {w w3 w4 : World} {base r m n g : Nat} {M : Lit → Option (Nat × Value × List Held)} {kl : Lit} {v v' : Value} {l : List Held} (h : Rt w base r m n M) (hB : Below w.heap.size w w3) (hG : Got w3 base M kl g v l) (hL : Lin w4 base g v' l)
    (hK : Kp w3 w4 g v.ownBlock) (hA : ∀ q, v'.ownBlock = some q → v.ownBlock = some q ∨ w3.heap.size ≤ q) : ∃ M', Rt w4 base r m (n + 1) M' ∧ (∀ k, k ≠ kl → M' k = M k) ∧ cont M' kl = l ∧ (M' kl = none ↔ M kl = none) := by
  have h3 := h.below hB
  obtain ⟨D, ho, hi, hD⟩ := h3.own
  rcases hG.isM with hM | hM
  · refine ⟨upd M kl (g, v', l), (Rt.put (w5 := w4) h3 hG hL hK hA ⟨D, map_kp ho hG hK, hi, fun k => ?_⟩ ⟨rfl, rfl, rfl, Nat.le_refl _, fun _ _ _ => rfl⟩).mono (Nat.le_succ _), fun k hk => upd_other _ _ _ _ hk, by unfold cont; rw [upd_same], ⟨fun e => (by rw [upd_same] at e; cases e), fun e => (by rw [hM] at e; cases e)⟩⟩
    by_cases hk : k = kl
    · subst hk
      rw [upd_same]
      exact ⟨fun e => (by cases e), fun g1 v1 l1 e => (by cases e; exact (hD _).2 g v l hM)⟩
    · rw [upd_other _ _ _ _ hk]
      exact hD k
  · have hm3 := ho
    obtain ⟨es, clock, hmm, _⟩ := hm3
    refine ⟨M, (Rt.kept h3 hK ⟨ty_ne h3.box hG.lin.box (by decide), own_ne hG.lin.row h3.box (by decide)⟩ ⟨(map_ne hG.lin.box hmm).symm, own_map_ne hG.lin.row hmm⟩ fun k g1 v1 l1 e => ?_).mono (Nat.le_succ _), fun _ _ => rfl, hG.eq.symm, Iff.rfl⟩
    have hkk : k ≠ kl := fun e1 => by rw [e1, hM] at e; cases e
    obtain ⟨q1, q2⟩ := hG.sep k g1 v1 l1 hkk e
    exact ⟨q1, own_ne hG.lin.row (h3.lin _ _ _ _ e).box (by decide), fun q hq => ⟨fun e1 => own_ne (h3.lin _ _ _ _ e).row hG.lin.box (by decide) (by rw [hq, e1]), q2 q hq⟩⟩
theorem rs_put {w w3 w4 w5 : World} {base r m n g : Nat} {M : Lit → Option (Nat × Value × List Held)} {kl : Lit} {v v' : Value} {l l' : List Held} (h : Rt w base r m n M) (hB : Below w.heap.size w w3) (hG : Got w3 base M kl g v l) (hL : Lin w4 base g v' l')
    (hK : Kp w3 w4 g v.ownBlock) (hA : ∀ q, v'.ownBlock = some q → v.ownBlock = some q ∨ w3.heap.size ≤ q) (hkl : WideAt.IsKeyLit kl) {D : DataW Unit} (hi : IsMap D) (hD : ∀ kl, (M kl = none → has D kl = false) ∧ (∀ g v l, M kl = some (g, v, l) → has D kl = true ∧ D.atKey kl .nil = .lit (.int .i64 g)))
    (ho : w5.ownsMap Try.prog 109 pe m (n + 1) (D.put kl (.lit (.int .i64 g)))) (h5 : w4.grownBy w5 (some m)) : ∃ M', Rt w5 base r m (n + 1) M' ∧ (∀ k, k ≠ kl → M' k = M k) ∧ cont M' kl = l' ∧ M' kl ≠ none := by
  refine ⟨upd M kl (g, v', l'), Rt.put (w5 := w5) (h.below hB) hG hL hK hA ⟨_, ho, hi.put _ _, fun k => ?_⟩ h5, fun k hk => upd_other _ _ _ _ hk, by unfold cont; rw [upd_same], by rw [upd_same]; simp⟩
  by_cases hk : k = kl
  · subst hk
    rw [upd_same]
    refine ⟨fun e => (by cases e), fun g1 v1 l1 e => ?_⟩
    cases e
    exact ⟨has_put_same hi hkl _, atKey_put_same hi hkl _ _⟩
  · rw [upd_other _ _ _ _ hk, has_put_other hk, atKey_put_other hk]
    exact hD k
theorem grown_base {w w4 w5 : World} {base m : Nat} (hb : Below base w w4) (hm : base ≤ m) (hw : base ≤ w.heap.size) (h : w4.grownBy w5 (some m)) : Below base w w5 :=
  ⟨h.os.trans hb.os, h.tape.trans hb.tape, h.output.trans hb.output, Nat.le_trans hb.size h.size, fun k hk => (h.block k (by have := hb.size; omega) (fun e => by have := Option.some.inj e; omega)).trans (hb.block k hk)⟩
set_option maxRecDepth 100000 in
set_option maxHeartbeats 4000000 in
theorem set_any (w : World) (base r m n : Nat) (M : Lit → Option (Nat × Value × List Held)) (h : Rt w base r m n M) (hbase : base ≤ w.heap.size) (hn : n < maxLen) (s : ByteArray) (c f u x : Int) (hs : s.size ≤ maxLen) (hc : (Lit.int .i64 c).wf = true) :
    Calls Try.prog 14 #[.pointer (some ⟨r, 0, none⟩), .string s, .int .i64 c, .agg #[.int .i64 f, .int .i64 u], .int .i64 x] w (RsP w base r m n M s c f u x) := by
  have H := Lib.hid h
  have hm := fun w => member_any s w
  have hE : rsE (cont M (keyL s c)) s c f u x = if memB s = true then (if c < 1 ∨ 3 < c ∨ x < 0 ∨ 10000 < x then 2 else setE (cont M (keyL s c)) f u) else 40 := rfl
  have hsame : ∀ w', Below w.heap.size w w' → rsE (cont M (keyL s c)) s c f u x ≠ 0 → RsP w base r m n M s c f u x (.returned (.int .i64 (rsE (cont M (keyL s c)) s c f u x))) w' := fun w' hb he => ⟨rfl, rs_same h hbase s c f u x hb he⟩
  have HS := Lib.hid hsame
  clear hsame
  have hb0 : Below w.heap.size w ((w.alloc (.cells #[.pointer (some ⟨r, 0, none⟩)] 31)).alloc (.cells #[.int .i64 f, .int .i64 u] 36)) := s_alloc (s_alloc (Below.refl _ _) _) _
  have HB0 := Lib.hid hb0
  clear h hb0
  by_cases hmb : memB s = true
  · rw [hmb] at hm
    have HM := Lib.hid hm
    clear hm
    rw [if_pos hmb] at hE
    by_cases hw : c < 1 ∨ 3 < c ∨ x < 0 ∨ 10000 < x
    · rw [if_pos hw] at hE
      rw [hE] at HS
      go_enter Try.func14, Try.ntmps14
      go_wp2_with (first
        | (go_at_call 52; refine (none_any _ r m (H.out.below HB0.out).box).mono ?_; rintro e w1 ⟨rfl, rfl⟩)
        | (go_at_call 53; refine (HM.out _).mono ?_; rintro e w2 ⟨rfl, hb⟩; have HB := Lib.hid (s_trans HB0.out hb); clear hb))
      all_goals first
        | (go_ret; exact HS.out _ HB.out (by omega))
        | (exfalso; omega)
        | (exfalso; rename_i hx; simp only [Bool.or_eq_true, beq_iff_eq, decide_eq_true_eq] at hx; omega)
    · rw [if_neg hw] at hE
      go_enter Try.func14, Try.ntmps14
      go_wp2_with (first
        | (go_at_call 52; refine (none_any _ r m (H.out.below HB0.out).box).mono ?_; rintro e w1 ⟨rfl, rfl⟩)
        | (go_at_call 53; refine (HM.out _).mono ?_; rintro e w2 ⟨rfl, hb⟩; have HB := Lib.hid (s_trans HB0.out hb); have HX := Lib.hid (block_on hb (block_alloc Array.getElem?_push_size _) : w2.heap[w.heap.size]? = some (.cells #[.pointer (some ⟨r, 0, none⟩)] 31 (0, 0))); have HY := Lib.hid (block_two hb); clear hb)
        | (go_at_call 54; refine (closure_any _ base r m n _ _ M (H.out.below (s_alloc HB.out _)) (by have := HB.out.size; simp; omega) s c hs hc (block_alloc HX.out _) Array.getElem?_push_size).mono ?_; rintro e w3 ⟨g, v, l, rfl, hg, hb⟩; have HG := Lib.hid hg; have HB3 := Lib.hid (s_trans (s_alloc HB.out _) hb); have HX3 := Lib.hid (block_on hb (block_alloc HX.out _)); have HY3 := Lib.hid (block_on hb (block_alloc HY.out _)); have HZ3 := Lib.hid (block_on hb Array.getElem?_push_size); obtain ⟨y0, y1⟩ := cells2 HY3.out; clear hb hg HX HY)
        | (go_at_call 56; refine (LnI.set_any w3 base g v l HG.out.lin f u x).mono ?_; rintro e w4 ⟨rfl, v', hL, hK, hA⟩; have HL4 := Lib.hid hL; have HK4 := Lib.hid hK; have HA4 := Lib.hid hA; have HX4 := Lib.hid (kp_cells HG.out hK HX3.out (by decide) (by decide)); have HZ4 := Lib.hid (kp_cells HG.out hK HZ3.out (by decide) (by decide)); have HR4 := Lib.hid (kp_cells HG.out hK (H.out.below HB3.out).box (by decide) (by decide)); have x4 := cells1 HX4.out; have r4 := cells1 HR4.out; obtain ⟨z40, z41⟩ := cells2 HZ4.out; clear hL hK hA y0 y1 HX3 HY3 HZ3))
      · rename_i hz
        have hz' : setE l f u = 0 := by simpa using hz
        obtain ⟨D, ho, hi, hD⟩ := (H.out.below HB3.out).own
        have hm4 : w4.ownsMap Try.prog 109 pe m n D := map_kp ho HG.out HK4.out
        obtain ⟨w5, hrun, ho5, hg5⟩ := World.ownsMap.update (t := 84) hm4.drew lawK Try.underlying84 hn (key_of s c hs hc) (pe_mk g)
        have HO := Lib.hid ho5
        have HG5 := Lib.hid hg5
        have HD := Lib.hid hD
        have HI := Lib.hid hi
        clear hm4 ho hD hi HX4 HZ4 HR4 ho5 hg5
        go_region
        go_wp2
        go_ret
        have hG := HG.out
        have hc' : setE l f u = rsE (cont M (keyL s c)) s c f u x := by rw [hE, ← hG.eq]
        have hgr : w4.grownBy w5 (some m) := ⟨HG5.out.os, HG5.out.tape, HG5.out.output, HG5.out.size, HG5.out.block⟩
        obtain ⟨M', p1, p2, p3, p4⟩ := rs_put H.out HB3.out hG HL4.out HK4.out HA4.out (lawK.key (key_of s c hs hc)) HI.out HD.out HO.out hgr
        refine ⟨congrArg (fun z => Ending.returned (.int .i64 z)) hc', ⟨M', p1, p2, ?_, ⟨fun e => absurd e p4, fun e => absurd (hc'.symm.trans hz') e.2⟩⟩, grown_base (below_base hbase HB3.out hG.lin HK4.out) H.out.mge hbase hgr⟩
        unfold rsL
        rw [p3, ← hc', if_pos hz', hG.eq]
      · rename_i hz
        have hz' : setE l f u ≠ 0 := by simpa using hz
        go_ret
        have hG := HG.out
        have hl : setL l f u x = l := by unfold setL; rw [if_neg hz']
        have hL := HL4.out
        rw [hl] at hL
        have hc' : setE l f u = rsE (cont M (keyL s c)) s c f u x := by rw [hE, ← hG.eq]
        obtain ⟨M', p1, p2, p3, p4⟩ := rs_kept H.out HB3.out hG hL HK4.out HA4.out
        refine ⟨congrArg (fun z => Ending.returned (.int .i64 z)) hc', ⟨M', p1, p2, ?_, ⟨fun e => ⟨p4.1 e, fun e2 => hz' (hc'.trans e2)⟩, fun e => p4.2 e.1⟩⟩, below_base hbase HB3.out hG.lin HK4.out⟩
        unfold rsL
        rw [← hc', if_neg hz', p3, hG.eq]
  · have hmf : memB s = false := by simpa using hmb
    rw [hmf] at hm
    have HM := Lib.hid hm
    clear hm
    rw [if_neg hmb] at hE
    rw [hE] at HS
    go_enter Try.func14, Try.ntmps14
    go_wp2_with (first
      | (go_at_call 52; refine (none_any _ r m (H.out.below HB0.out).box).mono ?_; rintro e w1 ⟨rfl, rfl⟩)
      | (go_at_call 53; refine (HM.out _).mono ?_; rintro e w2 ⟨rfl, hb⟩; have HB := Lib.hid (s_trans HB0.out hb); clear hb))
    go_ret
    exact HS.out _ HB.out (by omega)
end Go.Proofs.Ytbjoegladcmibaa.Rt
