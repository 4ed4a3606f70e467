/-
  rates: Len.
-/
import Derived.Test.YtbjoegladcmibaaQRs4
namespace Go.Proofs.Ytbjoegladcmibaa.Rt
set_option linter.unusedVariables false
set_option linter.unusedSimpArgs false
set_option linter.unnecessarySimpa false
open Go.RowKit Go.Maps Go.Proofs.YtbjoegladcmibaaK Go.Proofs.Ytbjoegladcmibaa.Ln Go.Proofs.Ytbjoegladcmibaa.LnI Go.Proofs.Ytbjoegladcmibaa.SpI Go.Proofs.YtbjoegladcmibaaW.PrintWords

/-- Of a list's rows those that have been met. -/
noncomputable def met (L : List VRatesSets.S26) (left : Lit → Bool) : Nat := (L.filter (fun x => !left (keyL x.f0 x.f1))).length
theorem met_le (L : List VRatesSets.S26) (left : Lit → Bool) : met L left ≤ L.length := List.length_filter_le _ _
theorem met_none (L : List VRatesSets.S26) (left : Lit → Bool) (h : ∀ x ∈ L, left (keyL x.f0 x.f1) = true) : met L left = 0 := by
  unfold met
  rw [List.filter_eq_nil_iff.2 (fun x hx => by rw [h x hx]; simp)]
  rfl
theorem met_all (L : List VRatesSets.S26) (left : Lit → Bool) (h : ∀ kl, left kl = false) : met L left = L.length := by
  unfold met
  rw [List.filter_eq_self.2 (fun x hx => by rw [h]; rfl)]
set_option maxRecDepth 1000000 in
theorem met_step (s : ByteArray) (c : Int) (hs : s.size ≤ maxLen) (hc : (Lit.int .i64 c).wf = true) (left : Lit → Bool) (hl : left (keyL s c) = true) : ∀ (L : List VRatesSets.S26), (∀ x ∈ L, x.f0.size ≤ maxLen ∧ 1 ≤ x.f1 ∧ x.f1 ≤ 3) →
    met L (fun z => left z && !z.sameKey (keyL s c)) = met L left + (lineR L s c).length
  | [], _ => rfl
  | x :: L, hg => by
    have ih := met_step s c hs hc left hl L (fun y hy => hg y (List.mem_cons_of_mem _ hy))
    obtain ⟨g1, g2, g3⟩ := hg x (List.mem_cons_self ..)
    unfold met at ih ⊢
    dsimp only at ih ⊢
    rw [lineR_cons, List.filter_cons, List.filter_cons]
    by_cases e : x.f0 = s ∧ x.f1 = c
    · obtain ⟨rfl, rfl⟩ := e
      have hq := lawK.key (key_of x.f0 x.f1 hs hc)
      have hy : (keyL x.f0 x.f1).sameKey (keyL x.f0 x.f1) = true := yes_key hq
      clear hq
      generalize keyL x.f0 x.f1 = K0 at *
      have e1 : (!(left K0 && !K0.sameKey K0)) = true := by rw [hy]; cases left K0 <;> rfl
      have e2 : ¬ ((!left K0) = true) := by rw [hl]; exact Bool.noConfusion
      rw [if_pos e1, if_neg e2, if_pos (And.intro rfl rfl), List.length_cons, List.length_cons, ih]
      omega
    · have hne : keyL x.f0 x.f1 ≠ keyL s c := fun e2 => e (key_inj _ _ _ _ g1 (wf3 ⟨g2, g3⟩) hs hc e2)
      rw [no_key hne, if_neg e]
      simp only [Bool.not_false, Bool.and_true]
      by_cases hb : (!left (keyL x.f0 x.f1)) = true
      · rw [if_pos hb, if_pos hb, List.length_cons, List.length_cons, ih]
        omega
      · rw [if_neg hb, if_neg hb, ih]
set_option maxRecDepth 100000 in
set_option maxHeartbeats 8000000 in
theorem len_any (w : World) (base r m n : Nat) (M : RM) (L : List VRatesSets.S26) (h : Rt w base r m n M) (hR : RelR M L) (hL : L.length < 100000) :
    Calls Try.prog 36 #[.pointer (some ⟨r, 0, none⟩)] w fun e w' => e = .returned (.int .i64 L.length) ∧ Below w.heap.size w w' := by
  obtain ⟨D, ho, hi, hD⟩ := h.own
  have c0 := cells1 h.box
  have H := Lib.hid h
  have HD := Lib.hid hD
  have HR := Lib.hid hR
  have HK := Lib.hid (KeysOk.of_rel hR)
  clear h hi hD hR
  go_enter Try.func36, Try.ntmps36
  go_wp2_with (first
    | (go_at_call 52; refine (none_any _ r m H.out.box).mono ?_; rintro e w1 ⟨rfl, rfl⟩)
    | (at_range; refine wpList_range_own _ rfl _ 84 rfl 109 110 lawK Try.underlying84 _ m n D rfl ho ?_; intro w0 hrg0 hg0 hs0))
  go_frame
  have HB0 := Lib.hid (iter_below hg0)
  have hm0 : met L (has D) = 0 := met_none L _ fun x hx => by
    have hne := (HR.out.all (keyL x.f0 x.f1)).2 ⟨x, hx, rfl⟩
    cases hM : M (keyL x.f0 x.f1) with
    | none => exact absurd hM hne
    | some z => exact ((HD.out _).2 z.1 z.2.1 z.2.2 hM).1
  have HM0 := Lib.hid hm0
  clear hg0 hs0 c0 hm0
  go_loopw [2] (fun v wr => ∃ left cnt, wr.ranges Try.prog 109 pe m w.heap.size n D left cnt ∧ v = .int .i64 (met L left) ∧ Hid (Below w.heap.size w wr))
    (fun _ wr => wr.rangeLeft m w.heap.size)
  case atStart => exact ⟨_, _, hrg0, by rw [HM0.out]; rfl, HB0⟩
  case round =>
    obtain ⟨left, cnt, hrg, rfl, HBr⟩ := hrel
    have HRG := Lib.hid hrg
    go_wp2_with (at_next; refine wpList_next_ranges (α := Value) (β := Value) _ rfl _ rfl 109 lawK pe (fun x => x) (fun v => v) (fun key kl hk => ⟨key, rfl⟩) (fun v y _ => ⟨v, rfl⟩) m w.heap.size n D left cnt rfl hrg ?_ ?_)
    · intro hc0 hl0
      have hall := met_all L left hl0
      have HALL := Lib.hid hall
      clear hall
      go_wp2
      go_ret
      exact ⟨by first | rfl | (rw [HALL.out]; rfl), HBr.out⟩
    · intro x c kl y1 y2 w3 cnt1 hkey hlx hcy hat hrg1 hlt hg1 hs1 hen
      have hhas : has D kl = true := has_true_of_atKey hat
      obtain ⟨g, v, l, hMx⟩ : ∃ g v l, M kl = some (g, v, l) := by
        cases hM : M kl with
        | none => rw [(HD.out kl).1 hM] at hhas; cases hhas
        | some z => exact ⟨z.1, z.2.1, z.2.2, rfl⟩
      obtain ⟨s, cc, hss, hcc, rfl⟩ := HK.out kl (by rw [hMx]; simp)
      obtain rfl : x = .agg #[.string s, .int .i64 cc] := lawK.inj hkey (key_of s cc hss hcc)
      have hat2 := ((HD.out _).2 g v l hMx).2
      have hc : c = .pointer (some ⟨g, 0, none⟩) := by
        have e1 := (hat .nil).symm.trans hat2
        try dsimp only at e1
        rw [e1] at hcy
        exact pe_inv hcy
      subst hc
      have hb3 : Below w.heap.size w w3 := grown_low HBr.out hg1 (Nat.le_refl _) HBr.out.size
      have hlen := len_line w3 base g v l ((H.out.lin _ _ _ _ hMx).below hb3)
      have hst := met_step s cc hss hcc left hlx L (fun y hy => (HR.out.good y hy).2)
      have hll : l.length = (lineR L s cc).length := by
        have := (HR.out.line s cc hss hcc).len
        unfold cont at this
        rw [hMx] at this
        exact this
      rw [← hll] at hst
      have hle := met_le L (fun z => left z && !z.sameKey (keyL s cc))
      have hsum : (met L left : Int) + (l.length : Int) ≤ 100000 := by omega
      have h0 : (0 : Int) ≤ (met L left : Int) := Int.natCast_nonneg _
      have h1 : (0 : Int) ≤ (l.length : Int) := Int.natCast_nonneg _
      have HLEN := Lib.hid hlen
      have HST := Lib.hid hst
      have HB3 := Lib.hid hb3
      have HRG1 := Lib.hid hrg1
      have HLT := Lib.hid hlt
      clear hlen hst hb3 hrg hrg1 hat hat2 hkey hcy hg1 hs1 hhas hll hMx hle hlx hlt
      go_wp2_with (go_at_call 78; refine HLEN.out.mono ?_; rintro e w4 ⟨rfl, hb4⟩; have HB4 := Lib.hid hb4; clear hb4)
      have hr4 := ranges_below HRG1.out HB4.out
      have hl5 := hr4.left_eq
      have hl0 := HRG.out.left_eq
      go_roundw
      case rel => exact ⟨_, cnt1, hr4, by rw [HST.out]; first | rfl | (congr 1; omega), Lib.hid (s_trans HB3.out HB4.out)⟩
      case measure => rw [hl5, hl0]; exact HLT.out
end Go.Proofs.Ytbjoegladcmibaa.Rt
