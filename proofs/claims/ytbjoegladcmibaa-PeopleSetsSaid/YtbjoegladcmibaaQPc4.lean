/-
  people: Clone, the walk.
-/
import Derived.Test.YtbjoegladcmibaaQPc3
import Derived.Test.YtbjoegladcmibaaQPe5
import Derived.Test.YtbjoegladcmibaaQWall
import Derived.Deep.RegionWith
namespace Go.Proofs.Ytbjoegladcmibaa.Pe
set_option linter.unusedVariables false
set_option linter.unusedSimpArgs false
set_option linter.unnecessarySimpa false
open Go.RowKit Go.Maps Go.Proofs.YtbjoegladcmibaaK Go.Proofs.Ytbjoegladcmibaa.Ln Go.Proofs.Ytbjoegladcmibaa.LnB Go.Proofs.Ytbjoegladcmibaa.Vi Go.Proofs.YtbjoegladcmibaaW.PrintWords

set_option maxRecDepth 100000 in
set_option maxHeartbeats 8000000 in
theorem clone_any (w : World) (base p m n : Nat) (home : ByteArray) (hh : home.size ≠ 0) (M : PM) (h : Pp w base p m n home M) (hn : n < maxLen) :
    Calls Try.prog 42 #[.pointer (some ⟨p, 0, none⟩)] w fun e w' => ∃ p' m' M', e = .returned (.pointer (some ⟨p', 0, none⟩)) ∧ Pp w' w.heap.size p' m' n home M' ∧ Same M M' ∧ Below w.heap.size w w' := by
  obtain ⟨g0, v0, l0, e0, hbox⟩ := h.box
  obtain ⟨D, ho, hi, hD⟩ := h.own
  have hcl := fun wx (hx : Below w.heap.size w wx) => clone_choice wx base g0 v0 l0 ((h.lin _ _ _ _ e0).below hx)
  have hmm := @run_makeMap Try.prog
  have hl0 : cont M none = l0 := by unfold cont; rw [e0]
  have hm0 : M none ≠ none := by rw [e0]; exact fun e => by cases e
  obtain ⟨c0, c1, c2⟩ := cells3 hbox
  have HBX := Lib.hid hbox
  have HCL := Lib.hid hcl
  have H := Lib.hid h
  have HD := Lib.hid hD
  have HI := Lib.hid hi
  have HO := Lib.hid ho
  have HE0 := Lib.hid e0
  have HL0 := Lib.hid hl0
  have HM0 := Lib.hid hm0
  clear h hbox hcl hD hi ho e0 hl0 hm0
  go_enter Try.func42, Try.ntmps42
  go_wp2
  rename_i K hK
  have hrest : ∀ (p' m' g' : Nat) (v' : Value) (wx : World), Hid (Pp wx w.heap.size p' m' 0 home (M1 g' v' l0)) → Hid (Below w.heap.size w wx) →
      K ⟨#[.pointer (some ⟨p, 0, none⟩), undef, .pointer none, .func (.func 84) #[] #[], .pointer (some ⟨p', 0, none⟩), undef, undef, .pointer (some ⟨p, 0, none⟩), .bool false,
              .func (.func 84) #[] #[], .pointer (some ⟨p, 0, none⟩), .pointer (some ⟨p, 0, none⟩), .pointer (some ⟨p, 0, none⟩),
              .agg #[.pointer (some ⟨g0, 0, none⟩)], .agg #[.pointer (some ⟨g', 0, none⟩)],
              .pointer (some ⟨p, 0, none⟩), .pointer (some ⟨p, 0, none⟩), .pointer (some ⟨p, 1, none⟩), .string home, .map (some m'),
              .agg #[.pointer (some ⟨g', 0, none⟩), .string home, .map (some m')], .pointer (some ⟨p', 0, none⟩),
              undef, undef, undef, undef, undef, undef, undef, undef, undef, undef, undef, undef, undef, undef, undef, undef, undef, undef, undef], []⟩ wx := by
    intro p' m' g' v' wx HP HB
    apply hK
    clear hK c0 c1 c2
    obtain ⟨c0, c1, c2⟩ := cells3 (block_on HB.out HBX.out)
    have HOX := Lib.hid (owns_below HO.out HB.out)
    go_wp2_with (at_range; refine wpList_range_own _ rfl _ 103 rfl 9 102 lawS Try.underlying103 _ m n D rfl HOX.out ?_; intro w0 hrg0 hg0 hs0)
    go_frame
    have hB0 : Below w.heap.size w w0 := ⟨hg0.os.trans HB.out.os, hg0.tape.trans HB.out.tape, hg0.output.trans HB.out.output, Nat.le_trans HB.out.size hg0.size, fun k hk => (hg0.block k (Nat.lt_of_lt_of_le hk HB.out.size) (by simp)).trans (HB.out.block k hk)⟩
    have hP0 : Pp w0 w.heap.size p' m' 0 home (M1 g' v' l0) := HP.out.below ⟨hg0.os, hg0.tape, hg0.output, hg0.size, fun k hk => hg0.block k hk (by simp)⟩
    have hpart : Part M (M1 g' v' l0) (has D) := by
      rw [← HL0.out]
      exact Part.start fun s hs hne => by
        cases hM : M (some s) with
        | none => exact absurd hM hne
        | some z => exact ((HD.out s hs).2 z.1 z.2.1 z.2.2 hM).1
    have HB0 := Lib.hid hB0
    have HP0 := Lib.hid hP0
    have HPT := Lib.hid hpart
    have hszd := owns_size HO.out
    clear hg0 hB0 hP0 hpart c0 c1 c2 hs0
    go_loopw [5] (fun u wr => ∃ left cnt nn M', wr.ranges Try.prog 9 pc m wx.heap.size n D left cnt ∧ Hid (Pp wr w.heap.size p' m' nn home M') ∧ Hid (Part M M' left) ∧ nn + cnt ≤ n ∧ Hid (Below w.heap.size w wr))
      (fun _ wr => wr.rangeLeft m wx.heap.size)
    case atStart => exact ⟨_, _, 0, _, hrg0, HP0, HPT, by omega, HB0⟩
    case round =>
      obtain ⟨left, cnt, nn, M', hrg, HPr, HPTr, hcn, HBr⟩ := hrel
      have HRG := Lib.hid hrg
      go_wp2_with (at_next; refine wpList_next_ranges (α := ByteArray) (β := Value) _ rfl _ rfl 9 lawS pc (fun x => .string x) (fun v => v) (fun key kl hk => by obtain ⟨s, e, _⟩ := keyS_inv hk; exact ⟨s, e⟩) (fun v y _ => ⟨v, rfl⟩) m wx.heap.size n D left cnt rfl hrg ?_ ?_)
      · intro hc0 hl0
        go_wp2
        go_ret
        exact ⟨p', m', M', rfl, HPr.out.mono (by omega), HPTr.out.same hl0 H.out.big HM0.out, HBr.out⟩
      · intro x c kl y1 y2 w1 cnt1 hkey hlx hcy hat hrg1 hlt hg1 hs1 hen
        obtain ⟨x', ex, hkl, hxs⟩ := keyS_inv hkey
        have ex' : x = x' := by injection ex
        subst ex'
        subst hkl
        have hhas : has D (.string x.data.toList) = true := by
          cases hh : has D (.string x.data.toList)
          · have e1 := (atKey_of_not_has hh .nil).symm.trans (hat .nil)
            have e2 := (atKey_of_not_has hh (.lit (.bool true))).symm.trans (hat (.lit (.bool true)))
            rw [← e1] at e2
            cases e2
          · rfl
        obtain ⟨g, v, l, hMx⟩ : ∃ g v l, M (some x) = some (g, v, l) := by
          cases hM : M (some x) with
          | none => rw [(HD.out x hxs).1 hM] at hhas; cases hhas
          | some z => exact ⟨z.1, z.2.1, z.2.2, rfl⟩
        have hc : c = .agg #[.pointer (some ⟨g, 0, none⟩)] := by
          have e1 := (hat .nil).symm.trans ((HD.out x hxs).2 g v l hMx).2
          try dsimp only at e1
          rw [e1] at hcy
          exact pc_inv hcy
        subst hc
        have hP1 := HPr.out.ranged hrg hg1
        have hB1 : Below w.heap.size w w1 := grown_below HBr.out hg1 HB.out.size HBr.out.size
        obtain ⟨g9, v9, l9, e9, hbox9⟩ := hP1.box
        have hcc := fun wy (hy : Below w.heap.size w wy) => clone_choice wy base g v l ((H.out.lin _ _ _ _ hMx).below hy)
        obtain ⟨c0, c1, c2⟩ := cells3 (block_alloc hbox9 (.cells #[.pointer (some ⟨g, 0, none⟩)] 102))
        have hy0 : (w1.alloc (.cells #[.pointer (some ⟨g, 0, none⟩)] 102)).heap[w1.heap.size]? = some (.cells #[.pointer (some ⟨g, 0, none⟩)] 102 (0, 0)) := Array.getElem?_push_size
        have y0 := cells1 hy0
        clear hy0
        have HCC := Lib.hid hcc
        have HP1 := Lib.hid hP1
        have HB1 := Lib.hid hB1
        have HX9 := Lib.hid hbox9
        have HMX := Lib.hid hMx
        have HXS := Lib.hid hxs
        have HRG1 := Lib.hid hrg1
        have HLX := Lib.hid hlx
        have HLT := Lib.hid hlt
        have hnn : nn < maxLen := by omega
        clear hcc hP1 hB1 hbox9 hMx hrg1 hrg hlx hat hkey hcy hg1 hs1 hhas
        go_wp2
        go_region_with (go_at_call 84; refine (HCC.out _ (by first | exact s_drew (s_alloc HB1.out _) | exact s_drewN (s_alloc HB1.out _) _ | exact s_alloc HB1.out _)).mono ?_; rintro e w2 ⟨g2, v2, rfl, hl2, hb2'⟩; have hb2 : Below (w1.alloc (.cells #[.pointer (some ⟨g, 0, none⟩)] 102)).heap.size (w1.alloc (.cells #[.pointer (some ⟨g, 0, none⟩)] 102)) w2 := s_trans (by first | exact s_drew (Below.refl _ _) | exact s_drewN (Below.refl _ _) _ | exact Below.refl _ _) hb2'; clear hb2'; have hP2 := (HP1.out.below (s_alloc (Below.refl _ _) (.cells #[.pointer (some ⟨g, 0, none⟩)] 102))).below hb2; obtain ⟨D2, ho2, hi2, hD2⟩ := hP2.own; obtain ⟨w5, hrun, ho5, hg5⟩ := World.ownsMap.update (t := 103) ho2 lawS Try.underlying103 hnn (keyS x HXS.out) (pc_mk g2); obtain ⟨c0, c1, c2⟩ := cells3 (block_on hb2 (block_alloc HX9.out (.cells #[.pointer (some ⟨g, 0, none⟩)] 102))); have HL2 := Lib.hid hl2; have HB2 := Lib.hid hb2; have HP2 := Lib.hid hP2; have HO2 := Lib.hid ho2; have HI2 := Lib.hid hi2; have HD2 := Lib.hid hD2; have HO5 := Lib.hid ho5; have HG5 := Lib.hid hg5; clear hl2 hb2 hP2 ho2 hi2 hD2 ho5 hg5)
        all_goals
          go_wp2
          have hgw : g2 ≥ w1.heap.size + 1 := by have := HL2.out.ge; simp at this; exact this
          have hadd := HP2.out.add (M := M') (s := x) HXS.out (HPTr.out.come x HXS.out HLX.out) (lin_less HL2.out (by have := HB1.out.size; simp; omega)) (fun k g1 v1 l1 e => by
            have hL := HP1.out.lin _ _ _ _ e
            have := block_lt hL.box
            refine ⟨by omega, ?_⟩
            cases hv1 : v1.ownBlock with
            | none => exact Or.inl rfl
            | some q =>
              obtain ⟨cur, hcq⟩ := own_row hL.row hv1
              have := block_lt hcq
              refine Or.inr (fun e => ?_)
              have := own_geq HL2.out.row e.symm
              simp at this
              omega) HI2.out HD2.out HO2.out HO5.out HG5.out
          have hmp : w.heap.size ≤ m' := HP1.out.mge
          have hmlt : m < w.heap.size := by obtain ⟨es, ck, hm9, _⟩ := HO.out; exact block_lt hm9
          have hrm : wx.heap.size ≠ m' := by obtain ⟨es, ck, hm9, _⟩ := (HP1.out.own.choose_spec).1; exact (iter_map_ne HRG1.out hm9).symm
          have hr5 := ranges_grown (ranges_below (ranges_below HRG1.out (s_alloc (Below.refl _ _) (.cells #[.pointer (some ⟨g, 0, none⟩)] 102))) HB2.out) HG5.out (by omega) hrm
          have hb5 : Below w.heap.size w w5 := grown_below (b_trans (s_alloc HB1.out _) (b_less HB2.out (by have := HB1.out.size; simp; omega))) HG5.out hmp (by have := HB1.out.size; have := HB2.out.size; simp at this; omega)
          have hl5 := hr5.left_eq
          have hl0 := HRG.out.left_eq
          go_roundw
          case rel => exact ⟨_, cnt1, nn + 1, _, hr5, Lib.hid hadd, Lib.hid (HPTr.out.step HXS.out HMX.out), by have := HLT.out; omega, Lib.hid hb5⟩
          case measure => rw [hl5, hl0]; exact HLT.out
  clear hK
  have HREST := Lib.hid hrest
  obtain ⟨d0, d1, d2⟩ := cells3 (block_alloc HBX.out (.map #[] 0))
  clear hrest
  go_region_with (go_at_call 84; refine (HCL.out _ (by first | exact Below.refl _ _ | exact s_drew (Below.refl _ _) | exact s_drewN (Below.refl _ _) _ | exact s_alloc (s_drew (Below.refl _ _)) _ | exact s_alloc (s_drewN (Below.refl _ _) _) _)).mono ?_; rintro e w1 ⟨g1, v1, rfl, hl1, hb1⟩; have HL1 := Lib.hid hl1; have HB1 := Lib.hid hb1; obtain ⟨d0, d1, d2⟩ := cells3 (block_alloc (block_on hb1 (block_on (by first | exact Below.refl _ _ | exact s_drew (Below.refl _ _) | exact s_drewN (Below.refl _ _) _ | exact s_alloc (s_drew (Below.refl _ _)) _ | exact s_alloc (s_drewN (Below.refl _ _) _) _ : Below w.heap.size w _) HBX.out)) (.map #[] 0)); obtain ⟨c0, c1, c2⟩ := cells3 (block_on hb1 (block_on (by first | exact Below.refl _ _ | exact s_drew (Below.refl _ _) | exact s_drewN (Below.refl _ _) _ | exact s_alloc (s_drew (Below.refl _ _)) _ | exact s_alloc (s_drewN (Below.refl _ _) _) _ : Below w.heap.size w _) HBX.out)); clear hl1 hb1)
  all_goals
    have hb1 : Below w.heap.size w w1 := s_trans (by first | exact s_drew (Below.refl _ _) | exact s_alloc (s_drew (Below.refl _ _)) _) HB1.out
    have hl1 : Lin w1 w.heap.size g1 v1 l0 := lin_less HL1.out (by simp)
    first
      | exact HREST.out _ w1.heap.size g1 v1 _ (Lib.hid (Pp.start (hl1.below (s_alloc (s_alloc (Below.refl _ _) _) _)) (by rw [show w1.heap.size + 1 = (w1.alloc (.map #[] 0)).heap.size by simp]; exact Array.getElem?_push_size) (block_alloc Array.getElem?_push_size _) (by have := hb1.size; omega) hb1.size)) (Lib.hid (s_alloc (s_alloc hb1 _) _))
      | exact HREST.out _ w.heap.size g1 v1 _ (Lib.hid (Pp.start (hl1.below (s_alloc (Below.refl _ _) _)) Array.getElem?_push_size (block_alloc (block_on HB1.out (by exact Array.getElem?_push_size)) _) hb1.size (Nat.le_refl _))) (Lib.hid (s_alloc hb1 _))
end Go.Proofs.Ytbjoegladcmibaa.Pe
