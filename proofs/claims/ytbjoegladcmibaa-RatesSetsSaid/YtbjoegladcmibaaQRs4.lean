/-
  rates: Clone, the walk.
-/
import Derived.Test.YtbjoegladcmibaaQRs3
import Derived.Test.YtbjoegladcmibaaQWWords
import Derived.Deep.RegionWith
import Derived.Maps.RangeWalk
namespace Go.Proofs.Ytbjoegladcmibaa.Rt
set_option linter.unusedVariables false
set_option linter.unusedSimpArgs false
set_option linter.unnecessarySimpa false
open Go.RowKit Go.Maps Go.Proofs.YtbjoegladcmibaaK Go.Proofs.Ytbjoegladcmibaa.Ln Go.Proofs.Ytbjoegladcmibaa.LnI Go.Proofs.Ytbjoegladcmibaa.SpI Go.Proofs.YtbjoegladcmibaaW.PrintWords

theorem ranges_below {w w1 : World} {b r n : Nat} {D : DataW Unit} {left : Lit → Bool} {cnt : Nat} (h : w.ranges Try.prog 109 pe b r n D left cnt) (hb : Below w.heap.size w w1) : w1.ranges Try.prog 109 pe b r n D left cnt := by
  obtain ⟨es, clock, since, seen, c0, h1, h2, h3, h4, h5, rest⟩ := h
  exact ⟨es, clock, since, seen, c0, block_on hb h1, h2, h3, h4, block_on hb h5, rest⟩
theorem owns_below {w w1 : World} {m n : Nat} {D : DataW Unit} (ho : w.ownsMap Try.prog 109 pe m n D) (hb : Below w.heap.size w w1) : w1.ownsMap Try.prog 109 pe m n D := by
  obtain ⟨es, clock, hm, rest⟩ := ho
  exact ⟨es, clock, block_on hb hm, rest⟩
theorem iter_below {w w0 : World} (hg : w.grownBy w0 none) : Below w.heap.size w w0 := ⟨hg.os, hg.tape, hg.output, hg.size, fun k hk => hg.block k hk (by simp)⟩
theorem grown_low {w w1 w2 : World} {B m : Nat} (hb : Below B w w1) (hg : w1.grownBy w2 (some m)) (hm : B ≤ m) (hB : B ≤ w1.heap.size) : Below B w w2 :=
  ⟨hg.os.trans hb.os, hg.tape.trans hb.tape, hg.output.trans hb.output, Nat.le_trans hb.size hg.size, fun k hk => (hg.block k (by omega) (fun e => by have := Option.some.inj e; omega)).trans (hb.block k hk)⟩
set_option maxRecDepth 100000 in
set_option maxHeartbeats 8000000 in
theorem clone_any (w : World) (base r m n : Nat) (M : RM) (h : Rt w base r m n M) (hn : n < maxLen) (hk : KeysOk M) :
    Calls Try.prog 35 #[.pointer (some ⟨r, 0, none⟩)] w fun e w' => ∃ r' m' M', e = .returned (.pointer (some ⟨r', 0, none⟩)) ∧ Rt w' w.heap.size r' m' n M' ∧ SameR M M' ∧ Below w.heap.size w w' := by
  obtain ⟨D, ho, hi, hD⟩ := h.own
  have c0 := cells1 h.box
  have hmc := Try.maps_Clone_key 109 pe m n D w ho
  have HMC := Lib.hid hmc
  have H := Lib.hid h
  have HD := Lib.hid hD
  have HI := Lib.hid hi
  have HK := Lib.hid hk
  clear h ho hi hD hmc hk
  go_enter Try.func35, Try.ntmps35
  go_upto_region 4 with (go_at_call 76; refine HMC.out.mono ?_; rintro e w1 ⟨rfl, ho1, ho2, hb⟩; have HO1 := Lib.hid ho1; have HB := Lib.hid hb; clear ho1 ho2 hb)
  clear c0
  obtain ⟨w2, hw2⟩ : ∃ W : World, W = w1.alloc (.cells #[.map (some w.heap.size)] 86) := ⟨_, rfl⟩
  rw [← hw2]
  have hb12 : Below w1.heap.size w1 w2 := by rw [hw2]; exact s_alloc (Below.refl _ _) _
  have hbox2 : w2.heap[w1.heap.size]? = some (.cells #[.map (some w.heap.size)] 86 (0, 0)) := by rw [hw2]; exact Array.getElem?_push_size
  have ho2 := owns_below HO1.out hb12
  have hb2 : Below w.heap.size w w2 := s_trans HB.out hb12
  have c0 := cells1 hbox2
  have hmlt : w.heap.size < w1.heap.size := HO1.out.lt
  have HBX := Lib.hid hbox2
  have HO2 := Lib.hid ho2
  have HB2 := Lib.hid hb2
  have HML := Lib.hid hmlt
  clear hw2 hb12 hbox2 ho2 hb2 hmlt
  go_wp2_with (at_range; refine wpList_range_own _ rfl _ 84 rfl 109 110 lawK Try.underlying84 _ w.heap.size n D rfl HO2.out ?_; intro w0 hrg0 hg0 hs0)
  go_frame
  have hb0 := iter_below hg0
  have HB0 := Lib.hid (s_trans HB2.out hb0)
  have HBX0 := Lib.hid (block_on hb0 HBX.out)
  have HH0 := Lib.hid (Half.start HI.out HD.out : Half w0 w.heap.size M (fun _ => none) D (has D))
  clear hg0 hb0 hs0 c0
  go_loopw [5] (fun u wr => ∃ left cnt D' M', wr.ranges Try.prog 109 pe w.heap.size w2.heap.size n D' left cnt ∧ Hid (Half wr w.heap.size M M' D' left) ∧ Hid (wr.heap[w1.heap.size]? = some (.cells #[.map (some w.heap.size)] 86 (0, 0))) ∧ Hid (Below w.heap.size w wr))
    (fun _ wr => wr.rangeLeft w.heap.size w2.heap.size)
  case atStart => exact ⟨_, _, D, _, hrg0, HH0, HBX0, HB0⟩
  case round =>
    obtain ⟨left, cnt, D', M', hrg, HH, HBXr, HBr⟩ := hrel
    have HRG := Lib.hid hrg
    go_wp2_with (at_next; refine wpList_next_ranges (α := Value) (β := Value) _ rfl _ rfl 109 lawK pe (fun x => x) (fun v => v) (fun key kl hk => ⟨key, rfl⟩) (fun v y _ => ⟨v, rfl⟩) w.heap.size w2.heap.size n D' left cnt rfl hrg ?_ ?_)
    · intro hc0 hl0
      go_wp2
      go_ret
      obtain ⟨q1, q2⟩ := HH.out.done hl0 HBXr.out HRG.out.owns HB.out.size (Nat.le_refl _) (by have := HML.out; omega)
      exact ⟨w1.heap.size, w.heap.size, M', rfl, q1, q2, HBr.out⟩
    · intro x c kl y1 y2 w3 cnt1 hkey hlx hcy hat hrg1 hlt hg1 hs1 hen
      have hhas : has D' kl = true := has_true_of_atKey hat
      obtain ⟨g, v, l, hMx⟩ : ∃ g v l, M kl = some (g, v, l) := by
        cases hM : M kl with
        | none => rw [(HH.out.no kl hM).1] at hhas; cases hhas
        | some z => exact ⟨z.1, z.2.1, z.2.2, rfl⟩
      obtain ⟨s, cc, hss, hcc, rfl⟩ := HK.out kl (by rw [hMx]; simp)
      obtain rfl : x = .agg #[.string s, .int .i64 cc] := lawK.inj hkey (key_of s cc hss hcc)
      obtain ⟨_, _, hat2⟩ := HH.out.come _ g v l hMx hlx
      have hc : c = .pointer (some ⟨g, 0, none⟩) := by
        have e1 := (hat .nil).symm.trans hat2
        try dsimp only at e1
        rw [e1] at hcy
        exact pe_inv hcy
      subst hc
      have hH3 := HH.out.iter HRG.out hg1
      have hb3 : Below w.heap.size w w3 := grown_low HBr.out hg1 HB2.out.size HBr.out.size
      have hbox3 : w3.heap[w1.heap.size]? = some (.cells #[.map (some w.heap.size)] 86 (0, 0)) := by
        refine (hg1.block _ (block_lt HBXr.out) (fun e => ?_)).trans HBXr.out
        have := block_lt HBX.out
        have := Option.some.inj e
        omega
      obtain ⟨w3a, hw3a⟩ : ∃ W : World, W = w3.alloc (.cells #[.string s, .int .i64 cc] 109) := ⟨_, rfl⟩
      have hb3a : Below w3.heap.size w3 w3a := by rw [hw3a]; exact s_alloc (Below.refl _ _) _
      have hka : w3a.heap[w3.heap.size]? = some (.cells #[.string s, .int .i64 cc] 109 (0, 0)) := by rw [hw3a]; exact Array.getElem?_push_size
      have hbox3a := block_on hb3a hbox3
      have hH3a := hH3.below hb3a
      have hr3a := ranges_below hrg1 hb3a
      have hBa : Below w.heap.size w w3a := s_trans hb3 hb3a
      have hcc2 := fun wy (hy : Below w.heap.size w wy) => clone_line wy base g v l ((H.out.lin _ _ _ _ hMx).below hy)
      have c0 := cells1 hbox3a
      obtain ⟨k0, k1⟩ := cells2 hka
      have HCC := Lib.hid hcc2
      have HBA := Lib.hid hBa
      have HHA := Lib.hid hH3a
      have HRA := Lib.hid hr3a
      have HBXA := Lib.hid hbox3a
      have HKA := Lib.hid hka
      have HMX := Lib.hid hMx
      have HLX := Lib.hid hlx
      have HLT := Lib.hid hlt
      have HHAS := Lib.hid hhas
      clear hcc2 hBa hH3a hr3a hbox3a hka hMx hrg hrg1 hat hat2 hkey hcy hg1 hs1 hhas hH3 hb3 hbox3 hb3a hlx hlt
      go_upto_region 7 with fail
      try rw [← hw3a]
      clear hw3a hen
      go_region_with (go_at_call 77; refine (HCC.out _ (by first | exact HBA.out | exact s_drew HBA.out | exact s_drewN HBA.out _)).mono ?_; rintro e w4 ⟨g2, v2, rfl, hl2, hb2'⟩; have hb4 : Below w3a.heap.size w3a w4 := s_trans (by first | exact Below.refl _ _ | exact s_drew (Below.refl _ _) | exact s_drewN (Below.refl _ _) _) hb2'; clear hb2'; have hr4 := ranges_below HRA.out hb4; obtain ⟨w5, hrun, hr5, hg5⟩ := Mp.ranges_put (t := 84) hr4 lawK Try.underlying84 hn (key_of s cc hss hcc) HHAS.out (pe_mk g2); have c0 := cells1 (block_on hb4 HBXA.out); obtain ⟨k0, k1⟩ := cells2 (block_on hb4 HKA.out); have HL2 := Lib.hid hl2; have HB4 := Lib.hid hb4; have HR4 := Lib.hid hr4; have HR5 := Lib.hid hr5; have HG5 := Lib.hid hg5; clear hl2 hb4 hr4 hr5 hg5)
      all_goals
        have hsz : Lin w4 w3a.heap.size g2 v2 l := lin_less HL2.out (by simp)
        obtain ⟨es4, ck4, hm4, _⟩ := HR4.out.owns
        have hstep := HHA.out.step (lawK.key (key_of s cc hss hcc)) HMX.out HLX.out HB4.out hsz HBA.out.size hm4 HG5.out
        have hb5 : Below w.heap.size w w5 := grown_low (s_trans HBA.out HB4.out) HG5.out (Nat.le_refl _) (s_trans HBA.out HB4.out).size
        have hbox5 : w5.heap[w1.heap.size]? = some (.cells #[.map (some w.heap.size)] 86 (0, 0)) := by
          refine (HG5.out.block _ (block_lt (block_on HB4.out HBXA.out)) (fun e => ?_)).trans (block_on HB4.out HBXA.out)
          have := HML.out
          have := Option.some.inj e
          omega
        have hl5 := HR5.out.left_eq
        have hl0 := HRG.out.left_eq
        go_wp2
        go_roundw
        case rel => exact ⟨_, cnt1, _, _, HR5.out, Lib.hid hstep, Lib.hid hbox5, Lib.hid hb5⟩
        case measure => rw [hl5, hl0]; exact HLT.out
end Go.Proofs.Ytbjoegladcmibaa.Rt
