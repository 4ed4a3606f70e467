/-
  RatesSets: the walk of the law.
-/
import Derived.Test.YtbjoegladcmibaaQRsM
import Derived.Deep.DeepCutAuto
namespace Go.Proofs.Ytbjoegladcmibaa.Rt
set_option linter.unusedVariables false
set_option linter.unusedSimpArgs false
set_option linter.unnecessarySimpa false
open Go.RowKit Go.Maps Go.Proofs.YtbjoegladcmibaaK Go.Proofs.Ytbjoegladcmibaa.Ln Go.Proofs.Ytbjoegladcmibaa.LnI Go.Proofs.Ytbjoegladcmibaa.SpI Go.Proofs.Ytbjoegladcmibaa.VRatesSets Go.Proofs.YtbjoegladcmibaaW.PrintWords

theorem cells3 {w : World} {g : Nat} {a0 a1 a2 : Value} {t : TypeId} (h : w.heap[g]? = some (.cells #[a0, a1, a2] t (0, 0))) : w.cell? ⟨g, 0, none⟩ = some a0 ∧ w.cell? ⟨g, 1, none⟩ = some a1 ∧ w.cell? ⟨g, 2, none⟩ = some a2 := by refine ⟨?_, ?_, ?_⟩ <;> simp [World.cell?, h]
theorem cells5 {w : World} {g : Nat} {a0 a1 a2 a3 a4 : Value} {t : TypeId} (h : w.heap[g]? = some (.cells #[a0, a1, a2, a3, a4] t (0, 0))) : w.cell? ⟨g, 0, none⟩ = some a0 ∧ w.cell? ⟨g, 1, none⟩ = some a1 ∧ w.cell? ⟨g, 2, none⟩ = some a2 ∧ w.cell? ⟨g, 3, none⟩ = some a3 ∧ w.cell? ⟨g, 4, none⟩ = some a4 := by refine ⟨?_, ?_, ?_, ?_, ?_⟩ <;> simp [World.cell?, h]
theorem base_on {B : Nat} {w w1 : World} {g : Nat} {x : Obj} (h : Below B w w1) (hg : w.heap[g]? = some x) (hl : g < B) : w1.heap[g]? = some x := (h.block g hl).trans hg
set_option maxRecDepth 100000 in
set_option maxHeartbeats 16000000 in
theorem sets_any (w : World) (A0 : Option Addr) (c0 : Nat) (l0 : List S26) (sa : ByteArray) (ac ad : Int) (hr0 : Kd.C k26 w A0 l0.length l0) (hc0 : l0.length ≤ c0) (hl : l0.length < 9223372036854775807) (hs : ∀ y ∈ l0, y.f0.size ≤ maxLen ∧ (Lit.int .i64 y.f1).wf = true) (has : sa.size ≤ maxLen) (hac : (Lit.int .i64 ac).wf = true) :
    Calls Try.prog 7 #[.slice A0 l0.length c0, .agg #[.string sa, .int .i64 ac, .int .i64 ad]] w fun e w' => e = .returned (.bool true) ∧ Below w.heap.size w w' := by
  have HR0 := Lib.hid hr0
  have HS := Lib.hid hs
  have HAS := Lib.hid has
  have HAC := Lib.hid hac
  obtain ⟨bl, hbl, hlt⟩ := light_any l0 sa ac ad hl
  have hB0 : Below w.heap.size w (w.alloc (.cells #[.string sa, .int .i64 ac, .int .i64 ad] 28)) := s_alloc (Below.refl _ _) _
  have hX0 : (w.alloc (.cells #[.string sa, .int .i64 ac, .int .i64 ad] 28)).heap[w.heap.size]? = some (.cells #[.string sa, .int .i64 ac, .int .i64 ad] 28 (0, 0)) := Array.getElem?_push_size
  have HB0 := Lib.hid hB0
  have HX0 := Lib.hid hX0
  have HLT := Lib.hid hlt
  have HBL := Lib.hid hbl
  clear hr0 hs has hac hlt hbl hB0 hX0
  cases bl
  · go_enter Try.func7, Try.ntmps7
    go_wp2_with (first
      | (go_at_call 11; refine (HLT.out _ _ _ (Kd.C_below HR0.out HB0.out) hc0).mono ?_; rintro e w1 ⟨rfl, hb⟩; have HB1 := Lib.hid (s_trans HB0.out hb); clear hb)
      | (go_at_call 12; refine (lives_any _).mono ?_; rintro e w7 ⟨rfl, hb⟩; have HB7 := Lib.hid (s_trans HB1.out hb); clear hb))
    go_ret
    exact ⟨rfl, HB7.out⟩
  · have h60 := HBL.out rfl
    go_enter Try.func7, Try.ntmps7
    go_wp2_with (first
      | (go_at_call 11; refine (HLT.out _ _ _ (Kd.C_below HR0.out HB0.out) hc0).mono ?_; rintro e w1 ⟨rfl, hb⟩; have HB1 := Lib.hid (s_trans HB0.out hb); have HX1 := Lib.hid (block_on hb HX0.out); clear hb)
      | (go_at_call 13; refine (new_any _).mono ?_; rintro e w2 ⟨rfl, hr, hb⟩; have HAT := Lib.hid (⟨hr, RelR.start, hb.size, ⟨Nat.le_refl _, Nat.le_refl _⟩, Kd.R_nil _ _ _ _ _, block_on hb HX1.out, s_trans HB1.out hb⟩ : AtR w w2 0 _ _ _ _ _ [] none 0 sa ac ad); clear hr hb))
    obtain ⟨r0, hr0⟩ : ∃ q, q = w1.heap.size + 1 := ⟨_, rfl⟩
    try rw [← hr0]
    rw [← hr0] at HAT
    clear hr0 HX0 HB0 HX1 HLT HBL
    go_loopw [5, 6, 30] (fun v5 v6 v30 wr => ∃ (k r m n base : Nat) (M : RM) (L : List S26) (A : Option Addr) (c : Nat), k ≤ l0.length ∧ v30 = .int .i64 k ∧ v5 = .pointer (some ⟨r, 0, none⟩) ∧ v6 = .slice A L.length c ∧ Hid (AtR w wr k r m n base M L A c sa ac ad)) (fun _ _ i _ => l0.length - (intOf i).toNat)
    case atStart => exact ⟨0, r0, _, _, _, _, [], none, 0, Nat.zero_le _, rfl, rfl, rfl, HAT⟩
    case round =>
      obtain ⟨k, r, m, n, base, M, L, A, c, hk, rfl, rfl, rfl, HAT⟩ := hrel
      by_cases hkn : k = l0.length
      · subst hkn
        obtain ⟨z0, z1, z2⟩ := cells3 HAT.out.ask
        have hof := HAT.out.of HAS.out HAC.out
        have hrof := fun wx (hb : Below wr.heap.size wr wx) => (HAT.out.below hb).rof (by omega) HAS.out HAC.out
        generalize ofV (cont M (keyL sa ac)) sa ac ad = OV at *
        generalize ofE (cont M (keyL sa ac)) sa ac ad = OE at *
        have HOF := Lib.hid hof
        have HROF := Lib.hid hrof
        have hq1 : (OV == OV) = true := by simp
        have hq2 : (OE == OE) = true := by simp
        clear hof hrof
        go_wp2_with (first
          | (go_at_call 15; refine HOF.out.mono ?_; rintro e w2 ⟨rfl, hb⟩; have HB2 := Lib.hid hb; obtain ⟨z0, z1, z2⟩ := cells3 (block_on hb HAT.out.ask); clear hb)
          | (go_at_call 38; refine (HROF.out _ HB2.out).mono ?_; rintro e w3 ⟨rfl, hb⟩; have HB3 := Lib.hid (s_trans HB2.out hb); clear hb)
          | (go_at_call 12; refine (lives_any _).mono ?_; rintro e w7 ⟨rfl, hb⟩; have HB7 := Lib.hid (s_trans HB3.out hb); clear hb))
        go_ret
        exact ⟨rfl, s_trans HAT.out.low HB7.out⟩
      · have hlt : k < l0.length := by omega
        obtain ⟨ad0, e0, q0, q1, q2, q3, q4⟩ := at_T26 (Kd.C_below HR0.out HAT.out.low) (k : Int) (by omega) (by omega)
        have hy : rd_T26 l0 (k : Int) = l0[k] := by unfold rd_T26; rw [Int.toNat_natCast, List.getD_eq_getElem?_getD, List.getElem?_eq_getElem hlt]; rfl
        obtain ⟨hy1, hy2⟩ := HS.out l0[k] (List.getElem_mem hlt)
        rw [hy] at q0 q1 q2 q3 q4
        rw [Int.toNat_natCast] at q0 q1 q2 q3 q4
        cases e0
        generalize l0[k] = y at *
        clear hy
        obtain ⟨wa, hwa⟩ : ∃ W : World, W = wr.alloc (.cells #[.string y.f0, .int .i64 y.f1, .int .i64 y.f2.f0, .int .i64 y.f2.f1, .int .i64 y.f2.f2] 26) := ⟨_, rfl⟩
        have hba : Below wr.heap.size wr wa := by rw [hwa]; exact s_alloc (Below.refl _ _) _
        have hza : wa.heap.size = wr.heap.size + 1 := by rw [hwa]; simp
        have hya : wa.heap[wr.heap.size]? = some (.cells #[.string y.f0, .int .i64 y.f1, .int .i64 y.f2.f0, .int .i64 y.f2.f1, .int .i64 y.f2.f2] 26 (0, 0)) := by rw [hwa]; exact Array.getElem?_push_size
        have hnk := HAT.out.few
        have hcl := clone_any wa base r m n M (HAT.out.rt.below hba) (by unfold maxLen; omega) (KeysOk.of_rel HAT.out.rel)
        have HBA := Lib.hid hba
        have HZA := Lib.hid hza
        have HYA := Lib.hid hya
        have HCL := Lib.hid hcl
        have HY1 := Lib.hid hy1
        have HY2 := Lib.hid hy2
        clear hba hza hya hcl hy1 hy2
        go_upto_region 10 with fail
        try rw [← hwa]
        clear hwa q0 q1 q2 q3 q4
        go_upto_region 13 with (go_at_call 35; refine HCL.out.mono ?_; rintro e w5 ⟨r2, m2, M2, rfl, hr2, hsm, hb⟩; have HR5 := Lib.hid hr2; have HREL5 := Lib.hid (HAT.out.rel.same hsm); have HB5 := Lib.hid hb; have HY5 := Lib.hid (block_on hb HYA.out); clear hr2 hsm hb)
        obtain ⟨y0, y1, y2, y3, y4⟩ := cells5 HY5.out
        have hset := set_any w5 wa.heap.size r2 m2 n M2 HR5.out HB5.out.size (by unfold maxLen; omega) y.f0 y.f1 y.f2.f0 y.f2.f1 y.f2.f2 HY1.out HY2.out
        unfold RsP at hset
        have hrset := fun wx A1 cp h1 h2 => rset_any HREL5.out (by omega) y.f0 y.f1 y.f2.f0 y.f2.f1 y.f2.f2 HY1.out HY2.out A1 cp w wx h1 h2
        have hrel3 := fun (M3 : RM) h1 h2 h3 => HREL5.out.set (M' := M3) y.f0 y.f1 y.f2.f0 y.f2.f1 y.f2.f2 HY1.out HY2.out h1 h2 h3
        have hlen3 : (if rsE (cont M2 (keyL y.f0 y.f1)) y.f0 y.f1 y.f2.f0 y.f2.f1 y.f2.f2 = 0 then L ++ [⟨y.f0, y.f1, ⟨y.f2.f0, y.f2.f1, y.f2.f2⟩⟩] else L).length ≤ k + 1 := by split <;> (try simp) <;> omega
        obtain ⟨L', hL'⟩ : ∃ L', L' = (if rsE (cont M2 (keyL y.f0 y.f1)) y.f0 y.f1 y.f2.f0 y.f2.f1 y.f2.f2 = 0 then L ++ [⟨y.f0, y.f1, ⟨y.f2.f0, y.f2.f1, y.f2.f2⟩⟩] else L) := ⟨_, rfl⟩
        rw [← hL'] at hlen3
        simp only [← hL'] at hrset hrel3
        generalize rsE (cont M2 (keyL y.f0 y.f1)) y.f0 y.f1 y.f2.f0 y.f2.f1 y.f2.f2 = E at *
        have HSET := Lib.hid hset
        have HRSET := Lib.hid hrset
        have HREL3 := Lib.hid hrel3
        have HLEN3 := Lib.hid hlen3
        clear hL' hset hrset hrel3 hlen3
        go_upto_region 14 with (go_at_call 14; refine HSET.out.mono ?_; rintro e w6 ⟨rfl, ⟨M3, hr3, h1, h2, h3⟩, hb⟩; have HR6 := Lib.hid hr3; have HREL6 := Lib.hid (HREL3.out M3 h1 h2 h3); have HB6 := Lib.hid hb; clear hr3 h1 h2 h3 hb)
        have hrb6 : Below wr.heap.size wr w6 := by
          have h5 : Below wr.heap.size wr w5 := s_trans HBA.out HB5.out
          exact ⟨HB6.out.os.trans h5.os, HB6.out.tape.trans h5.tape, HB6.out.output.trans h5.output, Nat.le_trans h5.size HB6.out.size, fun i hi => (HB6.out.block i (by have := HBA.out.size; omega)).trans (h5.block i hi)⟩
        have hat6 := HAT.out.below hrb6
        have hy6 := base_on HB6.out HY5.out (by have := HZA.out; omega)
        have hlen6 := hat6.len (by omega)
        have HAT6 := Lib.hid hat6
        have HY6 := Lib.hid hy6
        have HLEN6 := Lib.hid hlen6
        have hq0 : ((L.length : Int) != (L.length : Int)) = false := by simp
        clear hrb6 hat6 hy6 hlen6 y0 y1 y2 y3 y4 HSET HREL3
        go_upto_region 18 with (go_at_call 36; refine HLEN6.out.mono ?_; rintro e w7 ⟨rfl, hb⟩; have HB7 := Lib.hid hb; have HY7 := Lib.hid (block_on hb HY6.out); have HAT7 := Lib.hid (HAT6.out.below hb); have HR7 := Lib.hid (HR6.out.below hb); clear hb)
        obtain ⟨y0, y1, y2, y3, y4⟩ := cells5 HY7.out
        have hrs := HRSET.out w7 A c HAT7.out.low HAT7.out.lst
        have HRS := Lib.hid hrs
        clear hrs hq0
        go_upto_region 19 with (go_at_call 37; refine HRS.out.mono ?_; rintro e w8 ⟨A3, c3, rfl, hl3, hb3, hsf⟩; have HAT8 := Lib.hid (⟨HR7.out.safe hsf, HREL6.out, Nat.le_trans HR7.out.rge (Nat.le_of_lt (block_lt (HR7.out.safe hsf).box)), ⟨by omega, HLEN3.out⟩, hl3, hsf.cells HAT7.out.ask (by decide), hb3⟩ : AtR w w8 (k + 1) r2 m2 (n + 1) wa.heap.size M3 L' A3 c3 sa ac ad); clear hl3 hb3 hsf)
        obtain ⟨z0, z1, z2⟩ := cells3 HAT8.out.ask
        have hof := HAT8.out.of HAS.out HAC.out
        have hrof := fun wx (hb : Below w8.heap.size w8 wx) => (HAT8.out.below hb).rof (by omega) HAS.out HAC.out
        generalize ofV (cont M3 (keyL sa ac)) sa ac ad = OV at *
        generalize ofE (cont M3 (keyL sa ac)) sa ac ad = OE at *
        have HOF := Lib.hid hof
        have HROF := Lib.hid hrof
        have hk1000 : k + 1 ≤ 1000 := by omega
        have HK1 := Lib.hid hk1000
        have hq0 : (E != E) = false := by simp
        have hq1 : (OV != OV) = false := by simp
        have hq2 : (OE != OE) = false := by simp
        have hq3 : ((L'.length : Int) != (L'.length : Int)) = false := by simp
        clear hof hrof hk1000 y0 y1 y2 y3 y4 HRS HRSET
        go_upto_region 21 with (first
          | (go_at_call 15; refine HOF.out.mono ?_; rintro e w9 ⟨rfl, hb⟩; have HB9 := Lib.hid hb; obtain ⟨z0, z1, z2⟩ := cells3 (block_on hb HAT8.out.ask); clear hb)
          | (go_at_call 38; refine (HROF.out _ HB9.out).mono ?_; rintro e w10 ⟨rfl, hb⟩; have HAT10 := Lib.hid ((HAT8.out.below HB9.out).below hb); clear hb))
        clear z0 z1 z2
        have hlen := HAT10.out.len HK1.out
        have HLEN := Lib.hid hlen
        clear hlen
        go_wp2_with (first
          | (go_at_call 36; refine HLEN.out.mono ?_; rintro e w11 ⟨rfl, hb⟩; have HAT11 := Lib.hid (HAT10.out.below hb); clear hb)
          | (go_at_call 40; refine (HAT11.out.states HK1.out).mono ?_; rintro e w12 ⟨A5, c5, rfl, hs5, hb⟩; have HAT12 := Lib.hid (HAT11.out.below hb); have HS5 := Lib.hid hs5; clear hb hs5)
          | (go_at_call 41; refine (HAT12.out.rstates HK1.out).mono ?_; rintro e w13 ⟨A6, c6, rfl, hs6, hb⟩; have HAT13 := Lib.hid (HAT12.out.below hb); have HS6 := Lib.hid hs6; have HS5b := Lib.hid (HS5.out.below hb); clear hb hs6)
          | (go_at_call 39; refine (same_any HS5b.out HS6.out).mono ?_; rintro e w14 ⟨rfl, hb⟩; have HAT14 := Lib.hid (HAT13.out.below hb); clear hb))
        go_roundw
        case rel => exact ⟨k + 1, r2, m2, n + 1, wa.heap.size, M3, L', A3, c3, by omega, by go_num, rfl, rfl, HAT14⟩
        case measure => simp [intOf]; omega
end Go.Proofs.Ytbjoegladcmibaa.Rt
