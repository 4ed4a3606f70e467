/-
  checker: Check, the walk.
-/
import Derived.Test.YtepddfkdjdklnaaQCh26
namespace Go.Proofs.Ytepddfkdjdklnaa.Ch
set_option linter.unusedVariables false
set_option linter.unusedSimpArgs false
set_option linter.unnecessarySimpa false
open Go.RowKit Go.Maps Go.Proofs.YtepddfkdjdklnaaK Go.Proofs.Ytepddfkdjdklnaa.PCheckerOrder Go.Proofs.YtepddfkdjdklnaaW.PrintWords Go.Proofs.YtepddfkdjdklnaaW.PrintLast Go.Sort

theorem tOf_nil : tOf [] = fun _ => 0 := by funext y; rfl
theorem kOf_nil : kOf [] = fun _ => false := by funext y; simp [kOf]
abbrev planV (A : Option Addr) (n c m : Nat) : Array Value := #[.slice A n c, .map (some m), .slice none 0 0, .slice none 0 0]
/-- The plan as Check lays it. -/
structure Laid (w2 w : World) (A : Option Addr) (n c : Nat) : Prop where
  low : Below w2.heap.size w2 w
  plan : w.heap[w2.heap.size + 1]? = some (.cells (planV A n c w2.heap.size) 36 (0, 0))
  map : Pl w w2.heap.size 0 (tOf []) (kOf [])
theorem laid (w2 : World) (A : Option Addr) (n c : Nat) : Laid w2 ((w2.alloc (.map #[] 0)).alloc (.cells (planV A n c w2.heap.size) 36)) A n c := by
  have h1 : Below w2.heap.size w2 (w2.alloc (.map #[] 0)) := s_alloc (Below.refl _ _) _
  have hz : (w2.alloc (.map #[] 0)).heap.size = w2.heap.size + 1 := by simp
  refine ⟨s_alloc h1 _, ?_, ?_⟩
  · rw [← hz]
    exact Array.getElem?_push_size
  · rw [tOf_nil, kOf_nil]
    exact (Pl.made w2).below (s_alloc (Below.refl _ _) _)
set_option maxRecDepth 100000 in
set_option maxHeartbeats 4000000 in
theorem check_any (w : World) (A : Option Addr) (c : Nat) (l : List S43) (hr : Kd.C k43 w A l.length l) (hc : l.length ≤ c) (hs : ∀ x ∈ l, Small x.f1) (hn : ∀ x ∈ l, (refsB x.f1).length ≤ 1000000) :
    Calls Try.prog 7 #[.slice A l.length c] w (CheckP w l) := by
  have hG := good_all w A c l hr hc hs
  cases hg : goodL l with
  | false =>
    have hE : checkE l = 2 := by unfold checkE; rw [if_pos hg]
    rw [hg] at hG
    have HG := Lib.hid hG
    have HE := Lib.hid hE
    clear hG hE hr hs hn hg hc
    go_enter Try.func7, Try.ntmps7
    go_wp2_with (go_at_call 16; refine HG.out.mono ?_; rintro e w1 ⟨rfl, hb1⟩; have HB1 := Lib.hid hb1; clear hb1)
    refine bodyPost_ret (v := .tuple #[.pointer none, .int .i64 2]) (by simp [results, Try.results7, go_sem]) rfl ⟨HB1.out, .inl ⟨by rw [HE.out]; decide, by rw [HE.out]⟩⟩
  | true =>
    rw [hg] at hG
    have hlen := goodL_len hg
    have hnum := goodL_num hg
    have HG := Lib.hid hG
    have HGD := Lib.hid hg
    have HR := Lib.hid hr
    have HS := Lib.hid hs
    have HN := Lib.hid hn
    have HNUM := Lib.hid hnum
    clear hG hr hs hn hg hnum
    have hmm := @run_makeMap Try.prog
    go_enter Try.func7, Try.ntmps7
    go_upto_region 3 with (go_at_call 16; refine HG.out.mono ?_; rintro e w1 ⟨rfl, hb1⟩; have HB1 := Lib.hid hb1; clear hb1)
    go_upto_region 4 with (go_at_call 17; refine (clone_boxes w1 A c l (Kd.C_below HR.out HB1.out) hlen).mono ?_; rintro e w2 ⟨A', c', rfl, hk, hc', hb2⟩; have HK := Lib.hid hk; have HB2 := Lib.hid (s_trans HB1.out hb2); clear hk hb2)
    have hL := laid w2 A' l.length c'
    unfold planV at hL
    generalize hwb : ((w2.alloc (.map #[] 0)).alloc (.cells #[.slice A' l.length c', .map (some w2.heap.size), .slice none 0 0, .slice none 0 0] 36)) = wb at *
    have HL := Lib.hid hL
    clear hL
    have hps : w2.heap.size ≤ w2.heap.size + 1 := Nat.le_succ _
    obtain ⟨p, hp⟩ : ∃ p, w2.heap.size + 1 = p := ⟨_, rfl⟩
    obtain ⟨m, hm⟩ : ∃ m, w2.heap.size = m := ⟨_, rfl⟩
    have hplan := HL.out.plan
    have hmap := HL.out.map
    rw [hp, hm] at hplan
    rw [hm] at hmap
    have hpge : w2.heap.size ≤ p := by omega
    have hmge : w2.heap.size ≤ m := by omega
    have hfind := find_any w2 wb p m A' c' l (.slice none 0 0) (.slice none 0 0) HL.out.low hplan hmge HK.out hc' hlen HNUM.out hmap
    rw [hm] at hp
    simp only [hm, hp]
    have hpm : p ≠ m := by omega
    have HM9 := Lib.hid hm
    clear hp hm
    clear hplan hmap hps
    by_cases hnd : (nums l).Nodup
    · have hf2 : Calls Try.prog 18 #[.pointer (some ⟨p, 0, none⟩)] wb fun e w' => e = .returned (.int .i64 0) ∧ Below w2.heap.size w2 w' ∧ w'.heap[p]? = some (.cells #[.slice A' l.length c', .map (some m), .slice none 0 0, .slice none 0 0] 36 (0, 0)) ∧ Pl w' m l.length (tOf (nums l)) (kOf (nums l)) := hfind.mono fun e w' h => by
        obtain ⟨h1, h2, h3⟩ := h
        rcases h3 with ⟨_, h4, h5⟩ | ⟨h4, _⟩
        · exact ⟨h4, h1, h2, h5⟩
        · exact absurd hnd h4
      have HF := Lib.hid hf2
      have HND := Lib.hid hnd
      clear hfind hf2 hnd
      go_upto_region 5 with (go_at_call 18; refine HF.out.mono ?_; rintro e w3 ⟨rfl, hb3, hp3, hm3⟩; have HB3 := Lib.hid hb3; have HP3 := Lib.hid hp3; have HM3 := Lib.hid hm3; clear hb3 hp3 hm3)
      have hneed := need_any w2 w3 p m A' c' l (.slice none 0 0) HB3.out HP3.out hpge HK.out hc' hlen (fun x hx => ⟨HS.out x hx, HN.out x hx⟩) (fun x _ r hr => by have := refsR_range hr; exact WalkArith.wf_i64 ⟨by omega, by omega⟩) HM3.out
      cases hok : l.all (okN (nums l)) with
      | false =>
        have hf2 : Calls Try.prog 19 #[.pointer (some ⟨p, 0, none⟩)] w3 fun e w' => e = .returned (.int .i64 83) ∧ Below w2.heap.size w2 w' := hneed.mono fun e w' h => by
          obtain ⟨h1, h3⟩ := h
          rcases h3 with ⟨h4, _⟩ | ⟨_, h4⟩
          · rw [hok] at h4; cases h4
          · exact ⟨h4, h1⟩
        have hE : checkE l = 83 := by unfold checkE; rw [if_neg (by rw [HGD.out]; decide), if_neg (fun h => h HND.out), if_pos hok]
        have HNE := Lib.hid hf2
        have HE := Lib.hid hE
        clear hneed hf2 hE hok
        go_wp2_with (go_at_call 19; refine HNE.out.mono ?_; rintro e w4 ⟨rfl, hb4⟩; have HB4 := Lib.hid (s_trans HB2.out hb4); clear hb4)
        refine bodyPost_ret (v := .tuple #[.pointer none, .int .i64 83]) (by simp [results, Try.results7, go_sem]) rfl ⟨HB4.out, .inl ⟨by rw [HE.out]; decide, by rw [HE.out]⟩⟩
      | true =>
        have hf2 : Calls Try.prog 19 #[.pointer (some ⟨p, 0, none⟩)] w3 fun e w' => e = .returned (.int .i64 0) ∧ Below w2.heap.size w2 w' ∧ ∃ v, w'.heap[p]? = some (.cells #[.slice A' l.length c', .map (some m), v, .slice none 0 0] 36 (0, 0)) ∧ NeedsIn w' w2.heap.size v (needsL l) ∧ Pl w' m l.length (tOf (nums l)) (kOf (nums l)) := hneed.mono fun e w' h => by
          obtain ⟨h1, h3⟩ := h
          rcases h3 with ⟨_, h4, h5⟩ | ⟨h4, _⟩
          · exact ⟨h4, h1, h5⟩
          · rw [hok] at h4; cases h4
        have HOK := Lib.hid hok
        have HNE := Lib.hid hf2
        clear hneed hf2 hok
        go_upto_region 8 with (go_at_call 19; refine HNE.out.mono ?_; rintro e w4 ⟨rfl, hb4, v, hp4, hn4, hm4⟩; have HB4 := Lib.hid hb4; have HP4 := Lib.hid hp4; have HN4 := Lib.hid hn4; have HM4 := Lib.hid hm4; clear hb4 hp4 hn4 hm4)
        have hnames := names_any' w4 p A' c' l (cells4 HP4.out).1 (Kd.C_below HK.out HB4.out) hc' (by omega) HS.out
        cases hnm : l.any (fun b => !namesB b.f1) with
        | true =>
          rw [hnm, if_pos rfl] at hnames
          have hE : checkE l = 80 := by unfold checkE; rw [if_neg (by rw [HGD.out]; decide), if_neg (fun h => h HND.out), if_neg (by rw [HOK.out]; decide), if_pos hnm]
          have HNA := Lib.hid hnames
          have HE := Lib.hid hE
          clear hnames hE hnm
          go_wp2_with (go_at_call 20; refine HNA.out.mono ?_; rintro e w5 ⟨rfl, hb5⟩; have HB5 := Lib.hid (s_trans HB2.out (s_trans HB4.out hb5)); clear hb5)
          refine bodyPost_ret (v := .tuple #[.pointer none, .int .i64 80]) (by simp [results, Try.results7, go_sem]) rfl ⟨HB5.out, .inl ⟨by rw [HE.out]; decide, by rw [HE.out]⟩⟩
        | false =>
          rw [hnm, if_neg (by decide)] at hnames
          have HNM := Lib.hid hnm
          have HNA := Lib.hid hnames
          clear hnames hnm
          go_upto_region 13 with (go_at_call 20; refine HNA.out.mono ?_; rintro e w5 ⟨rfl, hb5⟩; have HB5 := Lib.hid hb5; clear hb5)
          have hnl : (needsL l).length = l.length := by unfold needsL; rw [List.length_map]
          have harr := arrange_any w5 p A' c' (.map (some m)) v (needsL l) w2.heap.size (by rw [hnl]; exact block_on HB5.out HP4.out) (HN4.out.below HB5.out) (by rw [hnl]; exact hlen) (needsL_in HOK.out HN.out)
          rw [hnl] at harr
          cases hao : arr (needsL l) with
          | none =>
            have hf2 : Calls Try.prog 21 #[.pointer (some ⟨p, 0, none⟩)] w5 fun e w' => e = .returned (.int .i64 84) ∧ Below w2.heap.size w2 w' := harr.mono fun e w' h => by
              obtain ⟨h1, h3⟩ := h
              rcases h3 with ⟨o, vo, h4, _⟩ | ⟨_, h4⟩
              · rw [hao] at h4; cases h4
              · exact ⟨h4, grown_low (s_trans HB4.out HB5.out) h1 hpge⟩
            have hE : checkE l = 84 := by unfold checkE; rw [if_neg (by rw [HGD.out]; decide), if_neg (fun h => h HND.out), if_neg (by rw [HOK.out]; decide), if_neg (by rw [HNM.out]; decide), if_pos hao]
            have HAR := Lib.hid hf2
            have HE := Lib.hid hE
            clear harr hf2 hE hao hnl
            go_wp2_with (first
              | (go_at_call 21; refine HAR.out.mono ?_; rintro e w6 ⟨rfl, hb6⟩; have HB6 := Lib.hid (s_trans HB2.out hb6); clear hb6)
              | (go_at_call 22; refine (done_err _ _ 84 (by decide)).mono ?_; rintro e w7 ⟨rfl, rfl⟩))
            refine bodyPost_ret (v := .tuple #[.pointer none, .int .i64 84]) (by simp [results, Try.results7, go_sem]) rfl ⟨HB6.out, .inl ⟨by rw [HE.out]; decide, by rw [HE.out]⟩⟩
          | some o =>
            have hf2 : Calls Try.prog 21 #[.pointer (some ⟨p, 0, none⟩)] w5 fun e w' => e = .returned (.int .i64 0) ∧ Below w2.heap.size w2 w' ∧ PlanIn w' p l o := harr.mono fun e w' h => by
              obtain ⟨h1, h3⟩ := h
              rcases h3 with ⟨o2, vo, h4, h5, h6, h7⟩ | ⟨h4, _⟩
              · rw [hao] at h4
                obtain rfl := Option.some.inj h4
                have hlow := grown_low (s_trans HB4.out HB5.out) h1 hpge
                have hp5 := block_on HB5.out HP4.out
                have hm5 := HM4.out.below HB5.out
                refine ⟨h5, hlow, ⟨A', c', m, v, vo, w2.heap.size, h6, Kd.C_below HK.out hlow, hc', hm5.stay (h1.block m hm5.obj.1 (fun e => hpm (Option.some.inj e).symm)), (HN4.out.below HB5.out).far h1 hp5, own_weak h7 (s_trans HB4.out HB5.out).size⟩⟩
              · rw [hao] at h4; cases h4
            have hE : checkE l = 0 := by unfold checkE; rw [if_neg (by rw [HGD.out]; decide), if_neg (fun h => h HND.out), if_neg (by rw [HOK.out]; decide), if_neg (by rw [HNM.out]; decide), if_neg (by rw [hao]; simp)]
            have HAO := Lib.hid hao
            have HAR := Lib.hid hf2
            have HE := Lib.hid hE
            clear harr hf2 hE hao hnl
            go_wp2_with (first
              | (go_at_call 21; refine HAR.out.mono ?_; rintro e w6 ⟨rfl, hb6, hpl6⟩; have HB6 := Lib.hid (s_trans HB2.out hb6); have HPL := Lib.hid hpl6; clear hb6 hpl6)
              | (go_at_call 22; refine (done_ok _ _).mono ?_; rintro e w7 ⟨rfl, rfl⟩))
            refine bodyPost_ret (v := .tuple #[.pointer (some ⟨p, 0, none⟩), .int .i64 0]) (by simp [results, Try.results7, go_sem]) rfl ⟨HB6.out, .inr ⟨HE.out, p, o, HAO.out, rfl, HPL.out⟩⟩
    · have hf2 : Calls Try.prog 18 #[.pointer (some ⟨p, 0, none⟩)] wb fun e w' => e = .returned (.int .i64 51) ∧ Below w2.heap.size w2 w' := hfind.mono fun e w' h => by
        obtain ⟨h1, h2, h3⟩ := h
        rcases h3 with ⟨h4, _⟩ | ⟨_, h4⟩
        · exact absurd h4 hnd
        · exact ⟨h4, h1⟩
      have hE : checkE l = 51 := by unfold checkE; rw [if_neg (by rw [HGD.out]; decide), if_pos hnd]
      have HF := Lib.hid hf2
      have HE := Lib.hid hE
      clear hfind hf2 hE hnd
      go_wp2_with (go_at_call 18; refine HF.out.mono ?_; rintro e w3 ⟨rfl, hb3⟩; have HB3 := Lib.hid (s_trans HB2.out hb3); clear hb3)
      refine bodyPost_ret (v := .tuple #[.pointer none, .int .i64 51]) (by simp [results, Try.results7, go_sem]) rfl ⟨HB3.out, .inl ⟨by rw [HE.out]; decide, by rw [HE.out]⟩⟩
end Go.Proofs.Ytepddfkdjdklnaa.Ch
