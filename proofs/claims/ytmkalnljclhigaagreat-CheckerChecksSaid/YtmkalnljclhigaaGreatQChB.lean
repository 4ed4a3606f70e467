/- Several texts in one. -/
import Derived.Test.YtmkalnljclhigaaGreatQChA
/-
  checker: Clone over any row of boxes; Check.
-/
namespace Go.Proofs.YtmkalnljclhigaaGreat.Ch
set_option linter.unusedVariables false
set_option linter.unusedSimpArgs false
set_option linter.unnecessarySimpa false
open Go.RowKit Go.Maps Go.Proofs.YtmkalnljclhigaaGreatK Go.Proofs.YtmkalnljclhigaaGreat.XCheckerChecks Go.Proofs.YtmkalnljclhigaaGreatW.PrintWords Go.Proofs.YtmkalnljclhigaaGreatW.PrintLast Go.Sort

theorem infoX : (Tryz.prog.info? 35).map (fun i => (i.zero.map (fun z => z.cells.size), i.size, i.bytes)) = some (some 6, 6, 88) := by kernel_rfl
set_option maxRecDepth 100000 in
set_option maxHeartbeats 1000000 in
theorem clone_boxes (w : World) (A : Option Addr) (c : Nat) (l : List S35) (hr : Kd.C k35 w A l.length l) (hl : l.length ≤ 256) :
    Calls Tryz.prog 24 #[.slice A l.length c] w fun e w' => ∃ A' c', e = .returned (.slice A' l.length c') ∧ Kd.C k35 w' A' l.length l ∧ l.length ≤ c' ∧ Below w.heap.size w w' := by
  cases A with
  | none =>
    have h0 : l = [] := by
      refine List.eq_nil_of_length_eq_zero ?_
      rcases Nat.eq_zero_or_pos l.length with h | h
      · exact h
      · obtain ⟨ad, e, _⟩ := hr.2.2 h; cases e
    subst h0
    refine (AnyE.slices_Clone_nil boxLays _ _ w).mono ?_
    rintro e w' ⟨rfl, rfl⟩
    exact ⟨none, 0, rfl, hr, Nat.zero_le _, Below.refl _ _⟩
  | some ad =>
    obtain ⟨news, hrep, hcell⟩ := ReadsRow.inner_ hr
    have h1 : ∀ u ∈ news, u.oneCell' = true := by
      intro u hu
      obtain ⟨j, hj, e⟩ := List.getElem_of_mem hu
      have hnl : news.length = l.length * 6 := hrep.1
      have hjl : j / 6 < l.length := by omega
      have := hrep.2 (j / 6) _ (List.getElem?_eq_getElem hjl)
      refine k35.K_one this u ?_
      have h6 : k35.sz = 6 := rfl
      rw [h6]
      refine List.mem_of_getElem? (i := j % 6) ?_
      rw [List.getElem?_take_of_lt (Nat.mod_lt _ (by omega)), List.getElem?_drop]
      have e2 : j / 6 * 6 + j % 6 = j := by omega
      rw [e2, List.getElem?_eq_getElem hj, e]
    obtain ⟨i0, hi0⟩ : ∃ i, Tryz.prog.info? 35 = some i := ⟨_, rfl⟩
    have hin := infoX
    rw [hi0] at hin
    simp only [Option.map_some, Option.some.injEq, Prod.mk.injEq] at hin
    obtain ⟨hz, hs, hb⟩ := hin
    obtain ⟨z, hz0, hzs⟩ : ∃ z, i0.zero = some z ∧ z.cells.size = 6 := by
      cases h : i0.zero with
      | none => rw [h] at hz; cases hz
      | some z => rw [h] at hz; exact ⟨z, rfl, by simpa using hz⟩
    have q22 : ∀ (w : World) (a : Option Addr) (n c n' c' : Nat), (binOp .eql 22 (.slice a n c) (.slice none n' c')).run Tryz.prog w = .ok (.bool a.isNone) w := fun w a n c n' c' => Lib.run_eql_slice_nil w _ _ a n c n' c' Tryz.underlying22
    have HREP := Lib.hid hrep
    have HCELL := Lib.hid hcell
    have HH1 := Lib.hid h1
    clear hr hrep hcell h1 hz
    go_enter Tryz.func24, Tryz.ntmps24
    go_wp2_with (at_builtin; refine wpList_append_own_at _ rfl _ _ 22 rfl w.heap.size 35 i0 z 6 88 Tryz.underlying22 hi0 hz0 hs hb hzs (by decide) _ _ _ rfl (World.ownsRow_made w #[] 0 (Nat.le_refl _) (Nat.zero_le _) (by simp)) ad l.length c news rfl ?qc1 ?qc2 ?qc3 ?qc4 ?qc5 ?qc6 ?_)
    case qc1 => exact HREP.out.1
    case qc2 =>
      intro j u hj
      exact Lib.cell?_alloc_some _ (HCELL.out j u hj)
    case qc3 => exact HH1.out
    case qc4 => unfold maxLen; omega
    case qc5 => omega
    case qc6 => simp
    intro v' w1 hown hgrow hnil hat
    have hb1 : Below w.heap.size w w1 := ((Below.refl _ w).alloc (Nat.le_refl _) _).grown hgrow (by simp) (by intro k hk; simp [Value.ownBlock] at hk; omega)
    obtain ⟨A', c', rfl, hrr⟩ := own_reads_row hown (HREP.out.imp_ (fun p cs hp => k35.K_below hb1 hp)) rfl
    have hcl : l.length ≤ c' := by
      rcases hown.2 with ⟨e, h0⟩ | ⟨g, cap, cur, e, _, _, h2, _⟩
      · omega
      · have := (Value.slice.inj e).2.2; omega
    have HRR := Lib.hid hrr
    have HB1 := Lib.hid hb1
    clear hown hgrow hnil hat hrr hb1
    go_wp2
    go_ret
    exact ⟨A', c', rfl, HRR.out, hcl, HB1.out⟩
end Go.Proofs.YtmkalnljclhigaaGreat.Ch

/-
  checker: what is good; Check's plain part.
-/
namespace Go.Proofs.YtmkalnljclhigaaGreat.Ch
set_option linter.unusedVariables false
set_option linter.unusedSimpArgs false
set_option linter.unnecessarySimpa false
open Go.RowKit Go.Maps Go.Proofs.YtmkalnljclhigaaGreatK Go.Proofs.YtmkalnljclhigaaGreat.XCheckerChecks Go.Proofs.YtmkalnljclhigaaGreatW.PrintWords Go.Proofs.YtmkalnljclhigaaGreatW.PrintLast Go.Sort

mutual
theorem refs_right : ∀ x : S33, rightB x = true → ∀ r ∈ refsB x, 1 ≤ r ∧ r ≤ 9999
  | ⟨k, n, f, fs, ks⟩, h, r, hr => by
    rw [rightB] at h
    rw [refsB] at hr
    split at h
    · cases h
    split at h
    · cases h
    rename_i h1 h2
    split at h
    · cases h
    split at h
    · cases h
    by_cases e1 : k = 1
    · subst e1
      have h0 : ks = [] := List.eq_nil_of_length_eq_zero (by
        have : (kidsB 1).1 = 0 := rfl
        rw [this] at h2; omega)
      subst h0
      simp [refsL] at hr
    by_cases e2 : k = 2
    · subst e2
      have h0 : ks = [] := List.eq_nil_of_length_eq_zero (by
        have : (kidsB 2).1 = 0 := rfl
        rw [this] at h2; omega)
      subst h0
      rw [if_neg (by decide), if_pos rfl] at h
      have hb := of_decide_eq_true h
      rw [if_pos rfl, refsL, List.append_nil, List.mem_singleton] at hr
      rw [hr]; exact hb
    rw [if_neg e1, if_neg e2] at h
    rw [if_neg e2, List.nil_append] at hr
    split at h
    · cases h
    by_cases e3 : k = 3
    · subst e3
      have h0 : ks = [] := List.eq_nil_of_length_eq_zero (by
        have : (kidsB 3).1 = 0 := rfl
        rw [this] at h2; omega)
      subst h0
      simp [refsL] at hr
    rw [if_neg e3] at h
    exact refs_rightL ks h r hr
theorem refs_rightL : ∀ l : List S33, rightL l = true → ∀ r ∈ refsL l, 1 ≤ r ∧ r ≤ 9999
  | [], h, r, hr => by simp [refsL] at hr
  | x :: xs, h, r, hr => by
    rw [rightL, Bool.and_eq_true] at h
    rw [refsL, List.mem_append] at hr
    rcases hr with hr | hr
    · exact refs_right x h.1 r hr
    · exact refs_rightL xs h.2 r hr
end
theorem mem_compact {α : Type} [Inhabited α] [DecidableEq α] {zs : List α} {x : α} (h : x ∈ Lib.compact zs) : x ∈ zs := by
  unfold Lib.compact Lib.compactUpTo at h
  obtain ⟨i, hi, rfl⟩ := List.mem_map.1 h
  have hi' : i < zs.length := List.mem_range.1 (List.mem_filter.1 hi).1
  simp [getElem!_pos, hi']
theorem refsR_mem {x : S33} {r : Int} (h : r ∈ refsR x) : r ∈ refsB x := by
  unfold refsR at h
  split at h
  · have := mem_compact h
    unfold sortI at this
    exact List.mem_mergeSort.1 this
  · cases h
theorem refsR_range {x : S33} {r : Int} (h : r ∈ refsR x) : 1 ≤ r ∧ r ≤ 9999 := by
  have hm := refsR_mem h
  unfold refsR at h
  split at h
  · rename_i hg
    unfold goodB at hg
    rw [Bool.and_eq_true] at hg
    exact refs_right x hg.2 r hm
  · cases h
theorem goodL_len {l : List S35} (h : goodL l = true) : l.length ≤ 256 := by
  unfold goodL at h
  rw [Bool.and_eq_true] at h
  exact of_decide_eq_true h.1
theorem goodL_may {l : List S35} (h : goodL l = true) : ∀ x ∈ l, mayB x = true := by
  unfold goodL at h
  rw [Bool.and_eq_true, Bool.not_eq_true'] at h
  intro x hx
  have := List.any_eq_false.1 h.2 x hx
  simpa using this
theorem goodL_num {l : List S35} (h : goodL l = true) : ∀ x ∈ l, 1 ≤ x.f0 ∧ x.f0 ≤ 9999 := fun x hx => by
  have := goodL_may h x hx
  unfold mayB boxedB at this
  rw [Bool.and_eq_true] at this
  exact of_decide_eq_true this.1
/-- What each box needs. -/
noncomputable def needsL (l : List S35) : List (List Nat) := l.map (needN (nums l))
noncomputable def checkE (l : List S35) : Int :=
  if goodL l = false then 2 else if ¬ (nums l).Nodup then 51 else if l.all (okN (nums l)) = false then 83 else if l.any (fun b => !namesB b.f1) = true then 80 else if arr (needsL l) = none then 84 else 0
/-- A plan as it lies in memory. -/
structure PlanIn (w : World) (p : Nat) (l : List S35) (o : List Nat) : Prop where
  ex : ∃ A c m vn vo b, w.heap[p]? = some (.cells #[.slice A l.length c, .map (some m), vn, vo] 56 (0, 0)) ∧ Kd.C k35 w A l.length l ∧ l.length ≤ c ∧ Pl w m l.length (tOf (nums l)) (kOf (nums l)) ∧ NeedsIn w b vn (needsL l) ∧ w.ownsRow b 3 1 vo o.length (intV o)
theorem PlanIn.below {w w1 : World} {p : Nat} {l : List S35} {o : List Nat} (h : PlanIn w p l o) (hb : Below w.heap.size w w1) : PlanIn w1 p l o := by
  obtain ⟨A, c, m, vn, vo, b, h1, h2, h3, h4, h5, h6⟩ := h.ex
  exact ⟨A, c, m, vn, vo, b, block_on hb h1, Kd.C_below h2 hb, h3, h4.below hb, h5.below hb, own_on h6 hb⟩
def CheckP (w : World) (l : List S35) (e : Ending) (w' : World) : Prop :=
  Below w.heap.size w w' ∧ ((checkE l ≠ 0 ∧ e = .returned (.tuple #[.pointer none, .int .i64 (checkE l)])) ∨ (checkE l = 0 ∧ ∃ p o, arr (needsL l) = some o ∧ e = .returned (.tuple #[.pointer (some ⟨p, 0, none⟩), .int .i64 0]) ∧ PlanIn w' p l o))
theorem needsL_in {l : List S35} (hok : l.all (okN (nums l)) = true) (hn : ∀ x ∈ l, (refsB x.f1).length ≤ 1000000) : ∀ q ∈ needsL l, q.length ≤ 1000000 ∧ ∀ x ∈ q, x < (needsL l).length := by
  intro q hq
  unfold needsL at hq ⊢
  obtain ⟨x, hx, rfl⟩ := List.mem_map.1 hq
  refine ⟨by rw [needN_len]; exact Nat.le_trans (refsR_le _) (hn x hx), fun y hy => ?_⟩
  have := needN_lt (List.all_eq_true.1 hok x hx) hy
  rw [List.length_map]
  simpa [nums] using this
end Go.Proofs.YtmkalnljclhigaaGreat.Ch

/-
  checker: Check, the walk.
-/
namespace Go.Proofs.YtmkalnljclhigaaGreat.Ch
set_option linter.unusedVariables false
set_option linter.unusedSimpArgs false
set_option linter.unnecessarySimpa false
open Go.RowKit Go.Maps Go.Proofs.YtmkalnljclhigaaGreatK Go.Proofs.YtmkalnljclhigaaGreat.XCheckerChecks Go.Proofs.YtmkalnljclhigaaGreatW.PrintWords Go.Proofs.YtmkalnljclhigaaGreatW.PrintLast Go.Sort

theorem tOf_nil : tOf [] = fun _ => 0 := by funext y; rfl
theorem kOf_nil : kOf [] = fun _ => false := by funext y; simp [kOf]
abbrev planV (A : Option Addr) (n c m : Nat) : Array Value := #[.slice A n c, .map (some m), .slice none 0 0, .slice none 0 0]
/-- The plan as Check lays it. -/
structure Laid (w2 w : World) (A : Option Addr) (n c : Nat) : Prop where
  low : Below w2.heap.size w2 w
  plan : w.heap[w2.heap.size + 1]? = some (.cells (planV A n c w2.heap.size) 56 (0, 0))
  map : Pl w w2.heap.size 0 (tOf []) (kOf [])
theorem laid (w2 : World) (A : Option Addr) (n c : Nat) : Laid w2 ((w2.alloc (.map #[] 0)).alloc (.cells (planV A n c w2.heap.size) 56)) A n c := by
  have h1 : Below w2.heap.size w2 (w2.alloc (.map #[] 0)) := s_alloc (Below.refl _ _) _
  have hz : (w2.alloc (.map #[] 0)).heap.size = w2.heap.size + 1 := by simp
  refine ⟨s_alloc h1 _, ?_, ?_⟩
  · rw [← hz]
    exact Array.getElem?_push_size
  · rw [tOf_nil, kOf_nil]
    exact (Pl.made w2).below (s_alloc (Below.refl _ _) _)
set_option maxRecDepth 100000 in
set_option maxHeartbeats 4000000 in
theorem check_any (w : World) (A : Option Addr) (c : Nat) (l : List S35) (hr : Kd.C k35 w A l.length l) (hc : l.length ≤ c) (hs : ∀ x ∈ l, Small x.f1) (hn : ∀ x ∈ l, (refsB x.f1).length ≤ 1000000) :
    Calls Tryz.prog 6 #[.slice A l.length c] w (CheckP w l) := by
  have hG := good_all w A c l hr hc hs
  cases hg : goodL l with
  | false =>
    have hE : checkE l = 2 := by unfold checkE; rw [if_pos hg]
    rw [hg] at hG
    have HG := Lib.hid hG
    have HE := Lib.hid hE
    clear hG hE hr hs hn hg hc
    go_enter Tryz.func6, Tryz.ntmps6
    go_wp2_with (go_at_call 23; refine HG.out.mono ?_; rintro e w1 ⟨rfl, hb1⟩; have HB1 := Lib.hid hb1; clear hb1)
    refine bodyPost_ret (v := .tuple #[.pointer none, .int .i64 2]) (by simp [results, Tryz.results6, go_sem]) rfl ⟨HB1.out, .inl ⟨by rw [HE.out]; decide, by rw [HE.out]⟩⟩
  | true =>
    rw [hg] at hG
    have hlen := goodL_len hg
    have hnum := goodL_num hg
    have HG := Lib.hid hG
    have HGD := Lib.hid hg
    have HR := Lib.hid hr
    have HS := Lib.hid hs
    have HN := Lib.hid hn
    have HNUM := Lib.hid hnum
    clear hG hr hs hn hg hnum
    have hmm := @run_makeMap Tryz.prog
    go_enter Tryz.func6, Tryz.ntmps6
    go_upto_region 3 with (go_at_call 23; refine HG.out.mono ?_; rintro e w1 ⟨rfl, hb1⟩; have HB1 := Lib.hid hb1; clear hb1)
    go_upto_region 4 with (go_at_call 24; refine (clone_boxes w1 A c l (Kd.C_below HR.out HB1.out) hlen).mono ?_; rintro e w2 ⟨A', c', rfl, hk, hc', hb2⟩; have HK := Lib.hid hk; have HB2 := Lib.hid (s_trans HB1.out hb2); clear hk hb2)
    have hL := laid w2 A' l.length c'
    unfold planV at hL
    generalize hwb : ((w2.alloc (.map #[] 0)).alloc (.cells #[.slice A' l.length c', .map (some w2.heap.size), .slice none 0 0, .slice none 0 0] 56)) = wb at *
    have HL := Lib.hid hL
    clear hL
    have hps : w2.heap.size ≤ w2.heap.size + 1 := Nat.le_succ _
    obtain ⟨p, hp⟩ : ∃ p, w2.heap.size + 1 = p := ⟨_, rfl⟩
    obtain ⟨m, hm⟩ : ∃ m, w2.heap.size = m := ⟨_, rfl⟩
    have hplan := HL.out.plan
    have hmap := HL.out.map
    rw [hp, hm] at hplan
    rw [hm] at hmap
    have hpge : w2.heap.size ≤ p := by omega
    have hmge : w2.heap.size ≤ m := by omega
    have hfind := find_any w2 wb p m A' c' l (.slice none 0 0) (.slice none 0 0) HL.out.low hplan hmge HK.out hc' hlen HNUM.out hmap
    rw [hm] at hp
    simp only [hm, hp]
    have hpm : p ≠ m := by omega
    have HM9 := Lib.hid hm
    clear hp hm
    clear hplan hmap hps
    by_cases hnd : (nums l).Nodup
    · have hf2 : Calls Tryz.prog 25 #[.pointer (some ⟨p, 0, none⟩)] wb fun e w' => e = .returned (.int .i64 0) ∧ Below w2.heap.size w2 w' ∧ w'.heap[p]? = some (.cells #[.slice A' l.length c', .map (some m), .slice none 0 0, .slice none 0 0] 56 (0, 0)) ∧ Pl w' m l.length (tOf (nums l)) (kOf (nums l)) := hfind.mono fun e w' h => by
        obtain ⟨h1, h2, h3⟩ := h
        rcases h3 with ⟨_, h4, h5⟩ | ⟨h4, _⟩
        · exact ⟨h4, h1, h2, h5⟩
        · exact absurd hnd h4
      have HF := Lib.hid hf2
      have HND := Lib.hid hnd
      clear hfind hf2 hnd
      go_upto_region 5 with (go_at_call 25; refine HF.out.mono ?_; rintro e w3 ⟨rfl, hb3, hp3, hm3⟩; have HB3 := Lib.hid hb3; have HP3 := Lib.hid hp3; have HM3 := Lib.hid hm3; clear hb3 hp3 hm3)
      have hneed := need_any w2 w3 p m A' c' l (.slice none 0 0) HB3.out HP3.out hpge HK.out hc' hlen (fun x hx => ⟨HS.out x hx, HN.out x hx⟩) (fun x _ r hr => by have := refsR_range hr; exact WalkArith.wf_i64 ⟨by omega, by omega⟩) HM3.out
      cases hok : l.all (okN (nums l)) with
      | false =>
        have hf2 : Calls Tryz.prog 26 #[.pointer (some ⟨p, 0, none⟩)] w3 fun e w' => e = .returned (.int .i64 83) ∧ Below w2.heap.size w2 w' := hneed.mono fun e w' h => by
          obtain ⟨h1, h3⟩ := h
          rcases h3 with ⟨h4, _⟩ | ⟨_, h4⟩
          · rw [hok] at h4; cases h4
          · exact ⟨h4, h1⟩
        have hE : checkE l = 83 := by unfold checkE; rw [if_neg (by rw [HGD.out]; decide), if_neg (fun h => h HND.out), if_pos hok]
        have HNE := Lib.hid hf2
        have HE := Lib.hid hE
        clear hneed hf2 hE hok
        go_wp2_with (go_at_call 26; refine HNE.out.mono ?_; rintro e w4 ⟨rfl, hb4⟩; have HB4 := Lib.hid (s_trans HB2.out hb4); clear hb4)
        refine bodyPost_ret (v := .tuple #[.pointer none, .int .i64 83]) (by simp [results, Tryz.results6, go_sem]) rfl ⟨HB4.out, .inl ⟨by rw [HE.out]; decide, by rw [HE.out]⟩⟩
      | true =>
        have hf2 : Calls Tryz.prog 26 #[.pointer (some ⟨p, 0, none⟩)] w3 fun e w' => e = .returned (.int .i64 0) ∧ Below w2.heap.size w2 w' ∧ ∃ v, w'.heap[p]? = some (.cells #[.slice A' l.length c', .map (some m), v, .slice none 0 0] 56 (0, 0)) ∧ NeedsIn w' w2.heap.size v (needsL l) ∧ Pl w' m l.length (tOf (nums l)) (kOf (nums l)) := hneed.mono fun e w' h => by
          obtain ⟨h1, h3⟩ := h
          rcases h3 with ⟨_, h4, h5⟩ | ⟨h4, _⟩
          · exact ⟨h4, h1, h5⟩
          · rw [hok] at h4; cases h4
        have HOK := Lib.hid hok
        have HNE := Lib.hid hf2
        clear hneed hf2 hok
        go_upto_region 8 with (go_at_call 26; refine HNE.out.mono ?_; rintro e w4 ⟨rfl, hb4, v, hp4, hn4, hm4⟩; have HB4 := Lib.hid hb4; have HP4 := Lib.hid hp4; have HN4 := Lib.hid hn4; have HM4 := Lib.hid hm4; clear hb4 hp4 hn4 hm4)
        have hnames := names_any' w4 p A' c' l (cells4 HP4.out).1 (Kd.C_below HK.out HB4.out) hc' (by omega) HS.out
        cases hnm : l.any (fun b => !namesB b.f1) with
        | true =>
          rw [hnm, if_pos rfl] at hnames
          have hE : checkE l = 80 := by unfold checkE; rw [if_neg (by rw [HGD.out]; decide), if_neg (fun h => h HND.out), if_neg (by rw [HOK.out]; decide), if_pos hnm]
          have HNA := Lib.hid hnames
          have HE := Lib.hid hE
          clear hnames hE hnm
          go_wp2_with (go_at_call 27; refine HNA.out.mono ?_; rintro e w5 ⟨rfl, hb5⟩; have HB5 := Lib.hid (s_trans HB2.out (s_trans HB4.out hb5)); clear hb5)
          refine bodyPost_ret (v := .tuple #[.pointer none, .int .i64 80]) (by simp [results, Tryz.results6, go_sem]) rfl ⟨HB5.out, .inl ⟨by rw [HE.out]; decide, by rw [HE.out]⟩⟩
        | false =>
          rw [hnm, if_neg (by decide)] at hnames
          have HNM := Lib.hid hnm
          have HNA := Lib.hid hnames
          clear hnames hnm
          go_upto_region 13 with (go_at_call 27; refine HNA.out.mono ?_; rintro e w5 ⟨rfl, hb5⟩; have HB5 := Lib.hid hb5; clear hb5)
          have hnl : (needsL l).length = l.length := by unfold needsL; rw [List.length_map]
          have harr := arrange_any w5 p A' c' (.map (some m)) v (needsL l) w2.heap.size (by rw [hnl]; exact block_on HB5.out HP4.out) (HN4.out.below HB5.out) (by rw [hnl]; exact hlen) (needsL_in HOK.out HN.out)
          rw [hnl] at harr
          cases hao : arr (needsL l) with
          | none =>
            have hf2 : Calls Tryz.prog 28 #[.pointer (some ⟨p, 0, none⟩)] w5 fun e w' => e = .returned (.int .i64 84) ∧ Below w2.heap.size w2 w' := harr.mono fun e w' h => by
              obtain ⟨h1, h3⟩ := h
              rcases h3 with ⟨o, vo, h4, _⟩ | ⟨_, h4⟩
              · rw [hao] at h4; cases h4
              · exact ⟨h4, grown_low (s_trans HB4.out HB5.out) h1 hpge⟩
            have hE : checkE l = 84 := by unfold checkE; rw [if_neg (by rw [HGD.out]; decide), if_neg (fun h => h HND.out), if_neg (by rw [HOK.out]; decide), if_neg (by rw [HNM.out]; decide), if_pos hao]
            have HAR := Lib.hid hf2
            have HE := Lib.hid hE
            clear harr hf2 hE hao hnl
            go_wp2_with (first
              | (go_at_call 28; refine HAR.out.mono ?_; rintro e w6 ⟨rfl, hb6⟩; have HB6 := Lib.hid (s_trans HB2.out hb6); clear hb6)
              | (go_at_call 29; refine (done_err _ _ 84 (by decide)).mono ?_; rintro e w7 ⟨rfl, rfl⟩))
            refine bodyPost_ret (v := .tuple #[.pointer none, .int .i64 84]) (by simp [results, Tryz.results6, go_sem]) rfl ⟨HB6.out, .inl ⟨by rw [HE.out]; decide, by rw [HE.out]⟩⟩
          | some o =>
            have hf2 : Calls Tryz.prog 28 #[.pointer (some ⟨p, 0, none⟩)] w5 fun e w' => e = .returned (.int .i64 0) ∧ Below w2.heap.size w2 w' ∧ PlanIn w' p l o := harr.mono fun e w' h => by
              obtain ⟨h1, h3⟩ := h
              rcases h3 with ⟨o2, vo, h4, h5, h6, h7⟩ | ⟨h4, _⟩
              · rw [hao] at h4
                obtain rfl := Option.some.inj h4
                have hlow := grown_low (s_trans HB4.out HB5.out) h1 hpge
                have hp5 := block_on HB5.out HP4.out
                have hm5 := HM4.out.below HB5.out
                refine ⟨h5, hlow, ⟨A', c', m, v, vo, w2.heap.size, h6, Kd.C_below HK.out hlow, hc', hm5.stay (h1.block m hm5.obj.1 (fun e => hpm (Option.some.inj e).symm)), (HN4.out.below HB5.out).far h1 hp5, own_weak h7 (s_trans HB4.out HB5.out).size⟩⟩
              · rw [hao] at h4; cases h4
            have hE : checkE l = 0 := by unfold checkE; rw [if_neg (by rw [HGD.out]; decide), if_neg (fun h => h HND.out), if_neg (by rw [HOK.out]; decide), if_neg (by rw [HNM.out]; decide), if_neg (by rw [hao]; simp)]
            have HAO := Lib.hid hao
            have HAR := Lib.hid hf2
            have HE := Lib.hid hE
            clear harr hf2 hE hao hnl
            go_wp2_with (first
              | (go_at_call 28; refine HAR.out.mono ?_; rintro e w6 ⟨rfl, hb6, hpl6⟩; have HB6 := Lib.hid (s_trans HB2.out hb6); have HPL := Lib.hid hpl6; clear hb6 hpl6)
              | (go_at_call 29; refine (done_ok _ _).mono ?_; rintro e w7 ⟨rfl, rfl⟩))
            refine bodyPost_ret (v := .tuple #[.pointer (some ⟨p, 0, none⟩), .int .i64 0]) (by simp [results, Tryz.results6, go_sem]) rfl ⟨HB6.out, .inr ⟨HE.out, p, o, HAO.out, rfl, HPL.out⟩⟩
    · have hf2 : Calls Tryz.prog 25 #[.pointer (some ⟨p, 0, none⟩)] wb fun e w' => e = .returned (.int .i64 51) ∧ Below w2.heap.size w2 w' := hfind.mono fun e w' h => by
        obtain ⟨h1, h2, h3⟩ := h
        rcases h3 with ⟨h4, _⟩ | ⟨_, h4⟩
        · exact absurd h4 hnd
        · exact ⟨h4, h1⟩
      have hE : checkE l = 51 := by unfold checkE; rw [if_neg (by rw [HGD.out]; decide), if_pos hnd]
      have HF := Lib.hid hf2
      have HE := Lib.hid hE
      clear hfind hf2 hE hnd
      go_wp2_with (go_at_call 25; refine HF.out.mono ?_; rintro e w3 ⟨rfl, hb3⟩; have HB3 := Lib.hid (s_trans HB2.out hb3); clear hb3)
      refine bodyPost_ret (v := .tuple #[.pointer none, .int .i64 51]) (by simp [results, Tryz.results6, go_sem]) rfl ⟨HB3.out, .inl ⟨by rw [HE.out]; decide, by rw [HE.out]⟩⟩
end Go.Proofs.YtmkalnljclhigaaGreat.Ch

/-
  checker: the methods of a plan.
-/
namespace Go.Proofs.YtmkalnljclhigaaGreat.Ch
set_option linter.unusedVariables false
set_option linter.unusedSimpArgs false
set_option linter.unnecessarySimpa false
open Go.RowKit Go.Maps Go.Proofs.YtmkalnljclhigaaGreatK Go.Proofs.YtmkalnljclhigaaGreat.XCheckerChecks Go.Proofs.YtmkalnljclhigaaGreatW.PrintWords Go.Proofs.YtmkalnljclhigaaGreatW.PrintLast Go.Sort

set_option maxRecDepth 100000 in
set_option maxHeartbeats 1000000 in
theorem clone_ints (w : World) (v : Value) (q : List Nat) (b : Nat) (h : w.ownsRow b 3 1 v q.length (intV q)) (hq : q.length ≤ 1000000) :
    Calls Tryz.prog 42 #[v] w fun e w' => ∃ v', e = .returned v' ∧ w'.ownsRow w.heap.size 3 1 v' q.length (intV q) ∧ Below w.heap.size w w' := by
  have q22 : ∀ (w : World) (a : Option Addr) (n c n' c' : Nat), (binOp .eql 42 (.slice a n c) (.slice none n' c')).run Tryz.prog w = .ok (.bool a.isNone) w := fun w a n c n' c' => Lib.run_eql_slice_nil w _ _ a n c n' c' Tryz.underlying42
  obtain ⟨i0, hi0, hz0, hzs, hzb⟩ := info_parts infoI
  have hone : ∀ u ∈ intV q, u.oneCell' = true := by
    intro u hu
    unfold intV at hu
    obtain ⟨n, _, rfl⟩ := List.mem_map.1 hu
    rfl
  rcases h.2 with ⟨rfl, h0⟩ | ⟨g, cap, cur, rfl, hge, hbk, hn, hcap, hcs, htk⟩
  · have h1 : q = [] := List.eq_nil_of_length_eq_zero h0
    subst h1
    clear h h0
    go_enter Tryz.func42, Tryz.ntmps42
    go_wp2
    go_ret
    exact ⟨_, rfl, World.ownsRow_nil _ _ _ _, Below.refl _ _⟩
  · have hcell : ∀ j u, (intV q)[j]? = some u → w.cell? ((⟨g, 0, none⟩ : Addr).add j) = some u := by
      intro j u hu
      have hj : j < q.length := by
        have := (List.getElem?_eq_some_iff.1 hu).1
        simpa [intV] using this
      obtain ⟨g2, cap2, u2, e2, _, _, _, hu2, hc2⟩ := own_at h hj
      cases e2
      rw [hu] at hu2
      cases hu2
      rw [Addr.add_lit, Nat.zero_add]; exact hc2
    have HCELL := Lib.hid hcell
    have HONE := Lib.hid hone
    have hl1 := h.1
    rw [Nat.mul_one] at hl1
    have HL1 := Lib.hid hl1
    generalize intV q = news at *
    clear h hcell hone hbk hcs htk hl1
    go_enter Tryz.func42, Tryz.ntmps42
    go_wp2_with (at_builtin; refine wpList_append_own_at _ rfl _ _ 42 rfl w.heap.size 3 i0 _ 1 8 Tryz.underlying42 hi0 hz0 hzs hzb rfl (by decide) _ _ _ rfl (World.ownsRow_made w #[] 0 (Nat.le_refl _) (Nat.zero_le _) (by simp)) ⟨g, 0, none⟩ q.length cap news rfl ?qc1 ?qc2 ?qc3 ?qc4 ?qc5 ?qc6 ?_)
    case qc1 => rw [Nat.mul_one]; exact HL1.out
    case qc2 =>
      intro j u hj
      exact Lib.cell?_alloc_some _ (HCELL.out j u hj)
    case qc3 => exact HONE.out
    case qc4 => unfold maxLen; omega
    case qc5 => omega
    case qc6 => simp
    intro v' w1 hown hgrow hnil hat
    have hb1 : Below w.heap.size w w1 := ((Below.refl _ w).alloc (Nat.le_refl _) _).grown hgrow (by simp) (by intro k hk; simp [Value.ownBlock] at hk; omega)
    have HO := Lib.hid hown
    have HB1 := Lib.hid hb1
    clear hgrow hnil hat hb1
    go_wp2
    go_ret
    exact ⟨v', rfl, by simpa using HO.out, HB1.out⟩
set_option maxRecDepth 100000 in
theorem none_plan (w : World) (p : Nat) (l : List S35) (o : List Nat) (h : PlanIn w p l o) : Calls Tryz.prog 41 #[.pointer (some ⟨p, 0, none⟩)] w fun e w' => e = .returned (.bool false) ∧ Below w.heap.size w w' := by
  obtain ⟨A, c, m, vn, vo, b, h1, _⟩ := h.ex
  obtain ⟨z0, z1, z2, z3⟩ := cells4 h1
  have qT : ∀ (w : World) (r : Option Nat), (binOp .eql 53 (.map r) (.map none)).run Tryz.prog w = .ok (.bool r.isNone) w := fun w r => run_eql_map_nil w _ _ _ r Tryz.underlying53
  clear h h1
  go_enter Tryz.func41, Tryz.ntmps41
  go_wp2
  go_ret
  exact ⟨rfl, Below.refl _ _⟩
theorem len_plan (w : World) (p : Nat) (l : List S35) (o : List Nat) (h : PlanIn w p l o) : Calls Tryz.prog 13 #[.pointer (some ⟨p, 0, none⟩)] w fun e w' => e = .returned (.int .i64 (l.length : Nat)) ∧ Below w.heap.size w w' := by
  have hn := none_plan w p l o h
  obtain ⟨A, c, m, vn, vo, b, h1, _⟩ := h.ex
  have HN := Lib.hid hn
  have H1 := Lib.hid h1
  clear hn h h1
  go_enter Tryz.func13, Tryz.ntmps13
  go_wp2_with (go_at_call 41; refine HN.out.mono ?_; rintro e w1 ⟨rfl, hb⟩; have HB1 := Lib.hid hb; obtain ⟨z0, z1, z2, z3⟩ := cells4 (block_on hb H1.out); clear hb)
  go_ret
  exact ⟨rfl, HB1.out⟩
theorem order_plan (w : World) (p : Nat) (l : List S35) (o : List Nat) (h : PlanIn w p l o) (ho : o.length ≤ 1000000) : Calls Tryz.prog 15 #[.pointer (some ⟨p, 0, none⟩)] w fun e w' => ∃ v, e = .returned v ∧ w'.ownsRow w.heap.size 3 1 v o.length (intV o) ∧ Below w.heap.size w w' := by
  have hn := none_plan w p l o h
  obtain ⟨A, c, m, vn, vo, b, h1, _, _, _, _, h6⟩ := h.ex
  obtain ⟨ado, capo, rfl⟩ := own_slice h6
  have HN := Lib.hid hn
  have H1 := Lib.hid h1
  have H6 := Lib.hid h6
  clear hn h h1 h6
  go_enter Tryz.func15, Tryz.ntmps15
  go_wp2_with (first
    | (go_at_call 41; refine HN.out.mono ?_; rintro e w1 ⟨rfl, hb⟩; have HB1 := Lib.hid hb; obtain ⟨z0, z1, z2, z3⟩ := cells4 (block_on hb H1.out); clear hb)
    | (go_at_call 42; refine (clone_ints _ _ o b (own_on H6.out HB1.out) ho).mono ?_; rintro e w2 ⟨v, rfl, hv, hb⟩; have HV := Lib.hid hv; have HB2 := Lib.hid (s_trans HB1.out hb); clear hv hb))
  go_ret
  exact ⟨v, rfl, own_weak HV.out HB1.out.size, HB2.out⟩
theorem has_plan (w : World) (p : Nat) (l : List S35) (o : List Nat) (i : Int) (h : PlanIn w p l o) : Calls Tryz.prog 44 #[.pointer (some ⟨p, 0, none⟩), .int .i64 i] w fun e w' => e = .returned (.bool (decide (0 ≤ i ∧ i < l.length))) ∧ Below w.heap.size w w' := by
  have hn := len_plan w p l o h
  have HN := Lib.hid hn
  clear hn h
  by_cases hi : 0 ≤ i
  · have d1 : decide (i < 0) = false := decide_eq_false (by omega)
    have d2 : decide (0 ≤ i ∧ i < l.length) = decide (i < l.length) := by simp [hi]
    rw [d2]
    go_enter Tryz.func44, Tryz.ntmps44
    go_wp2_with (go_at_call 13; refine HN.out.mono ?_; rintro e w1 ⟨rfl, hb⟩; have HB1 := Lib.hid hb; clear hb)
    go_ret
    exact ⟨rfl, HB1.out⟩
  · have d2 : decide (0 ≤ i ∧ i < l.length) = false := by simp [hi]
    rw [d2]
    go_enter Tryz.func44, Tryz.ntmps44
    go_wp2
    go_ret
    exact ⟨rfl, Below.refl _ _⟩
end Go.Proofs.YtmkalnljclhigaaGreat.Ch

/-
  checker: Needs, Find, Box of a plan.
-/
namespace Go.Proofs.YtmkalnljclhigaaGreat.Ch
set_option linter.unusedVariables false
set_option linter.unusedSimpArgs false
set_option linter.unnecessarySimpa false
open Go.RowKit Go.Maps Go.Proofs.YtmkalnljclhigaaGreatK Go.Proofs.YtmkalnljclhigaaGreat.XCheckerChecks Go.Proofs.YtmkalnljclhigaaGreatW.PrintWords Go.Proofs.YtmkalnljclhigaaGreatW.PrintLast Go.Sort

set_option maxRecDepth 100000 in
theorem needs_plan (w : World) (p : Nat) (l : List S35) (o : List Nat) (i : Nat) (hi : i < (needsL l).length) (h : PlanIn w p l o) (hq : (needsL l)[i].length ≤ 1000000) : Calls Tryz.prog 18 #[.pointer (some ⟨p, 0, none⟩), .int .i64 i] w fun e w' => ∃ v, e = .returned v ∧ w'.ownsRow w.heap.size 3 1 v (needsL l)[i].length (intV (needsL l)[i]) ∧ Below w.heap.size w w' := by
  have hn := has_plan w p l o i h
  have hnl : (needsL l).length = l.length := by unfold needsL; rw [List.length_map]
  have hd : decide (0 ≤ (i : Int) ∧ (i : Int) < l.length) = true := decide_eq_true ⟨by omega, by omega⟩
  rw [hd] at hn
  obtain ⟨A, c, m, vn, vo, b, h1, _, _, _, h5, _⟩ := h.ex
  obtain ⟨vs, hv1, hv2⟩ := h5.row
  obtain ⟨u2, hu2, hou⟩ := hv2 i hi
  have hrd := fun W (hb : Below w.heap.size w W) => own_at (own_on hv1 hb) hi
  have hof := fun W (hb : Below w.heap.size w W) => own_on hou hb
  obtain ⟨ga, capa, ua, ea, hnc, _, _, hua, _⟩ := own_at hv1 hi
  rw [hu2] at hua
  obtain rfl := Option.some.inj hua
  subst ea
  have hcl : ∀ W, Below w.heap.size w W → W.cell? ⟨ga, i, none⟩ = some u2 := fun W hb => by
    obtain ⟨g3, c3, u3, e3, _, _, _, h3, h4⟩ := hrd W hb
    cases e3
    rw [hu2] at h3
    cases h3
    exact h4
  obtain ⟨ad2, cap2, rfl⟩ := own_slice hou
  rw [hnl] at h1 hnc
  rw [hnl] at hi
  have HN := Lib.hid hn
  have H1 := Lib.hid h1
  have HOF := Lib.hid hof
  have HCL := Lib.hid hcl
  generalize (needsL l)[i] = q at *
  generalize hln : l.length = ln at *
  clear hn h h1 h5 hv1 hv2 hou hrd hof hcl hua hu2 hd hnl hln
  go_enter Tryz.func18, Tryz.ntmps18
  go_wp2_with (first
    | (go_at_call 44; refine HN.out.mono ?_; rintro e w1 ⟨rfl, hb⟩; have HB1 := Lib.hid hb; obtain ⟨z0, z1, z2, z3⟩ := cells4 (block_on hb H1.out); have q0 := HCL.out _ hb; clear hb)
    | (go_at_call 42; refine (clone_ints _ _ q b (HOF.out _ HB1.out) hq).mono ?_; rintro e w2 ⟨v, rfl, hv, hb⟩; have HV := Lib.hid hv; have HB2 := Lib.hid (s_trans HB1.out hb); clear hv hb))
  go_ret
  exact ⟨v, rfl, own_weak HV.out HB1.out.size, HB2.out⟩
theorem needs_out (w : World) (p : Nat) (l : List S35) (o : List Nat) (i : Int) (hi : ¬ (0 ≤ i ∧ i < l.length)) (h : PlanIn w p l o) : Calls Tryz.prog 18 #[.pointer (some ⟨p, 0, none⟩), .int .i64 i] w fun e w' => e = .returned (.slice none 0 0) ∧ Below w.heap.size w w' := by
  have hn := has_plan w p l o i h
  rw [decide_eq_false hi] at hn
  have HN := Lib.hid hn
  clear hn h hi
  go_enter Tryz.func18, Tryz.ntmps18
  go_wp2_with (go_at_call 44; refine HN.out.mono ?_; rintro e w1 ⟨rfl, hb⟩; have HB1 := Lib.hid hb; clear hb)
  go_ret
  exact ⟨rfl, HB1.out⟩
set_option maxRecDepth 100000 in
theorem find_plan (w : World) (p : Nat) (l : List S35) (o : List Nat) (n : Int) (hn : (Lit.int .i64 n).wf = true) (h : PlanIn w p l o) : Calls Tryz.prog 11 #[.pointer (some ⟨p, 0, none⟩), .int .i64 n] w fun e w' => e = .returned (.tuple #[.int .i64 (tOf (nums l) n), .bool (kOf (nums l) n)]) ∧ Below w.heap.size w w' := by
  have hno := none_plan w p l o h
  obtain ⟨A, c, m, vn, vo, b, h1, _, _, h4, _⟩ := h.ex
  have hlook := fun W (hb : Below w.heap.size w W) => Pl.look (h4.below hb) n hn
  have HN := Lib.hid hno
  have H1 := Lib.hid h1
  have HLK := Lib.hid hlook
  generalize tOf (nums l) n = tv at *
  generalize kOf (nums l) n = kv at *
  clear hno h h1 h4 hlook
  go_enter Tryz.func11, Tryz.ntmps11
  go_wp2_with (go_at_call 41; refine HN.out.mono ?_; rintro e w1 ⟨rfl, hb⟩; have HB1 := Lib.hid hb; obtain ⟨z0, z1, z2, z3⟩ := cells4 (block_on hb H1.out); have hl1 := HLK.out _ hb; clear hb)
  refine bodyPost_ret (v := .tuple #[.int .i64 tv, .bool kv]) (by simp [results, Tryz.results11, go_sem]) rfl ⟨rfl, HB1.out⟩
end Go.Proofs.YtmkalnljclhigaaGreat.Ch

/-
  checker: the chapter's examples, plain.
-/
namespace Go.Proofs.YtmkalnljclhigaaGreat.Ch
set_option linter.unusedVariables false
set_option linter.unusedSimpArgs false
set_option linter.unnecessarySimpa false
open Go.RowKit Go.Maps Go.Proofs.YtmkalnljclhigaaGreatK Go.Proofs.YtmkalnljclhigaaGreat.XCheckerChecks Go.Proofs.YtmkalnljclhigaaGreatW.PrintWords Go.Proofs.YtmkalnljclhigaaGreatW.PrintLast Go.Sort

abbrev refX (n : Int) : S33 := ⟨2, n, ⟨#[]⟩, [], []⟩
abbrev numX (n : Int) : S33 := ⟨1, n, ⟨#[]⟩, [], []⟩
abbrev life1 : List S35 := [⟨1, refX 2⟩, ⟨2, numX 5⟩]
abbrev life2 : List S35 := [⟨1, refX 1⟩]
theorem right_ref {n : Int} (h1 : 1 ≤ n) (h2 : n ≤ 9999) : rightB (refX n) = true := by
  rw [rightB]
  simp [kidsB, boxedB, h1, h2]
  rfl
theorem right_num {n : Int} (h1 : 0 ≤ n) (h2 : n ≤ 9999) : rightB (numX n) = true := by
  rw [rightB]
  simp [kidsB, numB, h1]
  first
    | exact ⟨rfl, by omega⟩
    | exact ⟨by omega, rfl⟩
theorem good_ref {n : Int} (h1 : 1 ≤ n) (h2 : n ≤ 9999) : goodB (refX n) = true := by
  unfold goodB
  rw [right_ref h1 h2, depthB, depthL]
  rfl
theorem good_num {n : Int} (h1 : 0 ≤ n) (h2 : n ≤ 9999) : goodB (numX n) = true := by
  unfold goodB
  rw [right_num h1 h2, depthB, depthL]
  rfl
theorem compact_one (n : Int) : Lib.compact [n] = [n] := rfl
theorem sort_one (n : Int) : sortI [n] = [n] := by simp [sortI]
theorem sort_nil : sortI [] = [] := by simp [sortI]
theorem refsR_ref {n : Int} (h1 : 1 ≤ n) (h2 : n ≤ 9999) : refsR (refX n) = [n] := by
  unfold refsR
  rw [if_pos (good_ref h1 h2), refsB, if_pos rfl, refsL, List.append_nil, sort_one, compact_one]
theorem refsR_num {n : Int} : refsR (numX n) = [] := by
  unfold refsR
  split
  · rw [refsB, if_neg (by decide), refsL, List.append_nil, sort_nil]; rfl
  · rfl
theorem needs1 : needsL life1 = [[1], []] := by
  have e : nums life1 = [1, 2] := rfl
  unfold needsL
  rw [e]
  simp only [List.map_cons, List.map_nil, needN, needZ]
  rw [refsR_ref (by decide) (by decide), refsR_num]
  simp only [List.map_cons, List.map_nil]
  rw [sort_one, sort_nil]
  rfl
theorem needs2 : needsL life2 = [[0]] := by
  have e : nums life2 = [1] := rfl
  unfold needsL
  rw [e]
  simp only [List.map_cons, List.map_nil, needN, needZ]
  rw [refsR_ref (by decide) (by decide)]
  simp only [List.map_cons, List.map_nil]
  rw [sort_one]
  rfl
theorem goodL1 : goodL life1 = true := by
  unfold goodL mayB
  simp only [List.any_cons, List.any_nil]
  rw [good_ref (by decide) (by decide), good_num (by decide) (by decide)]
  rfl
theorem goodL2 : goodL life2 = true := by
  unfold goodL mayB
  simp only [List.any_cons, List.any_nil]
  rw [good_ref (by decide) (by decide)]
  rfl
theorem arr1 : arr (needsL life1) = some [1, 0] := by rw [needs1]; rfl
theorem arr2 : arr (needsL life2) = none := by rw [needs2]; rfl
theorem names_ref (n : Int) : namesB (refX n) = true := by rw [namesB, if_neg (by decide), namesL]
theorem names_num (n : Int) : namesB (numX n) = true := by rw [namesB, if_neg (by decide), namesL]
theorem check1 : checkE life1 = 0 := by
  have e : nums life1 = [1, 2] := rfl
  have h1 : life1.all (okN [1, 2]) = true := by
    simp only [List.all_cons, List.all_nil, okN]
    rw [refsR_ref (by decide) (by decide), refsR_num]
    rfl
  have h2 : life1.any (fun b => !namesB b.f1) = false := by
    simp only [List.any_cons, List.any_nil]
    rw [names_ref, names_num]
    rfl
  unfold checkE
  rw [goodL1, arr1, h2, e, h1]
  simp
theorem check2 : checkE life2 = 84 := by
  have e : nums life2 = [1] := rfl
  have h1 : life2.all (okN [1]) = true := by
    simp only [List.all_cons, List.all_nil, okN]
    rw [refsR_ref (by decide) (by decide)]
    rfl
  have h2 : life2.any (fun b => !namesB b.f1) = false := by
    simp only [List.any_cons, List.any_nil]
    rw [names_ref]
    rfl
  unfold checkE
  rw [goodL2, arr2, h2, e, h1]
  simp
theorem small_ref (n : Int) : Small (refX n) := by rw [Small]; exact ⟨by decide, by decide, by rw [SmallL]; trivial⟩
theorem small_num (n : Int) : Small (numX n) := by rw [Small]; exact ⟨by decide, by decide, by rw [SmallL]; trivial⟩
theorem life1_ok : (∀ x ∈ life1, Small x.f1) ∧ ∀ x ∈ life1, (refsB x.f1).length ≤ 1000000 := by
  refine ⟨fun x hx => ?_, fun x hx => ?_⟩
  all_goals
    simp only [List.mem_cons, List.not_mem_nil, or_false] at hx
    rcases hx with rfl | rfl
  · exact small_ref _
  · exact small_num _
  · rw [refsB, refsL]; decide
  · rw [refsB, refsL]; decide
theorem life2_ok : (∀ x ∈ life2, Small x.f1) ∧ ∀ x ∈ life2, (refsB x.f1).length ≤ 1000000 := by
  refine ⟨fun x hx => ?_, fun x hx => ?_⟩
  all_goals
    simp only [List.mem_cons, List.not_mem_nil, or_false] at hx
    rcases hx with rfl
  · exact small_ref _
  · rw [refsB, refsL]; decide
/-- A box whose expression has neither filters nor kids, as it lies. -/
theorem box_row (w : World) (l : List S35) (hl : l.length ≤ 1000) (h : ∀ x ∈ l, x.f1.f2 = ⟨#[]⟩ ∧ x.f1.f3 = [] ∧ x.f1.f4 = []) (g : Nat) (C : Array Value) (hg : w.heap[g]? = some (.cells C 35 (0, 0))) (hC : C.toList = l.flatMap fun x => [.int .i64 x.f0, .int .i64 x.f1.f0, .int .i64 x.f1.f1, .string ⟨#[]⟩, .slice none 0 0, .slice none 0 0]) : Kd.C k35 w (some ⟨g, 0, none⟩) l.length l := by
  refine ⟨rfl, by omega, fun _ => ⟨_, rfl, fun j p hp => ?_⟩⟩
  obtain ⟨hjl, rfl⟩ := List.getElem?_eq_some_iff.1 hp
  obtain ⟨h2, h3, h4⟩ := h _ (List.getElem_mem hjl)
  refine ⟨[.int .i64 l[j].f0, .int .i64 l[j].f1.f0, .int .i64 l[j].f1.f1, .string l[j].f1.f2, .slice none l[j].f1.f3.length 0, .slice none l[j].f1.f4.length 0], rfl, ?_, ?_⟩
  · refine k35_mk w l[j] (A4 := none) (c4 := 0) (by rw [h3]; exact Nat.le_refl _) ?_ (A5 := none) (c5 := 0) (by rw [h4]; exact Nat.le_refl _) ?_
    · rw [h3]; exact ⟨rfl, by simp, fun h => absurd h (by simp)⟩
    · rw [h4]; exact ⟨rfl, by simp, fun h => absurd h (by simp)⟩
  · intro i u hu
    rw [h2, h3, h4] at hu
    have hsz : k35.sz = 6 := rfl
    rw [hsz, Addr.add_lit, Nat.zero_add]
    have hi : i < 6 := by have := (List.getElem?_eq_some_iff.1 hu).1; simpa using this
    have key : C.toList[j * 6 + i]? = some u := by
      rw [hC]
      clear hC hg hp h2 h3 h4 h hl
      induction l generalizing j with
      | nil => simp at hjl
      | cons y ys ih =>
        rw [List.flatMap_cons]
        cases j with
        | zero =>
          rw [List.getElem?_append_left (by simpa using hi)]
          simpa using hu
        | succ j =>
          rw [List.getElem?_append_right (by simp; omega)]
          have e : (j + 1) * 6 + i - 6 = j * 6 + i := by omega
          have hjl2 : j < ys.length := by simpa using hjl
          have := ih (by omega) j hjl2 hu
          simpa [e] using this
    rw [Array.getElem?_toList] at key
    simp [World.cell?, hg, key]
end Go.Proofs.YtmkalnljclhigaaGreat.Ch

/-
  checker: the chapter's examples, walked.
-/
namespace Go.Proofs.YtmkalnljclhigaaGreat.Ch
set_option linter.unusedVariables false
set_option linter.unusedSimpArgs false
set_option linter.unnecessarySimpa false
open Go.RowKit Go.Maps Go.Proofs.YtmkalnljclhigaaGreatK Go.Proofs.YtmkalnljclhigaaGreat.XCheckerChecks Go.Proofs.YtmkalnljclhigaaGreatW.PrintWords Go.Proofs.YtmkalnljclhigaaGreatW.PrintLast Go.Sort

abbrev refC (n : Int) : Array Value := #[.int .i64 2, .int .i64 n, .string ⟨#[]⟩, .slice none 0 0, .slice none 0 0]
set_option maxRecDepth 100000 in
theorem lbox_any (n : Int) (w : World) : Calls Tryz.prog 22 #[.int .i64 n] w fun e w' => e = .returned (.agg (refC n)) ∧ Below w.heap.size w w' := by
  obtain ⟨wa, hwa⟩ : ∃ W : World, W = w.alloc (.cells #[.int .i64 0, .int .i64 0, .string ⟨#[]⟩, .slice none 0 0, .slice none 0 0] 33) := ⟨_, rfl⟩
  have hba : Below w.heap.size w wa := by rw [hwa]; exact s_alloc (Below.refl _ _) _
  have hxa : wa.heap[w.heap.size]? = some (.cells #[.int .i64 0, .int .i64 0, .string ⟨#[]⟩, .slice none 0 0, .slice none 0 0] 33 (0, 0)) := by rw [hwa]; exact Array.getElem?_push_size
  go_enter Tryz.func22, Tryz.ntmps22
  go_upto_region 1 with fail
  rw [← hwa]
  obtain ⟨x0, x1, x2, x3, x4⟩ := cells5 hxa
  have f0 := blockFree hxa 0
  have f1 := blockFree hxa 1
  have f2 := blockFree hxa 2
  have f3 := blockFree hxa 3
  have f4 := blockFree hxa 4
  have HX := Lib.hid hxa
  have HB := Lib.hid hba
  clear hwa hxa hba
  go_wp2
  have hq : (((((wa.setCell ⟨w.heap.size, 0, none⟩ (.int .i64 2)).setCell ⟨w.heap.size, 1, none⟩ (.int .i64 n)).setCell ⟨w.heap.size, 2, none⟩ (.string ⟨#[]⟩)).setCell ⟨w.heap.size, 3, none⟩ (.slice none 0 0)).setCell ⟨w.heap.size, 4, none⟩ (.slice none 0 0)).heap[w.heap.size]? = some (.cells (refC n) 33 (0, 0)) := by
    have h0 := Go.Joins.block_setCell (i := 0) HX.out (.int .i64 2)
    have h1 := Go.Joins.block_setCell (i := 1) h0 (.int .i64 n)
    have h2 := Go.Joins.block_setCell (i := 2) h1 (.string ⟨#[]⟩)
    have h3 := Go.Joins.block_setCell (i := 3) h2 (.slice none 0 0)
    have h4 := Go.Joins.block_setCell (i := 4) h3 (.slice none 0 0)
    simpa using h4
  have hz := s_set (s_set (s_set (s_set (s_set HB.out ⟨w.heap.size, 0, none⟩ (.int .i64 2) (Nat.le_refl _)) ⟨w.heap.size, 1, none⟩ (.int .i64 n) (Nat.le_refl _)) ⟨w.heap.size, 2, none⟩ (.string ⟨#[]⟩) (Nat.le_refl _)) ⟨w.heap.size, 3, none⟩ (.slice none 0 0) (Nat.le_refl _)) ⟨w.heap.size, 4, none⟩ (.slice none 0 0) (Nat.le_refl _)
  generalize (((((wa.setCell ⟨w.heap.size, 0, none⟩ (.int .i64 2)).setCell ⟨w.heap.size, 1, none⟩ (.int .i64 n)).setCell ⟨w.heap.size, 2, none⟩ (.string ⟨#[]⟩)).setCell ⟨w.heap.size, 3, none⟩ (.slice none 0 0)).setCell ⟨w.heap.size, 4, none⟩ (.slice none 0 0)) = wz at *
  obtain ⟨y0, y1, y2, y3, y4⟩ := cells5 hq
  refine bodyPost_ret (v := .agg (refC n)) (by simp [results, Tryz.results22, go_sem, y0, y1, y2, y3, y4]) rfl ⟨rfl, hz⟩
theorem order_val {w : World} {b : Nat} {v : Value} {o : List Nat} (h : w.ownsRow b 3 1 v o.length (intV o)) : ∃ A c, v = .slice A o.length c ∧ o.length ≤ c ∧ Kd.C (Kd.int .i64) w A o.length (o.map fun x : Nat => (x : Int)) := by
  obtain ⟨A, g, c, rfl, hc, hr⟩ := rowI_of h
  refine ⟨A, c, rfl, hc, by simp, ?_, fun hn => ?_⟩
  · rcases h.2 with ⟨_, h0⟩ | ⟨g', cap, cur, _, _, _, h1, h2, _⟩
    · omega
    · unfold maxLen at h2; omega
  · obtain ⟨hA, hg, _⟩ := hr 0 hn
    refine ⟨_, hA, fun j p hp => ⟨[.int .i64 p], rfl, rfl, fun i u hu => ?_⟩⟩
    have hj : j < o.length := by have := (List.getElem?_eq_some_iff.1 hp).1; simpa using this
    rw [List.getElem?_map, List.getElem?_eq_getElem hj] at hp
    obtain rfl := Option.some.inj hp
    have hi : i = 0 := by have := (List.getElem?_eq_some_iff.1 hu).1; simpa using this
    subst hi
    have hs : (Kd.int .i64).sz = 1 := rfl
    rw [hs, Addr.add_lit, Nat.mul_one, Nat.add_zero, Nat.zero_add, (hr j hj).2.2]
    simpa using hu
theorem same10 : octroiref03_Same.f 5 ([1, 0] : List Int) ([1, 0] : List Int) = some true := by
  simp [octroiref03_Same.f, octroiref03_Same.l0, _root_.Go.Proofs.YtmkalnljclhigaaGreatW.PrintWords.rd, wrap64]
abbrev lifeC1 : Array Value := #[.int .i64 1, .int .i64 2, .int .i64 2, .string ⟨#[]⟩, .slice none 0 0, .slice none 0 0, .int .i64 2, .int .i64 1, .int .i64 5, .string ⟨#[]⟩, .slice none 0 0, .slice none 0 0]
abbrev lifeC2 : Array Value := #[.int .i64 1, .int .i64 2, .int .i64 1, .string ⟨#[]⟩, .slice none 0 0, .slice none 0 0]
theorem check_life1 (w : World) : Calls Tryz.prog 6 #[.slice (some ⟨w.heap.size, 0, none⟩) 2 2] (w.alloc (.cells lifeC1 35)) fun e w' => ∃ p, e = .returned (.tuple #[.pointer (some ⟨p, 0, none⟩), .int .i64 0]) ∧ PlanIn w' p life1 [1, 0] ∧ Below w.heap.size w w' := by
  have hg : (w.alloc (.cells lifeC1 35)).heap[w.heap.size]? = some (.cells lifeC1 35 (0, 0)) := Array.getElem?_push_size
  have hb : Below w.heap.size w (w.alloc (.cells lifeC1 35)) := s_alloc (Below.refl _ _) _
  refine (check_any _ _ 2 life1 (box_row _ life1 (by decide) (fun x hx => ?_) w.heap.size lifeC1 hg rfl) (by decide) life1_ok.1 life1_ok.2).mono ?_
  · simp only [List.mem_cons, List.not_mem_nil, or_false] at hx
    rcases hx with rfl | rfl <;> exact ⟨rfl, rfl, rfl⟩
  · rintro e w' ⟨hb2, h⟩
    rcases h with ⟨h, _⟩ | ⟨_, p, o, ho, he, hp⟩
    · exact absurd check1 h
    · rw [arr1] at ho
      obtain rfl := Option.some.inj ho
      exact ⟨p, he, hp, s_trans hb hb2⟩
theorem check_life2 (w : World) : Calls Tryz.prog 6 #[.slice (some ⟨w.heap.size, 0, none⟩) 1 1] (w.alloc (.cells lifeC2 35)) fun e w' => e = .returned (.tuple #[.pointer none, .int .i64 84]) ∧ Below w.heap.size w w' := by
  have hg : (w.alloc (.cells lifeC2 35)).heap[w.heap.size]? = some (.cells lifeC2 35 (0, 0)) := Array.getElem?_push_size
  have hb : Below w.heap.size w (w.alloc (.cells lifeC2 35)) := s_alloc (Below.refl _ _) _
  refine (check_any _ _ 1 life2 (box_row _ life2 (by decide) (fun x hx => ?_) w.heap.size lifeC2 hg rfl) (by decide) life2_ok.1 life2_ok.2).mono ?_
  · simp only [List.mem_cons, List.not_mem_nil, or_false] at hx
    rcases hx with rfl; exact ⟨rfl, rfl, rfl⟩
  · rintro e w' ⟨hb2, h⟩
    rcases h with ⟨_, he⟩ | ⟨h, _⟩
    · rw [check2] at he
      exact ⟨he, s_trans hb hb2⟩
    · rw [check2] at h; cases h
theorem order_life (w : World) (p : Nat) (h : PlanIn w p life1 [1, 0]) : Calls Tryz.prog 15 #[.pointer (some ⟨p, 0, none⟩)] w fun e w' => ∃ A c, e = .returned (.slice A 2 c) ∧ 2 ≤ c ∧ Kd.C (Kd.int .i64) w' A 2 [1, 0] ∧ Below w.heap.size w w' := by
  refine (order_plan w p life1 [1, 0] h (by decide)).mono ?_
  rintro e w' ⟨v, rfl, hv, hb⟩
  obtain ⟨A, c, rfl, hc, hk⟩ := order_val hv
  exact ⟨A, c, rfl, hc, hk, hb⟩
theorem same_life (w w1 : World) (A : Option Addr) (c : Nat) (hc : 2 ≤ c) (hk : Kd.C (Kd.int .i64) w1 A 2 [1, 0]) (hw : Below w.heap.size w w1) : Calls Tryz.prog 14 #[.slice A 2 c, .slice (some ⟨w1.heap.size, 0, none⟩) 2 2] (w1.alloc (.cells #[.int .i64 1, .int .i64 0] 3)) fun e w' => e = .returned (.bool true) ∧ Below w.heap.size w w' := by
  have hg : (w1.alloc (.cells #[.int .i64 1, .int .i64 0] 3)).heap[w1.heap.size]? = some (.cells #[.int .i64 1, .int .i64 0] 3 (0, 0)) := Array.getElem?_push_size
  have hb : Below w1.heap.size w1 (w1.alloc (.cells #[.int .i64 1, .int .i64 0] 3)) := s_alloc (Below.refl _ _) _
  refine (octroiref03_Same.calls 5 A c [1, 0] (some ⟨w1.heap.size, 0, none⟩) 2 [1, 0] true _ (Kd.C_below hk hb) hc ?_ (by decide) same10).mono ?_
  · refine ⟨rfl, by decide, fun _ => ⟨_, rfl, fun j q hq => ⟨[.int .i64 q], rfl, rfl, fun i u hu => ?_⟩⟩⟩
    have hi : i = 0 := by have := (List.getElem?_eq_some_iff.1 hu).1; simpa using this
    subst hi
    have hs : (Kd.int .i64).sz = 1 := rfl
    rw [hs, Addr.add_lit, Nat.mul_one, Nat.add_zero, Nat.zero_add]
    have hu2 : u = .int .i64 q := by simpa using hu.symm
    subst hu2
    match j, hq with
    | 0, hq => cases hq; rw [block_cell hg]; rfl
    | 1, hq => cases hq; rw [block_cell hg]; rfl
  · rintro e w' ⟨rfl, hd⟩
    exact ⟨rfl, s_trans hw (s_trans hb hd.below)⟩
set_option maxRecDepth 100000 in
set_option maxHeartbeats 4000000 in
theorem lives_any (w : World) : Calls Tryz.prog 5 #[] w fun e w' => e = .returned (.bool true) ∧ Below w.heap.size w w' := by
  go_enter Tryz.func5, Tryz.ntmps5
  go_upto_region 3 with (first
    | (go_at_call 22; refine (lbox_any 2 _).mono ?_; rintro e w1 ⟨rfl, hb1⟩; have HB1 := Lib.hid hb1; clear hb1)
    | (go_at_call 6; refine (check_life1 _).mono ?_; rintro e w2 ⟨p, rfl, hp, hb2⟩; have HP := Lib.hid hp; have HB2 := Lib.hid (s_trans HB1.out hb2); clear hp hb2))
  go_upto_region 4 with (first
    | (go_at_call 22; refine (lbox_any 1 _).mono ?_; rintro e w3 ⟨rfl, hb3⟩; have HB3 := Lib.hid (s_trans HB2.out hb3); have HP3 := Lib.hid (HP.out.below hb3); clear hb3)
    | (go_at_call 6; refine (check_life2 _).mono ?_; rintro e w4 ⟨rfl, hb4⟩; have HB4 := Lib.hid (s_trans HB3.out hb4); have HP4 := Lib.hid (HP3.out.below hb4); clear hb4))
  go_wp2_with (first
    | (go_at_call 15; refine (order_life _ p HP4.out).mono ?_; rintro e w5 ⟨A5, c5, rfl, hc5, hk5, hb5⟩; have HB5 := Lib.hid (s_trans HB4.out hb5); have HK5 := Lib.hid hk5; clear hb5 hk5)
    | (go_at_call 14; refine (same_life w _ A5 c5 hc5 HK5.out HB5.out).mono ?_; rintro e w6 ⟨rfl, hb6⟩; have HB6 := Lib.hid hb6; clear hb6))
  go_ret
  exact ⟨rfl, HB6.out⟩
end Go.Proofs.YtmkalnljclhigaaGreat.Ch
