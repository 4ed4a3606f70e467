import Derived.Test.YtbjoegladcmibaaQLnI4
import Derived.Deep.RegionWith
namespace Go.Proofs.Ytbjoegladcmibaa.LnI
set_option linter.unusedVariables false
set_option linter.unusedSimpArgs false
set_option linter.unnecessarySimpa false
open Go.RowKit Go.Proofs.YtbjoegladcmibaaK Go.Proofs.Ytbjoegladcmibaa.Ln
theorem block_kept_d {w w1 : World} {C : Array Value} {t : TypeId} (h : Below ((w.alloc (.cells C t)).drew).heap.size ((w.alloc (.cells C t)).drew) w1) : w1.heap[w.heap.size]? = some (.cells C t (0, 0)) :=
  (h.block w.heap.size (by show w.heap.size < (w.alloc (.cells C t)).heap.size; simp)).trans Array.getElem?_push_size
/-- w' is w but for block g and a row, and new blocks. -/
structure Kp (w w' : World) (g : Nat) (row : Option Nat) : Prop where
  os : w'.os = w.os
  tape : w'.tape = w.tape
  output : w'.output = w.output
  size : w.heap.size ≤ w'.heap.size
  block : ∀ k, k < w.heap.size → k ≠ g → some k ≠ row → w'.heap[k]? = w.heap[k]?
def clash (l : List Held) (f u : Int) : Bool := if h : find l f < l.length then meetB l[find l f].1 l[find l f].2.1 f u else false
def setE (l : List Held) (f u : Int) : Int := if rightB f u = true then (if clash l f u = true then 50 else if 256 ≤ l.length then 31 else 0) else 30
def setL (l : List Held) (f u x : Int) : List Held := if setE l f u = 0 then l.take (find l f) ++ (f, u, x) :: l.drop (find l f) else l
def SetP (w : World) (base g : Nat) (v : Value) (l : List Held) (f u x : Int) (e : Ending) (w' : World) : Prop :=
  e = .returned (.int .i64 (setE l f u)) ∧ ∃ v', Lin w' base g v' (setL l f u x) ∧ Kp w w' g v.ownBlock ∧ ∀ k, v'.ownBlock = some k → v.ownBlock = some k ∨ w.heap.size ≤ k
theorem kp_of {w w' : World} {g : Nat} {row : Option Nat} (hb : Below w.heap.size w w') : Kp w w' g row := ⟨hb.os, hb.tape, hb.output, hb.size, fun k hk _ _ => hb.block k hk⟩
theorem set_same {w w' : World} {base g : Nat} {v : Value} {l : List Held} {f u x : Int} (h : Lin w base g v l) (hb : Below w.heap.size w w') (he : setE l f u ≠ 0) :
    ∃ v', Lin w' base g v' (setL l f u x) ∧ Kp w w' g v.ownBlock ∧ ∀ k, v'.ownBlock = some k → v.ownBlock = some k ∨ w.heap.size ≤ k := by
  unfold setL
  rw [if_neg he]
  exact ⟨v, h.below hb, kp_of hb, fun k hk => Or.inl hk⟩

theorem row_ne {X : World} {base g : Nat} {v : Value} {l : List Held} (h : Lin X base g v l) : v.ownBlock ≠ some g := by
  intro e
  rcases h.row.2 with ⟨rfl, _⟩ | ⟨g', cap, cur, rfl, _, hg, _⟩
  · cases e
  · have e' : g' = g := Option.some.inj e
    subst e'
    rw [h.box] at hg
    injection hg with hg
    injection hg with _ ht
    exact absurd ht (by decide)
theorem finish {w X w5 : World} {base g : Nat} {v v' : Value} {l l' : List Held} (hbX : Below w.heap.size w X) (hw : g < w.heap.size) (hLX : Lin X base g v l) (hrow : Row w5 base v' l') (hgr : X.grownBy w5 v.ownBlock)
    (hat : ∀ k, v'.ownBlock = some k → v.ownBlock = some k ∨ X.heap.size ≤ k) (hl : l'.length ≤ 256) :
    w5.heap[g]? = some (.cells #[v, .int .i64 256] 143 (0, 0)) ∧
    (Lin (w5.setCell ⟨g, 0, none⟩ v') base g v' l' ∧ Kp w (w5.setCell ⟨g, 0, none⟩ v') g v.ownBlock ∧ ∀ k, v'.ownBlock = some k → v.ownBlock = some k ∨ w.heap.size ≤ k) := by
  have hX := hbX.size
  have hne := row_ne hLX
  have hgX := block_lt hLX.box
  have hb5 : w5.heap[g]? = some (.cells #[v, .int .i64 256] 143 (0, 0)) := (hgr.block g hgX (fun e => hne e.symm)).trans hLX.box
  have hv' : v'.ownBlock ≠ some g := fun e => by
    rcases hat g e with h | h
    · exact hne h
    · omega
  refine ⟨hb5, ⟨?_, ?_, hLX.ge, hl⟩, ⟨hgr.os.trans hbX.os, hgr.tape.trans hbX.tape, hgr.output.trans hbX.output, by have := hgr.size; simp; omega, fun k hk hkg hkr => ?_⟩, fun k hk => (hat k hk).imp id (fun h => by omega)⟩
  · have : w5.cell? ⟨g, 0, none⟩ = some v := (cells2 hb5).1
    simp [World.setCell, hb5, Array.getElem?_modify]
  · refine World.ownsRow.kept (row := some g) hrow ⟨rfl, rfl, rfl, by simp, fun k _ hk => Below.heap_setCell _ _ _ _ (fun e => hk (by rw [e]))⟩ (Or.inr hv')
  · rw [Below.heap_setCell _ _ _ _ hkg, hgr.block k (by omega) hkr]
    exact hbX.block k hk

set_option maxRecDepth 100000 in
set_option maxHeartbeats 20000000 in
theorem set_any (w : World) (base g : Nat) (v : Value) (l : List Held) (h : Lin w base g v l) (f u x : Int) :
    Calls Try.prog 56 #[.pointer (some ⟨g, 0, none⟩), .agg #[.int .i64 f, .int .i64 u], ev x] w (SetP w base g v l f u x) := by
  unfold ev
  have HL := Lib.hid h
  have hes : ∀ w', Below w.heap.size w w' → setE l f u ≠ 0 → SetP w base g v l f u x (.returned (.int .i64 (setE l f u))) w' := fun w' hb he => ⟨rfl, set_same h hb he⟩
  have HES := Lib.hid hes
  have hsE : setE l f u = if rightB f u = true then (if clash l f u = true then 50 else if 256 ≤ l.length then 31 else 0) else 30 := rfl
  clear hes
  by_cases h1 : rightB f u = true
  · rw [if_pos h1] at hsE
    have hfa := fun wx (hx : Lin wx base g v l) => find_any wx base g _ l hx f
    have hr := fun w => right_any f u w
    rw [h1] at hr
    have HR := Lib.hid hr
    have HFA := Lib.hid hfa
    clear hr hfa
    go_enter Try.func56, Try.ntmps56
    go_upto_region 6 with (first
      | (go_at_call 89; refine (none_any _ base g _ l (HL.out.below (s_alloc (Below.refl _ _) _))).mono ?_; rintro e w1 ⟨rfl, rfl⟩)
      | (go_at_call 90; refine (HR.out _).mono ?_; rintro e w2 ⟨rfl, hb⟩; have HB := Lib.hid hb; have hbx := block_kept hb; obtain ⟨z0, z1⟩ := cells2 hbx; clear hb)
      | (go_at_call 91; refine (HFA.out _ (HL.out.below (s_trans (s_alloc (Below.refl _ _) _) HB.out))).mono ?_; rintro e w3 ⟨rfl, hb⟩; have HB3 := Lib.hid (s_trans (s_trans (s_alloc (Below.refl _ _) _) HB.out) hb); have HX3 := Lib.hid (block_on hb hbx); clear hb hbx z0 z1))
    obtain ⟨x0, x1⟩ := cells2 HX3.out
    obtain ⟨y0, y1⟩ := cells2 (HL.out.below HB3.out).box
    obtain ⟨ad, cap, rfl⟩ := HL.out.row.slice
    have mixed : Try.prog.follows Departure.mixedOrders = true := by kernel_rfl
    by_cases hlt : find l f < l.length
    · obtain ⟨ad', cap', hva, e0, e1, e2⟩ := HL.out.row.at_ (find l f) hlt
      injection hva with hv1 _ hv2
      subst hv1
      subst hv2
      have hc : clash l f u = meetB l[find l f].1 l[find l f].2.1 f u := by unfold clash; rw [dif_pos hlt]
      have hm := fun w => meet_any l[find l f].1 l[find l f].2.1 f u w
      rw [← hc] at hm
      have k0 := (HB3.out.cell (p := _) (World.block_lt_of_cell? w _ e0)).trans e0
      have k1 := (HB3.out.cell (p := _) (World.block_lt_of_cell? w _ e1)).trans e1
      generalize l[find l f] = hh at *
      clear hc e0 e1 e2
      have HM := Lib.hid hm
      clear hm
      have l0 : w.heap.size < w3.heap.size := block_lt HX3.out
      have l1 := World.block_lt_of_cell? w3 _ k0
      have l2 := World.block_lt_of_cell? w3 _ k1
      have l3 := World.block_lt_of_cell? w3 _ y0
      have n0 : w.heap.size ≠ w3.heap.size := Nat.ne_of_lt l0
      have n1 := Nat.ne_of_lt l1
      have n2 := Nat.ne_of_lt l2
      have n3 : g ≠ w3.heap.size := Nat.ne_of_lt l3
      go_upto_region 7 with fail
      (try simp only [Act.put, List.setIfInBounds_toArray, List.set_cons_zero, List.set_cons_succ])
      go_cut [9] (fun v9 wc => v9 = .bool (clash l f u) ∧ Hid (Below w.heap.size w wc) ∧ Hid (wc.heap[w.heap.size]? = some (.cells #[.int .i64 f, .int .i64 u] 36 (0, 0))))
      case first =>
        go_region_with (go_at_call 92; refine (HM.out _).mono ?_; rintro e w4 ⟨m1, m2, rfl, hb⟩; have HB4 := Lib.hid (by first | exact s_trans HB3.out hb | exact s_trans (s_drew HB3.out) hb | exact s_trans (s_drew (s_alloc HB3.out _)) hb : Below w.heap.size w w4); have HX4 := Lib.hid (by first | exact block_on hb HX3.out | exact block_on hb (block_alloc HX3.out _) : w4.heap[w.heap.size]? = some (.cells #[.int .i64 f, .int .i64 u] 36 (0, 0))); (try (have hk := (by first | exact block_kept hb | exact block_kept_d hb | exact block_kept_n hb : _ = some (Obj.cells #[.int .i64 0, .int .i64 0] 36 (0, 0))); obtain ⟨q0, q1⟩ := cells2 hk; have q2 := blockFree hk 0; have q3 := blockFree hk 1; clear hk)); clear hb)
        all_goals
          go_wp2
          go_meet
          case rel =>
            have l4 : w.heap.size < w4.heap.size := block_lt HX4.out
            have n4 : w.heap.size ≠ w4.heap.size := Nat.ne_of_lt l4
            refine ⟨rfl, ?_, ?_⟩
            · first
                | exact s_set (s_set HB4.out _ _ (Nat.le_of_lt l0)) _ _ (Nat.le_of_lt l0)
                | exact s_set (s_set (s_alloc HB4.out _) _ _ (Nat.le_of_lt l4)) _ _ (Nat.le_of_lt l4)
                | exact s_alloc HB4.out _
            · first
                | exact set_ne (set_ne HX4.out n0) n0
                | exact set_ne (set_ne (block_alloc HX4.out _) n4) n4
                | exact block_alloc HX4.out _
      case rest =>
        obtain ⟨rfl, HBc, HXc⟩ := hcut
        obtain ⟨xc0, xc1⟩ := cells2 HXc.out
        have HLc := Lib.hid (HL.out.below HBc.out)
        obtain ⟨yc0, yc1⟩ := cells2 HLc.out.box
        by_cases hcl : clash l f u = true
        · have e50 : setE l f u = 50 := by rw [hsE, if_pos hcl]
          have hS := HES.out _ HBc.out (by omega)
          rw [e50] at hS
          have HS := Lib.hid hS
          clear hS
          rw [hcl]
          go_wp2
          go_ret
          exact HS.out
        · rw [if_neg hcl] at hsE
          have hclf : clash l f u = false := by simpa using hcl
          rw [hclf]
          by_cases hfull : 256 ≤ l.length
          · rw [if_pos hfull] at hsE
            have hS := HES.out _ HBc.out (by omega)
            rw [hsE] at hS
            have hS2 : ∀ n, SetP w base g (.slice (some ad') l.length cap) l f u x (.returned (.int .i64 31)) (wc.drewN n) := fun n => by
              have := HES.out (wc.drewN n) (s_drewN HBc.out n) (by omega)
              rw [hsE] at this
              exact this
            have HS := Lib.hid hS2
            clear hS hS2
            go_wp2
            go_quiet (fail)
            go_wp2
            go_ret
            exact HS.out _
          · rw [if_neg hfull] at hsE
            have hfle := find_le l f
            have hl' : setL l f u x = l.take (find l f) ++ (f, u, x) :: l.drop (find l f) := by unfold setL; rw [if_pos hsE]
            have hlen : (setL l f u x).length ≤ 256 := by rw [hl']; simp only [List.length_append, List.length_take, List.length_cons, List.length_drop]; omega
            have hgw : g < w.heap.size := block_lt HL.out.box
            have HLN := Lib.hid hlen
            have HSL := Lib.hid hl'
            clear hlen hl'
            go_wp2
            go_quiet (fail)
            have HBd := Lib.hid (s_drewN HBc.out nq)
            have HXd := Lib.hid (show (wc.drewN nq).heap[w.heap.size]? = _ from HXc.out)
            clear xc0 xc1 yc0 yc1 HLc
            generalize wc.drewN nq = wd at *
            obtain ⟨xd0, xd1⟩ := cells2 HXd.out
            have HLd := Lib.hid (HL.out.below HBd.out)
            obtain ⟨yd0, yd1⟩ := cells2 HLd.out.box
            have hins := fun X (hX : Below wd.heap.size wd X) vb hvb (hne : (Value.slice (some ad') l.length cap).ownBlock ≠ some vb) => insert_any X base (.slice (some ad') l.length cap) l (HLd.out.row.below hX) (Nat.le_trans (Nat.le_trans HL.out.ge (Nat.le_of_lt hgw)) (Nat.le_trans HBd.out.size hX.size)) (by omega) (find l f) hfle (f, u, x) vb hvb hne
            have HINS := Lib.hid hins
            clear hins
            go_wp2
            have p0 : w.heap.size < wd.heap.size := block_lt HXd.out
            have p1 : g < wd.heap.size := block_lt HLd.out.box
            have p2 : w.heap.size ≠ wd.heap.size := Nat.ne_of_lt p0
            have p3 : g ≠ wd.heap.size := Nat.ne_of_lt p1
            go_region_with (go_at_call 93; refine (HINS.out _ (by first | exact s_alloc (s_drew (Below.refl _ _)) _ | exact s_drew (s_alloc (Below.refl _ _) _) | exact s_alloc (Below.refl _ _) _) wd.heap.size (by exact Array.getElem?_push_size) (fun e => by have := World.ownsRow.lt HLd.out.row _ e; omega)).mono ?_; rintro e w5 ⟨v', rfl, hrow, hgr, hat⟩; rw [← HSL.out] at hrow; obtain ⟨ad5, cap5, rfl⟩ := hrow.slice; obtain ⟨hb5, hfin⟩ := (by first | exact finish (s_trans HBd.out (s_drew (s_alloc (Below.refl _ _) _))) hgw (HL.out.below (s_trans HBd.out (s_drew (s_alloc (Below.refl _ _) _)))) hrow hgr hat HLN.out | exact finish (s_trans HBd.out (s_alloc (s_drew (Below.refl _ _)) _)) hgw (HL.out.below (s_trans HBd.out (s_alloc (s_drew (Below.refl _ _)) _))) hrow hgr hat HLN.out : w5.heap[g]? = some (.cells #[.slice (some ad') l.length cap, .int .i64 256] 143 (0, 0)) ∧ (Lin (w5.setCell ⟨g, 0, none⟩ (.slice ad5 (setL l f u x).length cap5)) base g (.slice ad5 (setL l f u x).length cap5) (setL l f u x) ∧ Kp w (w5.setCell ⟨g, 0, none⟩ (.slice ad5 (setL l f u x).length cap5)) g (Value.slice (some ad') l.length cap).ownBlock ∧ ∀ k, (Value.slice ad5 (setL l f u x).length cap5).ownBlock = some k → (Value.slice (some ad') l.length cap).ownBlock = some k ∨ w.heap.size ≤ k)); have y5 := (cells2 hb5).1; have y6 := blockFree hb5 0; have HF := Lib.hid hfin; clear hb5 hfin hrow hgr hat)
            all_goals
              go_wp2
              go_ret
              exact ⟨by rw [hsE]; rfl, _, HF.out⟩
    · have hclf : clash l f u = false := by unfold clash; rw [dif_neg hlt]
      rw [hclf, if_neg (by decide)] at hsE
      obtain ⟨wc, hwc⟩ : ∃ wc, wc = w3 := ⟨_, rfl⟩
      have HBc := HB3
      have HXc := HX3
      have HLc := Lib.hid (HL.out.below HB3.out)
      have xc0 := x0
      have xc1 := x1
      obtain ⟨yc0, yc1⟩ := cells2 HLc.out.box
      clear x0 x1 y0 y1
      rw [← hwc] at *
      by_cases hfull : 256 ≤ l.length
      · rw [if_pos hfull] at hsE
        have hS := HES.out _ HBc.out (by omega)
        rw [hsE] at hS
        have hS2 : ∀ n, SetP w base g (.slice ad l.length cap) l f u x (.returned (.int .i64 31)) (wc.drewN n) := fun n => by
          have := HES.out (wc.drewN n) (s_drewN HBc.out n) (by omega)
          rw [hsE] at this
          exact this
        have HS := Lib.hid hS2
        clear hS hS2
        go_wp2
        go_quiet (fail)
        go_wp2
        go_ret
        exact HS.out _
      · rw [if_neg hfull] at hsE
        have hfle := find_le l f
        have hl' : setL l f u x = l.take (find l f) ++ (f, u, x) :: l.drop (find l f) := by unfold setL; rw [if_pos hsE]
        have hlen : (setL l f u x).length ≤ 256 := by rw [hl']; simp only [List.length_append, List.length_take, List.length_cons, List.length_drop]; omega
        have hgw : g < w.heap.size := block_lt HL.out.box
        have HLN := Lib.hid hlen
        have HSL := Lib.hid hl'
        clear hlen hl'
        go_wp2
        go_quiet (fail)
        have HBd := Lib.hid (s_drewN HBc.out nq)
        have HXd := Lib.hid (show (wc.drewN nq).heap[w.heap.size]? = _ from HXc.out)
        clear xc0 xc1 yc0 yc1 HLc
        generalize wc.drewN nq = wd at *
        obtain ⟨xd0, xd1⟩ := cells2 HXd.out
        have HLd := Lib.hid (HL.out.below HBd.out)
        obtain ⟨yd0, yd1⟩ := cells2 HLd.out.box
        have hins := fun X (hX : Below wd.heap.size wd X) vb hvb (hne : (Value.slice ad l.length cap).ownBlock ≠ some vb) => insert_any X base (.slice ad l.length cap) l (HLd.out.row.below hX) (Nat.le_trans (Nat.le_trans HL.out.ge (Nat.le_of_lt hgw)) (Nat.le_trans HBd.out.size hX.size)) (by omega) (find l f) hfle (f, u, x) vb hvb hne
        have HINS := Lib.hid hins
        clear hins
        go_wp2
        have p0 : w.heap.size < wd.heap.size := block_lt HXd.out
        have p1 : g < wd.heap.size := block_lt HLd.out.box
        have p2 : w.heap.size ≠ wd.heap.size := Nat.ne_of_lt p0
        have p3 : g ≠ wd.heap.size := Nat.ne_of_lt p1
        go_region_with (go_at_call 93; refine (HINS.out _ (by first | exact s_alloc (s_drew (Below.refl _ _)) _ | exact s_drew (s_alloc (Below.refl _ _) _) | exact s_alloc (Below.refl _ _) _) wd.heap.size (by exact Array.getElem?_push_size) (fun e => by have := World.ownsRow.lt HLd.out.row _ e; omega)).mono ?_; rintro e w5 ⟨v', rfl, hrow, hgr, hat⟩; rw [← HSL.out] at hrow; obtain ⟨ad5, cap5, rfl⟩ := hrow.slice; obtain ⟨hb5, hfin⟩ := (by first | exact finish (s_trans HBd.out (s_drew (s_alloc (Below.refl _ _) _))) hgw (HL.out.below (s_trans HBd.out (s_drew (s_alloc (Below.refl _ _) _)))) hrow hgr hat HLN.out | exact finish (s_trans HBd.out (s_alloc (s_drew (Below.refl _ _)) _)) hgw (HL.out.below (s_trans HBd.out (s_alloc (s_drew (Below.refl _ _)) _))) hrow hgr hat HLN.out : w5.heap[g]? = some (.cells #[.slice ad l.length cap, .int .i64 256] 143 (0, 0)) ∧ (Lin (w5.setCell ⟨g, 0, none⟩ (.slice ad5 (setL l f u x).length cap5)) base g (.slice ad5 (setL l f u x).length cap5) (setL l f u x) ∧ Kp w (w5.setCell ⟨g, 0, none⟩ (.slice ad5 (setL l f u x).length cap5)) g (Value.slice ad l.length cap).ownBlock ∧ ∀ k, (Value.slice ad5 (setL l f u x).length cap5).ownBlock = some k → (Value.slice ad l.length cap).ownBlock = some k ∨ w.heap.size ≤ k)); have y5 := (cells2 hb5).1; have y6 := blockFree hb5 0; have HF := Lib.hid hfin; clear hb5 hfin hrow hgr hat)
        all_goals
          go_wp2
          go_ret
          exact ⟨by rw [hsE]; rfl, _, HF.out⟩
  · rw [if_neg h1] at hsE
    have h1f : rightB f u = false := by simpa using h1
    have hr := fun w => right_any f u w
    rw [h1f] at hr
    have HR := Lib.hid hr
    rw [hsE] at HES
    obtain ⟨c0, c1⟩ := cells2 h.box
    clear hr h1 h1f h
    go_enter Try.func56, Try.ntmps56
    go_wp2_with (first
      | (go_at_call 89; refine (none_any _ base g _ l (HL.out.below (s_alloc (Below.refl _ _) _))).mono ?_; rintro e w1 ⟨rfl, rfl⟩)
      | (go_at_call 90; refine (HR.out _).mono ?_; rintro e w2 ⟨rfl, hb⟩; have HB := Lib.hid hb; clear hb))
    go_ret
    exact HES.out _ (s_trans (s_alloc (Below.refl _ _) _) HB.out) (by omega)
end Go.Proofs.Ytbjoegladcmibaa.LnI
