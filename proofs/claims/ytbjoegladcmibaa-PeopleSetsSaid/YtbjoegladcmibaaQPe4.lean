/-
  people: Opt, Status, Business.
-/
import Derived.Test.YtbjoegladcmibaaQPe3
import Derived.Deep.RegionWith
namespace Go.Proofs.Ytbjoegladcmibaa.Pe
set_option linter.unusedVariables false
set_option linter.unusedSimpArgs false
set_option linter.unnecessarySimpa false
open Go.RowKit Go.Maps Go.Proofs.YtbjoegladcmibaaK Go.Proofs.Ytbjoegladcmibaa.Ln Go.Proofs.Ytbjoegladcmibaa.LnB Go.Proofs.Ytbjoegladcmibaa.Vi Go.Proofs.YtbjoegladcmibaaW.PrintWords

set_option maxRecDepth 100000 in
set_option maxHeartbeats 4000000 in
theorem opt_any (w : World) (base p m n : Nat) (home : ByteArray) (hh : home.size ≠ 0) (M : PM) (h : Pp w base p m n home M) (hbase : base ≤ w.heap.size) (f u : Int) :
    Calls Try.prog 44 #[.pointer (some ⟨p, 0, none⟩), .agg #[.int .i64 f, .int .i64 u]] w (StP w base p m n home M none (setE (cont M none) f u) (setL (cont M none) f u true)) := by
  obtain ⟨g0, v0, l0, e0, hbox⟩ := h.box
  have hc : cont M none = l0 := by unfold cont; rw [e0]
  rw [hc]
  have hset := fun wx (hx : Lin wx base g0 v0 l0) => set_any wx base g0 v0 l0 hx f u true
  unfold ev at hset
  have HSET := Lib.hid hset
  have H := Lib.hid h
  have HE := Lib.hid e0
  have HBX := Lib.hid (block_on (s_alloc (Below.refl w.heap.size w) (.cells #[.int .i64 f, .int .i64 u] 36)) hbox)
  have hcx := cells3 (block_on (s_drew (s_alloc (Below.refl w.heap.size w) (.cells #[.int .i64 f, .int .i64 u] 36))) hbox)
  obtain ⟨c0, c1, c2⟩ := cells3 HBX.out
  have HL := Lib.hid (h.lin none g0 v0 l0 e0)
  clear hset h e0 hbox hc hcx
  go_enter Try.func44, Try.ntmps44
  go_wp2_with (go_at_call 60; refine (none_any _ p g0 m home hh HBX.out).mono ?_; rintro e w1 ⟨rfl, rfl⟩)
  go_region_with (go_at_call 62; refine (HSET.out _ (HL.out.below (by first | exact s_alloc (Below.refl _ _) _ | exact s_drew (s_alloc (Below.refl _ _) _) | exact s_drewN (s_alloc (Below.refl _ _) _) _))).mono ?_; rintro e w3 ⟨rfl, v', hl', hk', hat'⟩; have HL2 := Lib.hid hl'; have HK2 := Lib.hid hk'; have HA2 := Lib.hid hat'; clear hl' hk' hat')
  all_goals
    go_wp2
    go_ret
    have hbd : Below w.heap.size w (w.alloc (.cells #[.int .i64 f, .int .i64 u] 36)).drew := s_drew (s_alloc (Below.refl _ _) _)
    exact st_kept H.out hbase hbd ((H.out.below hbd).got HE.out) HL2.out HK2.out HA2.out (Or.inl HE.out)
def ptrOf (M : PM) (k : Who) : Value := match M k with | some (g, _, _) => .agg #[.pointer (some ⟨g, 0, none⟩)] | none => .agg #[.pointer none]
theorem Pp.look_ok {w : World} {base p m n : Nat} {home : ByteArray} {M : PM} (h : Pp w base p m n home M) (s : ByteArray) (hs : s.size ≤ maxLen) :
    (Instr.lookup 103 (.map (some m)) (.string s) true).run Try.prog w = .ok (.tuple #[ptrOf M (some s), .bool (M (some s)).isSome]) w := by
  obtain ⟨D, ho, hi, hD⟩ := h.own
  obtain ⟨v, ps, hrun, hv⟩ := ho.look_ok (t := 103) lawS Try.underlying103 (zeroC w) pc_nil (keyS s hs)
  rw [hrun]
  unfold ptrOf
  cases hM : M (some s) with
  | none =>
    rw [atKey_of_not_has ((hD s hs).1 hM)] at hv
    rw [(hD s hs).1 hM, pc_inv_nil hv]
    rfl
  | some x =>
    obtain ⟨g, v', l⟩ := x
    rw [((hD s hs).2 g v' l hM).2] at hv
    rw [((hD s hs).2 g v' l hM).1, pc_inv hv]
    rfl
def bizB (home : ByteArray) (M : PM) (c num : ByteArray) (day : Int) : Bool := if ridB c num = true then (if c = home ∨ memB c = false then true else heldB (cont M (some (c ++ num))) day) else false
theorem ba_beq (a b : ByteArray) : (a.toList == b.toList) = decide (a = b) := by
  by_cases h : a = b
  · subst h; simp
  · rw [decide_eq_false h]
    apply beq_eq_false_iff_ne.2
    intro e
    apply h
    apply ba_of_list
    rwa [ByteArray.toList_eq, ByteArray.toList_eq] at e
theorem held_nil (day : Int) : heldB [] day = false := by
  unfold heldB atV atB
  simp
set_option maxRecDepth 100000 in
set_option maxHeartbeats 4000000 in
theorem biz_any (w : World) (base p m n : Nat) (home : ByteArray) (hh : home.size ≠ 0) (M : PM) (h : Pp w base p m n home M) (c num : ByteArray) (hsz : c.size + num.size ≤ 1000) (day : Int) :
    Calls Try.prog 21 #[.pointer (some ⟨p, 0, none⟩), .string c, .string num, .int .i64 day] w fun e w' => e = .returned (.bool (bizB home M c num day)) ∧ Below w.heap.size w w' := by
  obtain ⟨g0, v0, l0, e0, hbox⟩ := h.box
  have hss : (c ++ num).size ≤ maxLen := by rw [ByteArray.size_append]; unfold maxLen; omega
  have hbz : bizB home M c num day = if ridB c num = true then (if c = home ∨ memB c = false then true else heldB (cont M (some (c ++ num))) day) else false := rfl
  have hrid := fun wx => rid_any c num (by unfold maxLen; omega) (by omega) wx
  have hmem := fun wx => member_any c wx
  have hlk := fun wx (hx : Below w.heap.size w wx) => (h.below hx).look_ok (c ++ num) hss
  have hcx := fun wx (hx : Below w.heap.size w wx) => cells3 (block_on hx hbox)
  have heq : (c.toList == home.toList) = decide (c = home) := ba_beq c home
  have hhol : ∀ wx g v l, M (some (c ++ num)) = some (g, v, l) → Below w.heap.size w wx → Calls Try.prog 63 #[.agg #[.pointer (some ⟨g, 0, none⟩)], .int .i64 day] wx fun e w' => e = .returned (.bool (heldB (cont M (some (c ++ num))) day)) ∧ Below wx.heap.size wx w' := fun wx g v l hM hx => by
    have hc : cont M (some (c ++ num)) = l := by unfold cont; rw [hM]
    rw [hc]
    exact holds_any wx base g v l ((h.lin _ _ _ _ hM).below hx) day
  have hnl : M (some (c ++ num)) = none → heldB (cont M (some (c ++ num))) day = false := fun hM => by
    have hc : cont M (some (c ++ num)) = [] := by unfold cont; rw [hM]
    rw [hc]; exact held_nil day
  unfold ptrOf at hlk
  have hcat : (9223372036854775807 < c.size + num.size) = False := eq_false (by omega)
  have HBX := Lib.hid hbox
  obtain ⟨c0, c1, c2⟩ := cells3 hbox
  generalize heldB (cont M (some (c ++ num))) day = HD at *
  generalize ridB c num = R at *
  generalize memB c = MB at *
  generalize bizB home M c num day = BZ at *
  have HR := Lib.hid hrid
  have HM := Lib.hid hmem
  have HX := Lib.hid hcx
  clear hrid hmem hcx hbox h hsz
  cases R
  · rw [if_neg (by decide)] at hbz
    subst hbz
    clear hlk hhol hnl
    go_enter Try.func21, Try.ntmps21
    go_wp2_with (first
      | (go_at_call 60; refine (none_any _ p g0 m home hh HBX.out).mono ?_; rintro e w1 ⟨rfl, rfl⟩)
      | (go_at_call 61; refine (HR.out _).mono ?_; rintro e w2 ⟨rfl, hb⟩; have HB := Lib.hid hb; clear hb))
    go_ret
    exact ⟨rfl, HB.out⟩
  · rw [if_pos rfl] at hbz
    by_cases hch : c = home
    · rw [if_pos (Or.inl hch)] at hbz
      subst hbz
      rw [decide_eq_true hch] at heq
      clear hlk hhol hnl hch
      go_enter Try.func21, Try.ntmps21
      go_wp2_with (first
        | (go_at_call 60; refine (none_any _ p g0 m home hh HBX.out).mono ?_; rintro e w1 ⟨rfl, rfl⟩)
        | (go_at_call 61; refine (HR.out _).mono ?_; rintro e w2 ⟨rfl, hb⟩; have HB := Lib.hid hb; obtain ⟨c0, c1, c2⟩ := HX.out _ hb; clear hb))
      go_ret
      exact ⟨rfl, HB.out⟩
    · rw [decide_eq_false hch] at heq
      cases MB
      · rw [if_pos (Or.inr rfl)] at hbz
        subst hbz
        clear hlk hhol hnl
        go_enter Try.func21, Try.ntmps21
        go_wp2_with (first
          | (go_at_call 60; refine (none_any _ p g0 m home hh HBX.out).mono ?_; rintro e w1 ⟨rfl, rfl⟩)
          | (go_at_call 61; refine (HR.out _).mono ?_; rintro e w2 ⟨rfl, hb⟩; have HB := Lib.hid hb; obtain ⟨c0, c1, c2⟩ := HX.out _ hb; clear hb)
          | (go_at_call 53; refine (HM.out _).mono ?_; rintro e w3 ⟨rfl, hb⟩; have HB3 := Lib.hid (s_trans HB.out hb); clear hb))
        go_ret
        exact ⟨rfl, HB3.out⟩
      · rw [if_neg (by intro x; rcases x with x | x; exact hch x; cases x)] at hbz
        subst hbz
        cases hMc : M (some (c ++ num)) with
        | none =>
          have hz := hnl hMc
          subst hz
          rw [hMc] at hlk
          have HLK := Lib.hid hlk
          clear hlk hhol hnl hMc
          go_enter Try.func21, Try.ntmps21
          go_wp2_with (first
            | (go_at_call 60; refine (none_any _ p g0 m home hh HBX.out).mono ?_; rintro e w1 ⟨rfl, rfl⟩)
            | (go_at_call 61; refine (HR.out _).mono ?_; rintro e w2 ⟨rfl, hb⟩; have HB := Lib.hid hb; obtain ⟨c0, c1, c2⟩ := HX.out _ hb; clear hb)
            | (go_at_call 53; refine (HM.out _).mono ?_; rintro e w3 ⟨rfl, hb⟩; have HB3 := Lib.hid (s_trans HB.out hb); obtain ⟨c0, c1, c2⟩ := HX.out _ HB3.out; have hl3 := HLK.out _ HB3.out; clear hb))
          go_ret
          exact ⟨rfl, s_alloc HB3.out _⟩
        | some z =>
          obtain ⟨g, v, l⟩ := z
          have hho := fun wx hx => hhol wx g v l hMc hx
          rw [hMc] at hlk
          have HLK := Lib.hid hlk
          have HHO := Lib.hid hho
          clear hlk hhol hnl hMc hho
          go_enter Try.func21, Try.ntmps21
          go_wp2_with (first
            | (go_at_call 60; refine (none_any _ p g0 m home hh HBX.out).mono ?_; rintro e w1 ⟨rfl, rfl⟩)
            | (go_at_call 61; refine (HR.out _).mono ?_; rintro e w2 ⟨rfl, hb⟩; have HB := Lib.hid hb; obtain ⟨c0, c1, c2⟩ := HX.out _ hb; clear hb)
            | (go_at_call 53; refine (HM.out _).mono ?_; rintro e w3 ⟨rfl, hb⟩; have HB3 := Lib.hid (s_trans HB.out hb); obtain ⟨c0, c1, c2⟩ := HX.out _ HB3.out; have hl3 := HLK.out _ HB3.out; clear hb)
            | (go_at_call 63; refine (HHO.out _ (s_alloc HB3.out _)).mono ?_; rintro e w4 ⟨rfl, hb⟩; have HB4 := Lib.hid (s_trans (s_alloc HB3.out _) hb); clear hb))
          go_ret
          exact ⟨rfl, HB4.out⟩
def stE (M : PM) (c num : ByteArray) (f u : Int) : Int := if ridB c num = true then setE (cont M (some (c ++ num))) f u else 40
def stL (M : PM) (c num : ByteArray) (f u : Int) : List Held := if ridB c num = true then setL (cont M (some (c ++ num))) f u true else cont M (some (c ++ num))
set_option maxRecDepth 100000 in
set_option maxHeartbeats 4000000 in
theorem status_any (w : World) (base p m n : Nat) (home : ByteArray) (hh : home.size ≠ 0) (M : PM) (h : Pp w base p m n home M) (hbase : base ≤ w.heap.size) (hn : n < maxLen) (c num : ByteArray) (hsz : c.size + num.size ≤ 1000) (f u : Int) :
    Calls Try.prog 20 #[.pointer (some ⟨p, 0, none⟩), .string c, .string num, .agg #[.int .i64 f, .int .i64 u]] w (StP w base p m n home M (some (c ++ num)) (stE M c num f u) (stL M c num f u)) := by
  obtain ⟨g0, v0, l0, e0, hbox⟩ := h.box
  have hss : (c ++ num).size ≤ maxLen := by rw [ByteArray.size_append]; unfold maxLen; omega
  have hcat : (9223372036854775807 < c.size + num.size) = False := eq_false (by omega)
  have hrid := fun wx => rid_any c num (by unfold maxLen; omega) (by omega) wx
  have hE : stE M c num f u = if ridB c num = true then setE (cont M (some (c ++ num))) f u else 40 := rfl
  have hL : stL M c num f u = if ridB c num = true then setL (cont M (some (c ++ num))) f u true else cont M (some (c ++ num)) := rfl
  have hb0 : Below w.heap.size w (w.alloc (.cells #[.int .i64 f, .int .i64 u] 36)) := s_alloc (Below.refl _ _) _
  have hX : (w.alloc (.cells #[.int .i64 f, .int .i64 u] 36)).heap[w.heap.size]? = some (.cells #[.int .i64 f, .int .i64 u] 36 (0, 0)) := Array.getElem?_push_size
  have hBX := block_on hb0 hbox
  have HB0 := Lib.hid hb0
  have HX := Lib.hid hX
  have HBX := Lib.hid hBX
  have H := Lib.hid h
  rw [hE, hL]
  clear hE hL hb0 hX hBX hbox h hsz
  generalize ridB c num = R at *
  have HR := Lib.hid hrid
  clear hrid
  cases R
  · rw [if_neg (by decide), if_neg (by decide)]
    go_enter Try.func20, Try.ntmps20
    go_wp2_with (first
      | (go_at_call 60; refine (none_any _ p g0 m home hh HBX.out).mono ?_; rintro e w1 ⟨rfl, rfl⟩)
      | (go_at_call 61; refine (HR.out _).mono ?_; rintro e w2 ⟨rfl, hb⟩; have HB := Lib.hid (s_trans HB0.out hb); clear hb))
    go_ret
    exact st_same H.out hbase HB.out (by decide)
  · rw [if_pos rfl, if_pos rfl]
    have hlk := fun wx (hx : Below w.heap.size w wx) => (H.out.below hx).look_ok (c ++ num) hss
    unfold ptrOf at hlk
    cases hMc : M (some (c ++ num)) with
    | some z =>
      obtain ⟨g, v, l⟩ := z
      have hcl : cont M (some (c ++ num)) = l := by unfold cont; rw [hMc]
      rw [hcl]
      rw [hMc] at hlk
      have HLK := Lib.hid hlk
      have HMC := Lib.hid hMc
      have hset := fun wx (hx : Lin wx base g v l) => set_any wx base g v l hx f u true
      unfold ev at hset
      have HSET := Lib.hid hset
      clear hlk hMc hcl hset
      go_enter Try.func20, Try.ntmps20
      go_wp2_with (first
        | (go_at_call 60; refine (none_any _ p g0 m home hh HBX.out).mono ?_; rintro e w1 ⟨rfl, rfl⟩)
        | (go_at_call 61; refine (HR.out _).mono ?_; rintro e w2 ⟨rfl, hb⟩; have HB := Lib.hid (s_trans HB0.out hb); have HBY := Lib.hid hb; obtain ⟨c0, c1, c2⟩ := cells3 (block_on hb HBX.out); have hl3 := HLK.out _ HB.out; obtain ⟨x0, x1⟩ := cells2 (block_alloc (block_on hb HX.out) (.cells #[.pointer (some ⟨g, 0, none⟩)] 102)); clear hb)
        | (go_at_call 62; refine (HSET.out _ ((H.out.lin _ _ _ _ HMC.out).below (s_alloc HB.out _))).mono ?_; rintro e w4 ⟨rfl, v', hl', hk', hat'⟩; have HL4 := Lib.hid hl'; have HK4 := Lib.hid hk'; have HA4 := Lib.hid hat'; clear hl' hk' hat' x0 x1))
      · rename_i hz
        have hz' : setE l f u = 0 := by simpa using hz
        obtain ⟨D, ho, hi, hD⟩ := (H.out.below (s_alloc HB.out _)).own
        have hG : Got (w2.alloc (.cells #[.pointer (some ⟨g, 0, none⟩)] 102)) base M (some (c ++ num)) g v l := (H.out.below (s_alloc HB.out _)).got HMC.out
        have hm4 : w4.ownsMap Try.prog 9 pc m n D := map_kp ho hG HK4.out
        obtain ⟨w5, hrun, ho5, hg5⟩ := World.ownsMap.update (t := 103) hm4.drew lawS Try.underlying103 hn (keyS _ hss) (pc_mk g)
        have hp4 := kp_cells hG HK4.out (block_on (s_alloc HBY.out _) HBX.out) (by decide) (by decide)
        have hy4 := kp_cells hG HK4.out (Array.getElem?_push_size : (w2.alloc (.cells #[.pointer (some ⟨g, 0, none⟩)] 102)).heap[w2.heap.size]? = _) (by decide) (by decide)
        obtain ⟨c0, c1, c2⟩ := cells3 hp4
        have y4 := cells1 hy4
        have HG := Lib.hid hG
        have HO := Lib.hid ho5
        have HG5 := Lib.hid hg5
        have HD := Lib.hid hD
        have HI := Lib.hid hi
        clear hG hm4 ho hD hi ho5 hg5 hp4 hy4
        go_region
        go_wp2
        go_ret
        rw [hz']
        exact st_put hss H.out hbase (s_alloc HB.out _) HG.out HL4.out HK4.out HA4.out HI.out HD.out HO.out ⟨HG5.out.os, HG5.out.tape, HG5.out.output, HG5.out.size, HG5.out.block⟩
      · rename_i hz
        have hz' : setE l f u ≠ 0 := by simpa using hz
        have hG : Got (w2.alloc (.cells #[.pointer (some ⟨g, 0, none⟩)] 102)) base M (some (c ++ num)) g v l := (H.out.below (s_alloc HB.out _)).got HMC.out
        go_ret
        have hl : setL l f u true = l := by unfold setL; rw [if_neg hz']
        exact st_kept H.out hbase (s_alloc HB.out _) hG HL4.out HK4.out HA4.out (Or.inr ⟨hz', hl⟩)
    | none =>
      rw [show cont M (some (c ++ num)) = [] by unfold cont; rw [hMc]]
      rw [hMc] at hlk
      have HLK := Lib.hid hlk
      have HMC := Lib.hid hMc
      have hfr := fun wx (hx : base ≤ wx.heap.size) => fresh_any wx base hx
      have hset := fun wx g (hx : Lin wx base g (.slice none 0 0) []) => set_any wx base g _ [] hx f u true
      unfold ev at hset
      have HSET := Lib.hid hset
      have HFR := Lib.hid hfr
      clear hlk hMc hset hfr
      generalize hl0 : ([] : List Held) = l at *
      go_enter Try.func20, Try.ntmps20
      go_wp2_with (first
        | (go_at_call 60; refine (none_any _ p g0 m home hh HBX.out).mono ?_; rintro e w1 ⟨rfl, rfl⟩)
        | (go_at_call 61; refine (HR.out _).mono ?_; rintro e w2 ⟨rfl, hb⟩; have HB := Lib.hid (s_trans HB0.out hb); have HBY := Lib.hid hb; obtain ⟨c0, c1, c2⟩ := cells3 (block_on hb HBX.out); have hl3 := HLK.out _ HB.out; have HX2 := Lib.hid (block_on hb HX.out); clear hb)
        | (go_at_call 59; refine (HFR.out _ (by have := HB.out.size; simp; omega)).mono ?_; rintro e w3 ⟨g, rfl, hg, hl, hb⟩; have HL3 := Lib.hid hl; have HGE := Lib.hid (by have := HB.out.size; simp at hg; omega : w2.heap.size < g); have HB3 := Lib.hid hb; have HY3 := Lib.hid (block_kept hb); have y0 := cells1 HY3.out; have hfz := blockFree HY3.out 0; obtain ⟨x0, x1⟩ := cells2 (set_ne (g := w2.heap.size) (i := 0) (v := .pointer (some ⟨g, 0, none⟩)) (block_on hb (block_alloc HX2.out _)) (by have := HB.out.size; have := block_lt HX2.out; omega)); clear hl hg hb)
        | (go_at_call 62; refine (HSET.out _ g ⟨set_ne HL3.out.box (by have := HGE.out; omega), by rw [← hl0]; exact World.ownsRow_nil _ _ _ _, HL3.out.ge, HL3.out.most⟩).mono ?_; rintro e w4 ⟨rfl, v', hl', hk', hat'⟩; have HL4 := Lib.hid hl'; have HK4 := Lib.hid hk'; have HA4 := Lib.hid hat'; clear hl' hk' hat' x0 x1 y0 hfz))
      · rename_i hz
        have hz' : setE l f u = 0 := by simpa using hz
        obtain ⟨D, ho, hi, hD⟩ := (H.out.below (s_set (s_trans (s_alloc HB.out _) HB3.out) ⟨w2.heap.size, 0, none⟩ (.pointer (some ⟨g, 0, none⟩)) HB.out.size)).own
        have hG : Got (w3.setCell ⟨w2.heap.size, 0, none⟩ (.pointer (some ⟨g, 0, none⟩))) base M (some (c ++ num)) g (.slice none 0 0) l := (by rw [← hl0]; exact H.out.got_new HMC.out (by have := HGE.out; have := HB.out.size; omega) ⟨set_ne HL3.out.box (by have := HGE.out; omega), World.ownsRow_nil _ _ _ _, HL3.out.ge, by simp⟩)
        have hm4 : w4.ownsMap Try.prog 9 pc m n D := map_kp ho hG HK4.out
        obtain ⟨w5, hrun, ho5, hg5⟩ := World.ownsMap.update (t := 103) hm4.drew lawS Try.underlying103 hn (keyS _ hss) (pc_mk g)
        have hp4 := kp_cells hG HK4.out (block_on (s_set (s_trans (s_alloc HBY.out _) HB3.out) ⟨w2.heap.size, 0, none⟩ (.pointer (some ⟨g, 0, none⟩)) HBY.out.size) HBX.out) (by decide) (by decide)
        have hy4 := kp_cells hG HK4.out (by simp [World.setCell, HY3.out, Array.getElem?_modify] : (w3.setCell ⟨w2.heap.size, 0, none⟩ (.pointer (some ⟨g, 0, none⟩))).heap[w2.heap.size]? = some (.cells #[.pointer (some ⟨g, 0, none⟩)] 102 (0, 0))) (by decide) (by decide)
        obtain ⟨c0, c1, c2⟩ := cells3 hp4
        have y4 := cells1 hy4
        have HG := Lib.hid hG
        have HO := Lib.hid ho5
        have HG5 := Lib.hid hg5
        have HD := Lib.hid hD
        have HI := Lib.hid hi
        clear hG hm4 ho hD hi ho5 hg5 hp4 hy4
        go_region
        go_wp2
        go_ret
        rw [hz']
        exact st_put hss H.out hbase (s_set (s_trans (s_alloc HB.out _) HB3.out) ⟨w2.heap.size, 0, none⟩ (.pointer (some ⟨g, 0, none⟩)) HB.out.size) HG.out HL4.out HK4.out HA4.out HI.out HD.out HO.out ⟨HG5.out.os, HG5.out.tape, HG5.out.output, HG5.out.size, HG5.out.block⟩
      · rename_i hz
        have hz' : setE l f u ≠ 0 := by simpa using hz
        have hG : Got (w3.setCell ⟨w2.heap.size, 0, none⟩ (.pointer (some ⟨g, 0, none⟩))) base M (some (c ++ num)) g (.slice none 0 0) l := (by rw [← hl0]; exact H.out.got_new HMC.out (by have := HGE.out; have := HB.out.size; omega) ⟨set_ne HL3.out.box (by have := HGE.out; omega), World.ownsRow_nil _ _ _ _, HL3.out.ge, by simp⟩)
        go_ret
        have hl : setL l f u true = l := by unfold setL; rw [if_neg hz']
        exact st_kept H.out hbase (s_set (s_trans (s_alloc HB.out _) HB3.out) ⟨w2.heap.size, 0, none⟩ (.pointer (some ⟨g, 0, none⟩)) HB.out.size) hG HL4.out HK4.out HA4.out (Or.inr ⟨hz', hl⟩)
end Go.Proofs.Ytbjoegladcmibaa.Pe
