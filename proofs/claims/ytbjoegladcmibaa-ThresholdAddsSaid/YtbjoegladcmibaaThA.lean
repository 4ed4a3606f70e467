import Derived.Test.YtbjoegladcmibaaThC
import Derived.Test.YtbjoegladcmibaaThP2
import Derived.Test.YtbjoegladcmibaaXThresholdAddsx11
import Derived.Deep.DeepCutAuto
namespace Go.Proofs.Ytbjoegladcmibaa.ThA
set_option linter.unusedVariables false
set_option linter.unusedSimpArgs false
set_option linter.unnecessarySimpa false
open Go.RowKit Go.Maps Go.Proofs.YtbjoegladcmibaaK Go.Proofs.Ytbjoegladcmibaa.Thr Go.Proofs.Ytbjoegladcmibaa.ThP Go.Proofs.Ytbjoegladcmibaa.ThNum Go.Proofs.Ytbjoegladcmibaa.XThresholdAdds Go.Proofs.YtbjoegladcmibaaW.PrintWords Go.Proofs.YtbjoegladcmibaaW.PrintLast

theorem wf_may {a : Int} (h : May a) : (Lit.int .i64 a).wf = true := by
  unfold May at h
  exact wf64 (by omega) (by omega)
theorem sumV2_may (u v : Int) : May (sumV [u, v]) := by
  unfold sumV
  split
  · split
    · rename_i h1 h2; exact (may_iff _).1 h2
    · unfold May; omega
  · unfold May; omega
theorem withV_wf (T : Int → Int) (y a : Int) : (Lit.int .i64 (withV T y a)).wf = true := by
  unfold withV
  split
  · exact wf_may (sumV2_may _ _)
  · exact wf64 (by omega) (by omega)
theorem yrs_of {K : Int → Bool} {T : Int → Int} (h : ∀ y, (Lit.int .i64 y).wf = true → K y = (T y != 0)) (zs : List Int) (hy : Thr.Yrs K zs) : Thr.Yrs (fun y => T y != 0) zs :=
  ⟨hy.sorted, hy.wf, fun y hw => (hy.mem y hw).trans (by rw [h y hw])⟩
theorem good_next {l : List S53} {T : Int → Int} (h : ThP.Good l T) (y a : Int) : ThP.Good (if withE T y a = 0 then l ++ [⟨y, a⟩] else l) (if withE T y a = 0 then upd T y (withV T y a) else T) := by
  by_cases he : withE T y a = 0
  · rw [if_pos he, if_pos he]; exact h.add he
  · rw [if_neg he, if_neg he]; exact h
theorem next_len (l : List S53) (E : Int) (x : S53) : (if E = 0 then l ++ [x] else l).length ≤ l.length + 1 := by split <;> simp
theorem k_next {K : Int → Bool} {T : Int → Int} (h : ∀ y, (Lit.int .i64 y).wf = true → K y = (T y != 0)) (y a : Int) : ∀ z, (Lit.int .i64 z).wf = true →
    (if withE T y a = 0 then updK K y (withV T y a != 0) else K) z = ((if withE T y a = 0 then upd T y (withV T y a) else T) z != 0) := fun z hz => by
  split
  · unfold updK upd
    split
    · rfl
    · exact h z hz
  · exact h z hz
theorem sorted_len (hi : Int) : ∀ (zs : List Int) (lo : Int), zs.Pairwise (· < ·) → (∀ x ∈ zs, lo ≤ x ∧ x ≤ hi) → (zs.length : Int) ≤ max 0 (hi - lo + 1)
  | [], lo, _, _ => by simp; omega
  | x :: zs, lo, h1, h2 => by
    obtain ⟨a1, a2⟩ := List.pairwise_cons.1 h1
    have hx := h2 x (List.mem_cons_self ..)
    have := sorted_len hi zs (x + 1) a2 (fun y hy => ⟨by have := a1 y hy; omega, (h2 y (List.mem_cons_of_mem _ hy)).2⟩)
    simp only [List.length_cons]
    omega
theorem yrs_length {T : Int → Int} {l : List S53} (hg : ThP.Good l T) {zs : List Int} (h : Thr.Yrs (fun y => T y != 0) zs) : zs.length < 1000000 := by
  have := sorted_len 9999 zs 1970 h.sorted (fun y hy => by
    have h1 := (h.mem y (h.wf y hy)).1 hy
    obtain ⟨x, hx, e⟩ := sumI_own_nil hg (by simpa using h1)
    have := hg.year x hx
    omega)
  omega

theorem tot_lt {w : World} {g m n : Nat} {T : Int → Int} {K : Int → Bool} (h : Tot w g m n T K) : m < w.heap.size := by
  obtain ⟨D, ⟨es, clock, hm, _⟩, _⟩ := h.own
  exact block_lt hm
theorem tot_grown {w w1 : World} {g m n q : Nat} {T : Int → Int} {K : Int → Bool} (h : Tot w g m n T K) (hg : w.grownBy w1 (some q)) (h1 : g ≠ q) (h2 : m ≠ q) : Tot w1 g m n T K := by
  obtain ⟨D, ⟨es, clock, hm, hF, hs, hd⟩, hi, hD⟩ := h.own
  exact ⟨(hg.block g (block_lt h.box) (by simpa using h1)).trans h.box, ⟨D, ⟨es, clock, (hg.block m (block_lt hm) (by simpa using h2)).trans hm, hF, hs, hd⟩, hi, hD⟩, h.ne⟩
theorem tot_kept {w w1 : World} {g m n : Nat} {S : Nat → Prop} {T : Int → Int} {K : Int → Bool} (h : Tot w g m n T K) (hg : Kept w w1 S) (h1 : ¬ S g) (h2 : ¬ S m) : Tot w1 g m n T K := by
  obtain ⟨D, ⟨es, clock, hm, hF, hs, hd⟩, hi, hD⟩ := h.own
  exact ⟨(hg.2 g (block_lt h.box) h1).trans h.box, ⟨D, ⟨es, clock, (hg.2 m (block_lt hm) h2).trans hm, hF, hs, hd⟩, hi, hD⟩, h.ne⟩
theorem heap_alloc_lt (w : World) (o : Obj) {q : Nat} (h : q < w.heap.size) : (w.alloc o).heap[q]? = w.heap[q]? := (Array.getElem?_push_lt h).trans (Array.getElem?_eq_getElem h).symm
theorem reads_C {w : World} {b : Nat} {ok : Nat → Prop} {A : Option Addr} {c n : Nat} {l : List S53} (h : Kd.R k53 53 w b ok (.slice A n c) l) : Kd.C k53 w A l.length l := by
  obtain ⟨A', c', e, _, hc⟩ := Kd.R_reads h
  injection e with e1 e2 e3
  rw [e1]; exact hc

set_option maxRecDepth 100000 in
set_option maxHeartbeats 8000000 in
theorem adds_any (w : World) (A0 : Option Addr) (c0 : Nat) (l0 : List S53) (ay aa : Int) (o : Bool) (hr0 : Kd.C k53 w A0 l0.length l0) (hc0 : l0.length ≤ c0) (hl : l0.length ≤ 9223372036854775807) (hs : ∀ y ∈ l0, (Lit.int .i64 y.f0).wf = true) (hay : (Lit.int .i64 ay).wf = true) :
    Calls Try.prog 5 #[.slice A0 l0.length c0, .agg #[.int .i64 ay, .int .i64 aa], .bool o] w fun e w' => e = .returned (.bool true) ∧ Below w.heap.size w w' := by
  have HR0 := Lib.hid hr0
  have HAW := Lib.hid hay
  have HS := Lib.hid hs
  clear hr0 hay hs
  by_cases h60 : l0.length ≤ 60
  · have d1 : decide ((60 : Int) < (l0.length : Int)) = false := decide_eq_false (by omega)
    have d2 : ((l0.length : Int) ≤ 60) = True := eq_true (by omega)
    go_enter Try.func5, Try.ntmps5
    go_wp2_with (go_at_call 24; refine (new_any _).mono ?_; rintro e w1 ⟨rfl, ht1, hb1⟩; have HT1 := Lib.hid ht1; have HB1 := Lib.hid hb1; clear ht1 hb1)
    obtain ⟨w9, hw9⟩ : ∃ W : World, W = w.alloc (.cells #[.int .i64 ay, .int .i64 aa] 53) := ⟨_, rfl⟩
    have es : w9.heap.size = w.heap.size + 1 := by rw [hw9]; simp
    have hb9 : Below w.heap.size w w9 := by rw [hw9]; exact s_alloc (Below.refl _ _) _
    have hk9 : w9.heap[w.heap.size]? = some (.cells #[.int .i64 ay, .int .i64 aa] 53 (0, 0)) := by rw [hw9]; exact Array.getElem?_push_size
    rw [← hw9] at HT1 HB1
    have HB9 := Lib.hid hb9
    have HK9 := Lib.hid hk9
    have HES := Lib.hid es
    clear hw9 hb9 hk9 es
    go_loopw [7, 8, 27] (fun v7 v8 v27 wr => ∃ (k g m n : Nat) (T : Int → Int) (K : Int → Bool) (l : List S53), k ≤ l0.length ∧ v27 = .int .i64 k ∧ v7 = .pointer (some ⟨g, 0, none⟩) ∧ n ≤ k ∧ w9.heap.size ≤ g ∧ w9.heap.size ≤ m ∧ l.length ≤ k ∧ Hid (Tot wr g m n T K) ∧ Hid (ThP.Good l T) ∧ Hid (∀ y, (Lit.int .i64 y).wf = true → K y = (T y != 0)) ∧ Hid (Kd.R k53 53 wr w9.heap.size (fun _ => True) v8 l) ∧ Hid (Below w9.heap.size w9 wr)) (fun _ _ i _ => l0.length - (intOf i).toNat)
    case atStart => exact ⟨0, w9.heap.size + 1, w9.heap.size, 0, _, _, [], by omega, rfl, by rw [HES.out], Nat.le_refl _, by omega, Nat.le_refl _, by simp, HT1, ThP.Good.none, fun _ _ => rfl, Kd.R_nil _ _ _ _ _, HB1⟩
    case round =>
      obtain ⟨k, g, m, n, T, K, l, hk, rfl, rfl, hnk, hg9, hm9, hlk, HT, HG, HKT, HRW, HB⟩ := hrel
      by_cases hkn : k = l0.length
      · subst hkn
        go_wp2_with (go_at_call 23; refine (lives_any _).mono ?_; rintro e w5 ⟨rfl, hb⟩; have HB5 := Lib.hid (s_trans HB.out hb); clear hb)
        go_ret
        exact ⟨rfl, s_trans HB9.out HB5.out⟩
      · have hlt : k < l0.length := by omega
        obtain ⟨A, c, rfl, hle, hcl⟩ := Kd.R_reads HRW.out
        obtain ⟨ad0, e0, q0, q1⟩ := at_T53 (Kd.C_below HR0.out (s_trans HB9.out HB.out)) (k : Int) (by omega) (by omega)
        have hy : rd_T53 l0 (k : Int) = l0[k] := by unfold rd_T53; rw [Int.toNat_natCast, List.getD_eq_getElem?_getD, List.getElem?_eq_getElem hlt]; rfl
        have hy1 := HS.out l0[k] (List.getElem_mem hlt)
        rw [hy] at q0 q1
        rw [Int.toNat_natCast] at q0 q1
        cases e0
        generalize l0[k] = x at *
        obtain ⟨xy, xa⟩ := x
        dsimp only at q0 q1 hy1
        clear hy
        have HXW := Lib.hid hy1
        have HLE := Lib.hid hle
        have HLN := Lib.hid (by omega : l.length ≤ 100)
        have hbx : wr.heap.size < (wr.alloc (.cells #[.int .i64 xy, .int .i64 xa] 53)).heap.size := by simp
        have HC0 := Lib.hid hcl
        clear hle hcl hy1
        go_upto_region 14 with (first
          | (go_at_call 25; refine (clone_any _ g m n T (HT.out.below (s_alloc (Below.refl _ _) _))).mono ?_; rintro e w2 ⟨g2, rfl, ht2, hb2, hlt2⟩; have HT2 := Lib.hid ht2; have HT0 := Lib.hid ((HT.out.below (s_alloc (Below.refl _ _) _)).below hb2); have HX2 := Lib.hid (block_kept hb2); have HB2 := Lib.hid hb2; have HL2 := Lib.hid hlt2; clear ht2 hb2 hlt2; obtain ⟨x0, x1⟩ := cells2 HX2.out)
          | (go_at_call 26; refine (add_any _ _ _ n T HT2.out xy xa HXW.out (by unfold maxLen; omega) (withV_wf _ _ _)).mono ?_; rintro e w3 ⟨rfl, ht3, hg3⟩; have HT3 := Lib.hid ht3; have HG3 := Lib.hid hg3; clear ht3 hg3))
        obtain ⟨m2, hm2⟩ : ∃ q, q = (wr.alloc (.cells #[.int .i64 xy, .int .i64 xa] 53)).heap.size := ⟨_, rfl⟩
        rw [← hm2] at HT2 HT3 HG3 HL2
        have hm2' : m2 = wr.heap.size + 1 := by rw [hm2]; simp
        have hgl := block_lt HT.out.box
        have hml := tot_lt HT.out
        have hwl := HB.out.size
        have hb2 : Below w9.heap.size w9 w2 := s_trans (s_alloc HB.out _) HB2.out
        have hB3 : Below w9.heap.size w9 w3 := hb2.grown HG3.out hb2.size (fun j hj => by cases hj; omega)
        have hold : ∀ q, q < wr.heap.size → w3.heap[q]? = wr.heap[q]? := fun q hq => by
          rw [HG3.out.block q (Nat.lt_of_lt_of_le (Nat.lt_of_lt_of_le hq (by simp)) HB2.out.size) (by simp; omega), HB2.out.block q (by simp; omega)]
          exact heap_alloc_lt _ _ hq
        have HTO := Lib.hid (tot_grown HT0.out HG3.out (by omega) (by omega))
        have hx3 : w3.cell? ⟨wr.heap.size, 0, none⟩ = some (.int .i64 xy) := (cells2 ((HG3.out.block _ (block_lt HX2.out) (by simp; omega)).trans HX2.out)).1
        have hx3b : w3.cell? ⟨wr.heap.size, 1, none⟩ = some (.int .i64 xa) := (cells2 ((HG3.out.block _ (block_lt HX2.out) (by simp; omega)).trans HX2.out)).2
        have HR3 := Lib.hid (Kd.R_step (Kd.R_bound HRW.out) (fun q _ hq => hold q hq))
        have HC3 := Lib.hid (reads_C HR3.out)
        have HB3 := Lib.hid hB3
        have HBX := Lib.hid (Nat.lt_of_lt_of_le (block_lt HX2.out) HG3.out.size)
        have HM2 := Lib.hid hm2'
        have HLT := Lib.hid (⟨hgl, hml, hwl, HL2.out⟩ : g < wr.heap.size ∧ m < wr.heap.size ∧ w9.heap.size ≤ wr.heap.size ∧ m2 < g2)
        have HX3B := Lib.hid hx3b
        have hne1 : (T xy != T xy) = false := by simp
        clear hm2 hm2' hgl hml hwl hb2 hB3 hold hx3b x0 x1 q0 q1
        refine start_ (n := 9) (S := fun w' => w'.cell? ⟨wr.heap.size, 0, none⟩ = some (.int .i64 xy)) (ds := []) #[false, false, false, false, false, false, false, false, false] (by kernel_rfl) rfl rfl (hx3) (fun hHeld => ?_)
        obtain ⟨wd, hwd⟩ : ∃ W, W = w3.drew := ⟨_, rfl⟩
        rw [← hwd] at hHeld
        rw [← hwd]
        have hdr : Below w3.heap.size w3 wd := by rw [hwd]; exact s_drew (Below.refl _ _)
        have HDR := Lib.hid hdr
        clear hwd
        have HTd := Lib.hid (HTO.out.below hdr)
        have HXd := Lib.hid ((hdr.cell (p := ⟨wr.heap.size, 0, none⟩) HBX.out).trans hx3)
        have HCd := Lib.hid (Kd.C_below HC3.out hdr)
        have HBXd := Lib.hid (Nat.lt_of_lt_of_le HBX.out hdr.size)
        clear hdr
        refine pure_ (i := 0) (N := some 41) (v := ?_) (a' := ?_) #[true, false, false, false, false, false, false, false, false] rfl rfl (by kernel_rfl) (fun _ _ _ h => h) (Or.inl ⟨by rfl, ?_⟩) ?_ ?_
        rotate_left
        · intro w'
          go_simp
          with_reducible rfl
        rotate_left
        · simp only [Act.put, List.setIfInBounds_toArray, List.set_cons_zero, List.set_cons_succ, i64_w, i32_w]
          rfl
        refine pure_ (i := 1) (N := some 42) (v := ?_) (a' := ?_) #[true, true, false, false, false, false, false, false, false] rfl rfl (by kernel_rfl) (fun _ _ _ h => h) (Or.inl ⟨by rfl, ?_⟩) ?_ ?_
        rotate_left
        · intro w'
          go_simp
          with_reducible rfl
        rotate_left
        · simp only [Act.put, List.setIfInBounds_toArray, List.set_cons_zero, List.set_cons_succ, i64_w, i32_w]
          rfl
        refine pure_ (i := 4) (N := some 45) (v := ?_) (a' := ?_) #[true, true, false, false, true, false, false, false, false] rfl rfl (by kernel_rfl) (fun _ _ _ h => h) (Or.inl ⟨by rfl, ?_⟩) ?_ ?_
        rotate_left
        · intro w'
          go_simp
          with_reducible rfl
        rotate_left
        · simp only [Act.put, List.setIfInBounds_toArray, List.set_cons_zero, List.set_cons_succ, i64_w, i32_w]
          rfl
        refine pure_ (i := 5) (N := some 46) (v := ?_) (a' := ?_) #[true, true, false, false, true, true, false, false, false] rfl rfl (by kernel_rfl) (fun _ _ _ h => h) (Or.inl ⟨by rfl, ?_⟩) ?_ ?_
        rotate_left
        · intro w'
          go_simp
          with_reducible rfl
        rotate_left
        · simp only [Act.put, List.setIfInBounds_toArray, List.set_cons_zero, List.set_cons_succ, i64_w, i32_w]
          rfl
        refine take_ (i := 2) (N := some 43) (v := ?_) (a' := ?_) #[true, true, true, false, true, true, false, false, false] rfl rfl (by kernel_rfl) (fun _ _ _ h => h) (Or.inl ⟨by rfl, ?_⟩) hHeld ?_ ?_
        rotate_left
        · intro w' s0
          go_simp
          with_reducible rfl
        rotate_left
        · simp only [Act.put, List.setIfInBounds_toArray, List.set_cons_zero, List.set_cons_succ, i64_w, i32_w]
          rfl
        refine take_ (i := 6) (N := some 47) (v := ?_) (a' := ?_) #[true, true, true, false, true, true, true, false, false] rfl rfl (by kernel_rfl) (fun _ _ _ h => h) (Or.inl ⟨by rfl, ?_⟩) hHeld ?_ ?_
        rotate_left
        · intro w' s0
          go_simp
          with_reducible rfl
        rotate_left
        · simp only [Act.put, List.setIfInBounds_toArray, List.set_cons_zero, List.set_cons_succ, i64_w, i32_w]
          rfl
        refine one_ (i := 3) (N := some 44) #[true, true, true, true, true, true, true, false, false] rfl rfl (by kernel_rfl) (by decide) (fun K hK => ?_)
        refine goes_ Try.func27 (by kernel_rfl) rfl #[.pointer (some ⟨g, 0, none⟩), .int .i64 xy] (by rfl) rfl rfl (by simp only [List.map_toArray, List.map_cons, List.map_nil]; rfl) ?_
        with_reducible refine (tof_any wd g m n T HTd.out xy HXW.out).mono ?_
        rintro e w4 ⟨rfl, rfl⟩
        refine ⟨_, rfl, ?_⟩
        refine hK.out _ _ (HXd.out) (fun hHeld => ?_)
        clear hK K
        refine norm_ (a' := ?_) ?_ ?_
        rotate_left
        · show Act.put _ (some 44) _ = _
          simp only [Act.put, List.setIfInBounds_toArray, List.set_cons_zero, List.set_cons_succ, i64_w, i32_w]
          rfl
        refine one_ (i := 7) (N := some 48) #[true, true, true, true, true, true, true, true, false] rfl rfl (by kernel_rfl) (by decide) (fun K hK => ?_)
        refine goes_ Try.func28 (by kernel_rfl) rfl #[.slice A l.length c, .int .i64 xy] (by rfl) rfl rfl (by simp only [List.map_toArray, List.map_cons, List.map_nil]; rfl) ?_
        with_reducible refine (octroiref19_Of.calls 5000 A c l xy (T xy) wd HCd.out HLE.out (of_spec19 HG.out HLN.out xy 5000 (by omega))).mono ?_
        rintro e w5 ⟨rfl, hb5⟩
        refine ⟨_, rfl, ?_⟩
        have HB5 := Lib.hid hb5
        have hx5 := hb5.cell (p := ⟨wr.heap.size, 0, none⟩) HBXd.out |>.trans HXd.out
        clear hb5
        refine hK.out _ _ (hx5) (fun hHeld => ?_)
        clear hK K
        refine norm_ (a' := ?_) ?_ ?_
        rotate_left
        · show Act.put _ (some 48) _ = _
          simp only [Act.put, List.setIfInBounds_toArray, List.set_cons_zero, List.set_cons_succ, i64_w, i32_w]
          rfl
        refine pure_ (i := 8) (N := some 49) (v := ?_) (a' := ?_) #[true, true, true, true, true, true, true, true, true] rfl rfl (by kernel_rfl) (fun _ _ _ h => h) (Or.inl ⟨by rfl, ?_⟩) ?_ ?_
        rotate_left
        · intro w'
          go_simp
          with_reducible rfl
        rotate_left
        · simp only [Act.put, List.setIfInBounds_toArray, List.set_cons_zero, List.set_cons_succ, i64_w, i32_w]
          rfl
        refine done_ (by kernel_rfl) ?_

        have hb5 := s_trans HDR.out HB5.out
        have HT5 := Lib.hid (HT3.out.below hb5)
        have HR5 := Lib.hid (Kd.R_below HR3.out hb5)
        have HB5b := Lib.hid (s_trans HB3.out hb5)
        have hx5b := (hb5.cell (p := ⟨wr.heap.size, 1, none⟩) HBX.out).trans HX3B.out
        have HG2 := Lib.hid (good_next HG.out xy xa)
        have HK := Lib.hid (k_next HKT.out xy xa)
        have HLN2 := Lib.hid (Nat.le_trans (next_len l (withE T xy xa) ⟨xy, xa⟩) (by omega : l.length + 1 ≤ k + 1))
        have hadd := fun wx v P h1 h2 => octroiref19_Add.calls 6000 P v l xy xa _ _ w9 wx h1 h2 (add_spec19 HG.out HLN.out xy xa 6000 (Nat.le_refl _))
        have hln : (if withE T xy xa = 0 then l ++ [⟨xy, xa⟩] else l).length ≤ 100 := Nat.le_trans HLN2.out (by omega)
        have hos := over_spec19 HG2.out hln ay aa o 6000 (Nat.le_refl _)
        have hov := fun wx (hx : Tot wx g2 m2 (n + 1) (if withE T xy xa = 0 then upd T xy (withV T xy xa) else T) (if withE T xy xa = 0 then updK K xy (withV T xy xa != 0) else K)) => over_any wx g2 m2 (n + 1) _ hx ay aa o HAW.out
        generalize (if withE T xy xa = 0 then l ++ [⟨xy, xa⟩] else l) = l2 at *
        generalize (if withE T xy xa = 0 then upd T xy (withV T xy xa) else T) = T2 at *
        generalize (if withE T xy xa = 0 then updK K xy (withV T xy xa != 0) else K) = K2 at *
        generalize withE T xy xa = E at *
        generalize overB T2 ay aa o = OB at *
        generalize withE T2 ay aa = E2 at *
        generalize hn2 : n + 1 = n2 at *
        have HAD := Lib.hid hadd
        have HOS := Lib.hid hos
        have HOV := Lib.hid hov
        have HLN3 := Lib.hid hln
        have HN2 := Lib.hid (by omega : n2 ≤ k + 1)
        have HN6 := Lib.hid (by omega : n2 ≤ 1000000)
        have HK3 := Lib.hid (yrs_of HK.out)
        clear hadd hos hov hln hn2 hb5
        go_upto_region 21 with (first
          | (go_at_call 29; refine (HAD.out _ _ _ HB5b.out HR5.out).mono ?_; rintro e w6a ⟨v6, rfl, hr6, hb6, hk6⟩; have HT6a := Lib.hid (tot_kept HT5.out hk6 (fun h => by have := h.2.2.1; have := HLT.out; have := HM2.out; omega) (fun h => by have := h.2.2.1; have := HLT.out; have := HM2.out; omega)); have HR6a := Lib.hid (Kd.R_mono hr6 (fun _ _ => trivial) : Kd.R k53 53 w6a w9.heap.size (fun _ => True) v6 l2); obtain ⟨A2, c2, rfl, hle2, hc2⟩ := Kd.R_reads hr6; have HLE2 := Lib.hid hle2; have HC6a := Lib.hid hc2; have HB6a := Lib.hid hb6; obtain ⟨y0, y1⟩ := cells2 (block_on hb6 HK9.out); clear hr6 hb6 hk6 hle2 hc2)
          | (go_at_call 30; refine (HOV.out _ HT6a.out).mono ?_; rintro e w7a ⟨rfl, hb7⟩; have HT7a := Lib.hid (HT6a.out.below hb7); have HC7a := Lib.hid (Kd.C_below HC6a.out hb7); have HR7a := Lib.hid (Kd.R_below HR6a.out hb7); have HB7a := Lib.hid (s_trans HB6a.out hb7); obtain ⟨y0, y1⟩ := cells2 (block_on HB7a.out HK9.out); clear hb7)
          | (go_at_call 31; refine (octroiref19_Over.calls 6000 A2 c2 l2 ay aa o _ _ w7a HC7a.out HLE2.out HOS.out).mono ?_; rintro e w6 ⟨rfl, hb8⟩; have HT6 := Lib.hid (HT7a.out.below hb8); have HC6 := Lib.hid (Kd.C_below HC7a.out hb8); have HR6 := Lib.hid (Kd.R_below HR7a.out hb8); have HB6 := Lib.hid (s_trans HB7a.out hb8); have hx6 := (cells2 (block_on HB6.out HK9.out)).1; have HBA := Lib.hid (block_lt (block_on HB6.out HK9.out)); clear hb8))
        clear y0 y1 hne1 hx5 hx5b
        have hq1 : (E != E) = false := by simp
        have hq2 : (OB != OB) = false := by simp
        have hq3 : (E2 != E2) = false := by simp
        have hq4 : (T2 ay != T2 ay) = false := by simp
        refine start_ (n := 32) (S := fun w' => w'.cell? ⟨w.heap.size, 0, none⟩ = some (.int .i64 ay)) (ds := []) #[false, false, false, false, false, false, false, false, false, false, false, false, false, false, false, false, false, false, false, false, false, false, false, false, false, false, false, false, false, false, false, false] (by kernel_rfl) rfl rfl (hx6) (fun hHeld => ?_)
        obtain ⟨wd, hwd⟩ : ∃ W, W = w6.drew := ⟨_, rfl⟩
        rw [← hwd] at hHeld
        rw [← hwd]
        have hdr : Below w6.heap.size w6 wd := by rw [hwd]; exact s_drew (Below.refl _ _)
        have HDR := Lib.hid hdr
        clear hwd
        have HTe := Lib.hid (HT6.out.below hdr)
        have HXe := Lib.hid ((hdr.cell (p := ⟨w.heap.size, 0, none⟩) HBA.out).trans hx6)
        have HCe := Lib.hid (Kd.C_below HC6.out hdr)
        have HBAd := Lib.hid (Nat.lt_of_lt_of_le HBA.out hdr.size)
        clear hdr
        refine pure_ (i := 0) (N := some 80) (v := ?_) (a' := ?_) #[true, false, false, false, false, false, false, false, false, false, false, false, false, false, false, false, false, false, false, false, false, false, false, false, false, false, false, false, false, false, false, false] rfl rfl (by kernel_rfl) (fun _ _ _ h => h) (Or.inl ⟨by rfl, ?_⟩) ?_ ?_
        rotate_left
        · intro w'
          go_simp
          with_reducible rfl
        rotate_left
        · simp only [Act.put, List.setIfInBounds_toArray, List.set_cons_zero, List.set_cons_succ, i64_w, i32_w]
          rfl
        refine pure_ (i := 1) (N := some 81) (v := ?_) (a' := ?_) #[true, true, false, false, false, false, false, false, false, false, false, false, false, false, false, false, false, false, false, false, false, false, false, false, false, false, false, false, false, false, false, false] rfl rfl (by kernel_rfl) (fun _ _ _ h => h) (Or.inl ⟨by rfl, ?_⟩) ?_ ?_
        rotate_left
        · intro w'
          go_simp
          with_reducible rfl
        rotate_left
        · simp only [Act.put, List.setIfInBounds_toArray, List.set_cons_zero, List.set_cons_succ, i64_w, i32_w]
          rfl
        refine pure_ (i := 2) (N := some 82) (v := ?_) (a' := ?_) #[true, true, true, false, false, false, false, false, false, false, false, false, false, false, false, false, false, false, false, false, false, false, false, false, false, false, false, false, false, false, false, false] rfl rfl (by kernel_rfl) (fun _ _ _ h => h) (Or.inl ⟨by rfl, ?_⟩) ?_ ?_
        rotate_left
        · intro w'
          go_simp
          with_reducible rfl
        rotate_left
        · simp only [Act.put, List.setIfInBounds_toArray, List.set_cons_zero, List.set_cons_succ, i64_w, i32_w]
          rfl
        refine pure_ (i := 3) (N := some 83) (v := ?_) (a' := ?_) #[true, true, true, true, false, false, false, false, false, false, false, false, false, false, false, false, false, false, false, false, false, false, false, false, false, false, false, false, false, false, false, false] rfl rfl (by kernel_rfl) (fun _ _ _ h => h) (Or.inl ⟨by rfl, ?_⟩) ?_ ?_
        rotate_left
        · intro w'
          go_simp
          with_reducible rfl
        rotate_left
        · simp only [Act.put, List.setIfInBounds_toArray, List.set_cons_zero, List.set_cons_succ, i64_w, i32_w]
          rfl
        refine pure_ (i := 4) (N := some 84) (v := ?_) (a' := ?_) #[true, true, true, true, true, false, false, false, false, false, false, false, false, false, false, false, false, false, false, false, false, false, false, false, false, false, false, false, false, false, false, false] rfl rfl (by kernel_rfl) (fun _ _ _ h => h) (Or.inl ⟨by rfl, ?_⟩) ?_ ?_
        rotate_left
        · intro w'
          go_simp
          with_reducible rfl
        rotate_left
        · simp only [Act.put, List.setIfInBounds_toArray, List.set_cons_zero, List.set_cons_succ, i64_w, i32_w]
          rfl
        refine pure_ (i := 5) (N := some 85) (v := ?_) (a' := ?_) #[true, true, true, true, true, true, false, false, false, false, false, false, false, false, false, false, false, false, false, false, false, false, false, false, false, false, false, false, false, false, false, false] rfl rfl (by kernel_rfl) (fun _ _ _ h => h) (Or.inl ⟨by rfl, ?_⟩) ?_ ?_
        rotate_left
        · intro w'
          go_simp
          with_reducible rfl
        rotate_left
        · simp only [Act.put, List.setIfInBounds_toArray, List.set_cons_zero, List.set_cons_succ, i64_w, i32_w]
          rfl
        refine pure_ (i := 6) (N := some 86) (v := ?_) (a' := ?_) #[true, true, true, true, true, true, true, false, false, false, false, false, false, false, false, false, false, false, false, false, false, false, false, false, false, false, false, false, false, false, false, false] rfl rfl (by kernel_rfl) (fun _ _ _ h => h) (Or.inl ⟨by rfl, ?_⟩) ?_ ?_
        rotate_left
        · intro w'
          go_simp
          with_reducible rfl
        rotate_left
        · simp only [Act.put, List.setIfInBounds_toArray, List.set_cons_zero, List.set_cons_succ, i64_w, i32_w]
          rfl
        refine pure_ (i := 7) (N := some 87) (v := ?_) (a' := ?_) #[true, true, true, true, true, true, true, true, false, false, false, false, false, false, false, false, false, false, false, false, false, false, false, false, false, false, false, false, false, false, false, false] rfl rfl (by kernel_rfl) (fun _ _ _ h => h) (Or.inl ⟨by rfl, ?_⟩) ?_ ?_
        rotate_left
        · intro w'
          go_simp
          with_reducible rfl
        rotate_left
        · simp only [Act.put, List.setIfInBounds_toArray, List.set_cons_zero, List.set_cons_succ, i64_w, i32_w]
          rfl
        refine pure_ (i := 8) (N := some 88) (v := ?_) (a' := ?_) #[true, true, true, true, true, true, true, true, true, false, false, false, false, false, false, false, false, false, false, false, false, false, false, false, false, false, false, false, false, false, false, false] rfl rfl (by kernel_rfl) (fun _ _ _ h => h) (Or.inl ⟨by rfl, ?_⟩) ?_ ?_
        rotate_left
        · intro w'
          go_simp
          with_reducible rfl
        rotate_left
        · simp only [Act.put, List.setIfInBounds_toArray, List.set_cons_zero, List.set_cons_succ, i64_w, i32_w]
          rfl
        refine pure_ (i := 9) (N := some 89) (v := ?_) (a' := ?_) #[true, true, true, true, true, true, true, true, true, true, false, false, false, false, false, false, false, false, false, false, false, false, false, false, false, false, false, false, false, false, false, false] rfl rfl (by kernel_rfl) (fun _ _ _ h => h) (Or.inl ⟨by rfl, ?_⟩) ?_ ?_
        rotate_left
        · intro w'
          go_simp
          with_reducible rfl
        rotate_left
        · simp only [Act.put, List.setIfInBounds_toArray, List.set_cons_zero, List.set_cons_succ, i64_w, i32_w]
          rfl
        refine pure_ (i := 10) (N := some 90) (v := ?_) (a' := ?_) #[true, true, true, true, true, true, true, true, true, true, true, false, false, false, false, false, false, false, false, false, false, false, false, false, false, false, false, false, false, false, false, false] rfl rfl (by kernel_rfl) (fun _ _ _ h => h) (Or.inl ⟨by rfl, ?_⟩) ?_ ?_
        rotate_left
        · intro w'
          go_simp
          with_reducible rfl
        rotate_left
        · simp only [Act.put, List.setIfInBounds_toArray, List.set_cons_zero, List.set_cons_succ, i64_w, i32_w]
          rfl
        refine pure_ (i := 11) (N := some 91) (v := ?_) (a' := ?_) #[true, true, true, true, true, true, true, true, true, true, true, true, false, false, false, false, false, false, false, false, false, false, false, false, false, false, false, false, false, false, false, false] rfl rfl (by kernel_rfl) (fun _ _ _ h => h) (Or.inl ⟨by rfl, ?_⟩) ?_ ?_
        rotate_left
        · intro w'
          go_simp
          with_reducible rfl
        rotate_left
        · simp only [Act.put, List.setIfInBounds_toArray, List.set_cons_zero, List.set_cons_succ, i64_w, i32_w]
          rfl
        refine pure_ (i := 12) (N := some 92) (v := ?_) (a' := ?_) #[true, true, true, true, true, true, true, true, true, true, true, true, true, false, false, false, false, false, false, false, false, false, false, false, false, false, false, false, false, false, false, false] rfl rfl (by kernel_rfl) (fun _ _ _ h => h) (Or.inl ⟨by rfl, ?_⟩) ?_ ?_
        rotate_left
        · intro w'
          go_simp
          with_reducible rfl
        rotate_left
        · simp only [Act.put, List.setIfInBounds_toArray, List.set_cons_zero, List.set_cons_succ, i64_w, i32_w]
          rfl
        refine pure_ (i := 13) (N := some 93) (v := ?_) (a' := ?_) #[true, true, true, true, true, true, true, true, true, true, true, true, true, true, false, false, false, false, false, false, false, false, false, false, false, false, false, false, false, false, false, false] rfl rfl (by kernel_rfl) (fun _ _ _ h => h) (Or.inl ⟨by rfl, ?_⟩) ?_ ?_
        rotate_left
        · intro w'
          go_simp
          with_reducible rfl
        rotate_left
        · simp only [Act.put, List.setIfInBounds_toArray, List.set_cons_zero, List.set_cons_succ, i64_w, i32_w]
          rfl
        refine pure_ (i := 14) (N := some 94) (v := ?_) (a' := ?_) #[true, true, true, true, true, true, true, true, true, true, true, true, true, true, true, false, false, false, false, false, false, false, false, false, false, false, false, false, false, false, false, false] rfl rfl (by kernel_rfl) (fun _ _ _ h => h) (Or.inl ⟨by rfl, ?_⟩) ?_ ?_
        rotate_left
        · intro w'
          go_simp
          with_reducible rfl
        rotate_left
        · simp only [Act.put, List.setIfInBounds_toArray, List.set_cons_zero, List.set_cons_succ, i64_w, i32_w]
          rfl
        refine pure_ (i := 15) (N := some 95) (v := ?_) (a' := ?_) #[true, true, true, true, true, true, true, true, true, true, true, true, true, true, true, true, false, false, false, false, false, false, false, false, false, false, false, false, false, false, false, false] rfl rfl (by kernel_rfl) (fun _ _ _ h => h) (Or.inl ⟨by rfl, ?_⟩) ?_ ?_
        rotate_left
        · intro w'
          go_simp
          with_reducible rfl
        rotate_left
        · simp only [Act.put, List.setIfInBounds_toArray, List.set_cons_zero, List.set_cons_succ, i64_w, i32_w]
          rfl
        refine pure_ (i := 18) (N := some 98) (v := ?_) (a' := ?_) #[true, true, true, true, true, true, true, true, true, true, true, true, true, true, true, true, false, false, true, false, false, false, false, false, false, false, false, false, false, false, false, false] rfl rfl (by kernel_rfl) (fun _ _ _ h => h) (Or.inl ⟨by rfl, ?_⟩) ?_ ?_
        rotate_left
        · intro w'
          go_simp
          with_reducible rfl
        rotate_left
        · simp only [Act.put, List.setIfInBounds_toArray, List.set_cons_zero, List.set_cons_succ, i64_w, i32_w]
          rfl
        refine pure_ (i := 19) (N := some 99) (v := ?_) (a' := ?_) #[true, true, true, true, true, true, true, true, true, true, true, true, true, true, true, true, false, false, true, true, false, false, false, false, false, false, false, false, false, false, false, false] rfl rfl (by kernel_rfl) (fun _ _ _ h => h) (Or.inl ⟨by rfl, ?_⟩) ?_ ?_
        rotate_left
        · intro w'
          go_simp
          with_reducible rfl
        rotate_left
        · simp only [Act.put, List.setIfInBounds_toArray, List.set_cons_zero, List.set_cons_succ, i64_w, i32_w]
          rfl
        refine take_ (i := 16) (N := some 96) (v := ?_) (a' := ?_) #[true, true, true, true, true, true, true, true, true, true, true, true, true, true, true, true, true, false, true, true, false, false, false, false, false, false, false, false, false, false, false, false] rfl rfl (by kernel_rfl) (fun _ _ _ h => h) (Or.inl ⟨by rfl, ?_⟩) hHeld ?_ ?_
        rotate_left
        · intro w' s0
          go_simp
          with_reducible rfl
        rotate_left
        · simp only [Act.put, List.setIfInBounds_toArray, List.set_cons_zero, List.set_cons_succ, i64_w, i32_w]
          rfl
        refine take_ (i := 20) (N := some 100) (v := ?_) (a' := ?_) #[true, true, true, true, true, true, true, true, true, true, true, true, true, true, true, true, true, false, true, true, true, false, false, false, false, false, false, false, false, false, false, false] rfl rfl (by kernel_rfl) (fun _ _ _ h => h) (Or.inl ⟨by rfl, ?_⟩) hHeld ?_ ?_
        rotate_left
        · intro w' s0
          go_simp
          with_reducible rfl
        rotate_left
        · simp only [Act.put, List.setIfInBounds_toArray, List.set_cons_zero, List.set_cons_succ, i64_w, i32_w]
          rfl
        refine one_ (i := 17) (N := some 97) #[true, true, true, true, true, true, true, true, true, true, true, true, true, true, true, true, true, true, true, true, true, false, false, false, false, false, false, false, false, false, false, false] rfl rfl (by kernel_rfl) (by decide) (fun K hK => ?_)
        refine goes_ Try.func27 (by kernel_rfl) rfl #[.pointer (some ⟨g2, 0, none⟩), .int .i64 ay] (by rfl) rfl rfl (by simp only [List.map_toArray, List.map_cons, List.map_nil]; rfl) ?_
        with_reducible refine (tof_any _ g2 m2 (n2) T2 HTe.out ay HAW.out).mono ?_
        rintro e w4 ⟨rfl, rfl⟩
        refine ⟨_, rfl, ?_⟩
        refine hK.out _ _ (HXe.out) (fun hHeld => ?_)
        clear hK K
        refine norm_ (a' := ?_) ?_ ?_
        rotate_left
        · show Act.put _ (some 97) _ = _
          simp only [Act.put, List.setIfInBounds_toArray, List.set_cons_zero, List.set_cons_succ, i64_w, i32_w]
          rfl
        refine one_ (i := 21) (N := some 101) #[true, true, true, true, true, true, true, true, true, true, true, true, true, true, true, true, true, true, true, true, true, true, false, false, false, false, false, false, false, false, false, false] rfl rfl (by kernel_rfl) (by decide) (fun K hK => ?_)
        refine goes_ Try.func28 (by kernel_rfl) rfl #[.slice A2 l2.length c2, .int .i64 ay] (by rfl) rfl rfl (by simp only [List.map_toArray, List.map_cons, List.map_nil]; rfl) ?_
        with_reducible refine (octroiref19_Of.calls 5000 A2 c2 l2 ay (T2 ay) _ HCe.out HLE2.out (of_spec19 HG2.out HLN3.out ay 5000 (by omega))).mono ?_
        rintro e w5 ⟨rfl, hb5⟩
        refine ⟨_, rfl, ?_⟩
        have HT5 := Lib.hid (HTe.out.below hb5)
        have HC5 := Lib.hid (Kd.C_below HCe.out hb5)
        have HB5 := Lib.hid hb5
        have hx5 := hb5.cell (p := ⟨w.heap.size, 0, none⟩) HBAd.out |>.trans HXe.out
        clear hb5
        refine hK.out _ _ (hx5) (fun hHeld => ?_)
        clear hK K
        refine norm_ (a' := ?_) ?_ ?_
        rotate_left
        · show Act.put _ (some 101) _ = _
          simp only [Act.put, List.setIfInBounds_toArray, List.set_cons_zero, List.set_cons_succ, i64_w, i32_w]
          rfl
        refine pure_ (i := 22) (N := some 102) (v := ?_) (a' := ?_) #[true, true, true, true, true, true, true, true, true, true, true, true, true, true, true, true, true, true, true, true, true, true, true, false, false, false, false, false, false, false, false, false] rfl rfl (by kernel_rfl) (fun _ _ _ h => h) (Or.inl ⟨by rfl, ?_⟩) ?_ ?_
        rotate_left
        · intro w'
          go_simp
          with_reducible rfl
        rotate_left
        · simp only [Act.put, List.setIfInBounds_toArray, List.set_cons_zero, List.set_cons_succ, i64_w, i32_w]
          rfl
        refine pure_ (i := 23) (N := some 103) (v := ?_) (a' := ?_) #[true, true, true, true, true, true, true, true, true, true, true, true, true, true, true, true, true, true, true, true, true, true, true, true, false, false, false, false, false, false, false, false] rfl rfl (by kernel_rfl) (fun _ _ _ h => h) (Or.inl ⟨by rfl, ?_⟩) ?_ ?_
        rotate_left
        · intro w'
          go_simp
          with_reducible rfl
        rotate_left
        · simp only [Act.put, List.setIfInBounds_toArray, List.set_cons_zero, List.set_cons_succ, i64_w, i32_w]
          rfl
        refine pure_ (i := 24) (N := some 104) (v := ?_) (a' := ?_) #[true, true, true, true, true, true, true, true, true, true, true, true, true, true, true, true, true, true, true, true, true, true, true, true, true, false, false, false, false, false, false, false] rfl rfl (by kernel_rfl) (fun _ _ _ h => h) (Or.inl ⟨by rfl, ?_⟩) ?_ ?_
        rotate_left
        · intro w'
          go_simp
          with_reducible rfl
        rotate_left
        · simp only [Act.put, List.setIfInBounds_toArray, List.set_cons_zero, List.set_cons_succ, i64_w, i32_w]
          rfl
        refine pure_ (i := 25) (N := some 105) (v := ?_) (a' := ?_) #[true, true, true, true, true, true, true, true, true, true, true, true, true, true, true, true, true, true, true, true, true, true, true, true, true, true, false, false, false, false, false, false] rfl rfl (by kernel_rfl) (fun _ _ _ h => h) (Or.inl ⟨by rfl, ?_⟩) ?_ ?_
        rotate_left
        · intro w'
          go_simp
          with_reducible rfl
        rotate_left
        · simp only [Act.put, List.setIfInBounds_toArray, List.set_cons_zero, List.set_cons_succ, i64_w, i32_w]
          rfl
        refine pure_ (i := 27) (N := some 107) (v := ?_) (a' := ?_) #[true, true, true, true, true, true, true, true, true, true, true, true, true, true, true, true, true, true, true, true, true, true, true, true, true, true, false, true, false, false, false, false] rfl rfl (by kernel_rfl) (fun _ _ _ h => h) (Or.inl ⟨by rfl, ?_⟩) ?_ ?_
        rotate_left
        · intro w'
          go_simp
          with_reducible rfl
        rotate_left
        · simp only [Act.put, List.setIfInBounds_toArray, List.set_cons_zero, List.set_cons_succ, i64_w, i32_w]
          rfl
        refine one_ (i := 26) (N := some 106) #[true, true, true, true, true, true, true, true, true, true, true, true, true, true, true, true, true, true, true, true, true, true, true, true, true, true, true, true, false, false, false, false] rfl rfl (by kernel_rfl) (by decide) (fun K hK => ?_)
        refine goes_ Try.func33 (by kernel_rfl) rfl #[.pointer (some ⟨g2, 0, none⟩)] (by rfl) rfl rfl (by simp only [List.map_toArray, List.map_cons, List.map_nil]; rfl) ?_
        with_reducible refine (years_any _ g2 m2 (n2) T2 HT5.out HN6.out).mono ?_
        rintro e wy ⟨A6, c6, zs, rfl, hle6, hc6, hys, hb6⟩
        refine ⟨_, rfl, ?_⟩
        have HC62 := Lib.hid (Kd.C_below HC5.out hb6)
        have HBY := Lib.hid (s_trans HB5.out hb6)
        have hx62 := hb6.cell (p := ⟨w.heap.size, 0, none⟩) (Nat.lt_of_lt_of_le HBAd.out HB5.out.size) |>.trans hx5
        have HZ6 := Lib.hid hc6
        have HLZ := Lib.hid hle6
        obtain ⟨ys, hyf, hyy⟩ := years_spec HG2.out HLN3.out 20000 (by omega)
        obtain rfl : zs = ys := Yrs.uniq (HK3.out _ hys) hyy
        have HYF := Lib.hid hyf
        have HZN := Lib.hid (yrs_length HG2.out hyy)
        clear hb6 hc6 hle6 hys hyf hyy
        refine hK.out _ _ (hx62) (fun hHeld => ?_)
        clear hK K
        refine norm_ (a' := ?_) ?_ ?_
        rotate_left
        · show Act.put _ (some 106) _ = _
          simp only [Act.put, List.setIfInBounds_toArray, List.set_cons_zero, List.set_cons_succ, i64_w, i32_w]
          rfl
        refine one_ (i := 28) (N := some 108) #[true, true, true, true, true, true, true, true, true, true, true, true, true, true, true, true, true, true, true, true, true, true, true, true, true, true, true, true, true, false, false, false] rfl rfl (by kernel_rfl) (by decide) (fun K hK => ?_)
        refine goes_ Try.func34 (by kernel_rfl) rfl #[.slice A2 l2.length c2] (by rfl) rfl rfl (by simp only [List.map_toArray, List.map_cons, List.map_nil]; rfl) ?_
        with_reducible refine (octroiref19_Years.calls 20000 A2 c2 l2 zs _ HC62.out HLE2.out HYF.out).mono ?_
        rintro e w7 ⟨v7, rfl, hr7, hb7⟩
        refine ⟨_, rfl, ?_⟩
        obtain ⟨A7, c7, rfl, hle7, hc7⟩ := Kd.R_reads hr7
        have HC7 := Lib.hid hc7
        have HLZ7 := Lib.hid hle7
        have HZ7 := Lib.hid (Kd.C_below HZ6.out hb7)
        have HB7 := Lib.hid (s_trans HBY.out hb7)
        have hx7 := hb7.cell (p := ⟨w.heap.size, 0, none⟩) (Nat.lt_of_lt_of_le HBAd.out HBY.out.size) |>.trans hx62
        clear hb7 hc7 hle7 hr7
        refine hK.out _ _ (hx7) (fun hHeld => ?_)
        clear hK K
        refine norm_ (a' := ?_) ?_ ?_
        rotate_left
        · show Act.put _ (some 108) _ = _
          simp only [Act.put, List.setIfInBounds_toArray, List.set_cons_zero, List.set_cons_succ, i64_w, i32_w]
          rfl
        refine one_ (i := 29) (N := some 109) #[true, true, true, true, true, true, true, true, true, true, true, true, true, true, true, true, true, true, true, true, true, true, true, true, true, true, true, true, true, true, false, false] rfl rfl (by kernel_rfl) (by decide) (fun K hK => ?_)
        refine goes_ Try.func32 (by kernel_rfl) rfl #[.slice A6 zs.length c6, .slice A7 zs.length c7] (by rfl) rfl rfl (by simp only [List.map_toArray, List.map_cons, List.map_nil]; rfl) ?_
        with_reducible refine (octroiref03_Same.calls (zs.length + 1) A6 c6 zs A7 c7 zs true _ HZ7.out HLZ.out HC7.out HLZ7.out (same_spec zs HZN.out _ (Nat.le_refl _))).mono ?_
        rintro e w8 ⟨rfl, hb8⟩
        refine ⟨_, rfl, ?_⟩
        have HB8 := Lib.hid (s_trans HB7.out hb8.below)
        have hx8 := hb8.below.cell (p := ⟨w.heap.size, 0, none⟩) (Nat.lt_of_lt_of_le HBAd.out HB7.out.size) |>.trans hx7
        clear hb8
        refine hK.out _ _ (hx8) (fun hHeld => ?_)
        clear hK K
        refine norm_ (a' := ?_) ?_ ?_
        rotate_left
        · show Act.put _ (some 109) _ = _
          simp only [Act.put, List.setIfInBounds_toArray, List.set_cons_zero, List.set_cons_succ, i64_w, i32_w]
          rfl
        refine pure_ (i := 30) (N := some 110) (v := ?_) (a' := ?_) #[true, true, true, true, true, true, true, true, true, true, true, true, true, true, true, true, true, true, true, true, true, true, true, true, true, true, true, true, true, true, true, false] rfl rfl (by kernel_rfl) (fun _ _ _ h => h) (Or.inl ⟨by rfl, ?_⟩) ?_ ?_
        rotate_left
        · intro w'
          go_simp
          with_reducible rfl
        rotate_left
        · simp only [Act.put, List.setIfInBounds_toArray, List.set_cons_zero, List.set_cons_succ, i64_w, i32_w]
          rfl
        refine pure_ (i := 31) (N := some 111) (v := ?_) (a' := ?_) #[true, true, true, true, true, true, true, true, true, true, true, true, true, true, true, true, true, true, true, true, true, true, true, true, true, true, true, true, true, true, true, true] rfl rfl (by kernel_rfl) (fun _ _ _ h => h) (Or.inl ⟨by rfl, ?_⟩) ?_ ?_
        rotate_left
        · intro w'
          go_simp
          with_reducible rfl
        rotate_left
        · simp only [Act.put, List.setIfInBounds_toArray, List.set_cons_zero, List.set_cons_succ, i64_w, i32_w]
          rfl
        refine done_ (by kernel_rfl) ?_

        go_wp2
        go_roundw
        case rel => exact ⟨k + 1, g2, m2, n2, T2, K2, l2, by omega, by go_num, rfl, HN2.out, by have := HLT.out; have := HM2.out; omega, by have := HLT.out; have := HM2.out; omega, HLN2.out, HTe.out.below HB8.out, HG2, HK, Kd.R_below (Kd.R_below HR6.out HDR.out) HB8.out, s_trans (s_trans HB6.out HDR.out) HB8.out⟩
        case measure => simp [intOf]; omega
  · have d1 : decide ((60 : Int) < (l0.length : Int)) = true := decide_eq_true (by omega)
    have d2 : ((l0.length : Int) ≤ 60) = False := eq_false (by omega)
    go_enter Try.func5, Try.ntmps5
    go_wp2_with (go_at_call 23; refine (lives_any _).mono ?_; rintro e w5 ⟨rfl, hb⟩; have HB5 := Lib.hid hb; clear hb)
    go_ret
    exact ⟨rfl, s_trans (s_alloc (Below.refl _ _) _) HB5.out⟩
end Go.Proofs.Ytbjoegladcmibaa.ThA
