/-
  CheckerOrder: what an order is; the law's walk.
-/
import Derived.Test.YtepddfkdjdklnaaQCh33
namespace Go.Proofs.Ytepddfkdjdklnaa.Ch
set_option linter.unusedVariables false
set_option linter.unusedSimpArgs false
set_option linter.unnecessarySimpa false
open Go.RowKit Go.Maps Go.Proofs.YtepddfkdjdklnaaK Go.Proofs.Ytepddfkdjdklnaa.PCheckerOrder Go.Proofs.YtepddfkdjdklnaaW.PrintWords Go.Proofs.YtepddfkdjdklnaaW.PrintLast Go.Sort

/-- Each comes behind what it needs. -/
def Valid (ns : List (List Nat)) : List Bool → List Nat → Prop
  | _, [] => True
  | ds, i :: s => (∃ h : i < ns.length, ready ds ns[i] i = true) ∧ Valid ns (ds.set i true) s
theorem nextOf_spec (ds : List Bool) : ∀ (qs : List (List Nat)) (j k : Nat), nextOf ds qs j = some k → ∃ h : k - j < qs.length, j ≤ k ∧ ready ds qs[k - j] k = true
  | [], j, k, h => by cases h
  | q :: qs, j, k, h => by
    rw [nextOf] at h
    split at h
    · rename_i hr
      cases h
      exact ⟨by simp, Nat.le_refl _, by simpa using hr⟩
    · obtain ⟨h1, h2, h3⟩ := nextOf_spec ds qs (j + 1) k h
      refine ⟨by rw [List.length_cons]; omega, by omega, ?_⟩
      have e : k - j = (k - (j + 1)) + 1 := by omega
      simp only [e, List.getElem_cons_succ]
      exact h3
theorem arrF_valid (ns : List (List Nat)) : ∀ (f : Nat) (ds : List Bool) (o r : List Nat), o.length ≤ ns.length → arrF ns f ds o = some r → ∃ s, r = o ++ s ∧ Valid ns ds s ∧ r.length = ns.length
  | 0, ds, o, r, ho, h => by cases h
  | f + 1, ds, o, r, ho, h => by
    rw [arrF] at h
    split at h
    · rename_i hlt
      cases hn : nextOf ds ns 0 with
      | none => rw [hn] at h; cases h
      | some i =>
        rw [hn] at h
        obtain ⟨s, h1, h2, h3⟩ := arrF_valid ns f (ds.set i true) (o ++ [i]) r (by simp; omega) h
        obtain ⟨h4, _, h5⟩ := nextOf_spec ds ns 0 i hn
        refine ⟨i :: s, by rw [h1]; simp, ⟨⟨h4, h5⟩, h2⟩, h3⟩
    · cases h
      exact ⟨[], by simp, trivial, by omega⟩
theorem arr_valid {ns : List (List Nat)} {o : List Nat} (h : arr ns = some o) : Valid ns (List.replicate ns.length false) o ∧ o.length = ns.length := by
  obtain ⟨s, h1, h2, h3⟩ := arrF_valid ns _ _ [] o (by simp) h
  rw [List.nil_append] at h1
  exact ⟨by rw [h1]; exact h2, h3⟩
theorem Valid.at {ns : List (List Nat)} {ds : List Bool} {o : List Nat} {k : Nat} (h : Valid ns ds (o.drop k)) (hk : k < o.length) : (∃ h : o[k] < ns.length, ready ds ns[o[k]] o[k] = true) ∧ Valid ns (ds.set o[k] true) (o.drop (k + 1)) := by
  rw [List.drop_eq_getElem_cons hk] at h
  exact h
set_option maxRecDepth 100000 in
set_option maxHeartbeats 8000000 in
theorem order_any (w : World) (A : Option Addr) (c : Nat) (l : List S43) (hr : Kd.C k43 w A l.length l) (hc : l.length ≤ c) (hl : l.length ≤ 140737488351232) (hf : ∀ x ∈ l, Fit x.f1) :
    Calls Try.prog 3 #[.slice A l.length c] w fun e w' => e = .returned (.bool true) ∧ Below w.heap.size w w' := by
  obtain ⟨a, r, hfew, hmean⟩ := Few_at l hl hf
  have hF := octroilaw31_Few.calls a A c l r w hr hc hfew
  cases r with
  | false =>
    have HF := Lib.hid hF
    clear hF hr hc hmean hfew hf hl
    go_enter Try.func3, Try.ntmps3
    go_wp2_with (first
      | (go_at_call 5; refine HF.out.mono ?_; rintro e w1 ⟨rfl, hb1⟩; have HB1 := Lib.hid hb1; clear hb1)
      | (go_at_call 6; refine (lives_any _).mono ?_; rintro e w2 ⟨rfl, hb2⟩; have HB2 := Lib.hid (s_trans HB1.out hb2); clear hb2))
    go_ret
    exact ⟨rfl, HB2.out⟩
  | true =>
    obtain ⟨hlen, hsm⟩ := hmean rfl
    have hsmall := fun x hx => (small_of x.f1 400 (hsm x hx).2 (by omega)).1
    have hrefs : ∀ x ∈ l, (refsB x.f1).length ≤ 1000000 := fun x hx => by
      have h1 := (small_of x.f1 400 (hsm x hx).2 (by omega)).2
      have h2 := (hsm x hx).2
      omega
    have hchk := fun W (hb : Below w.heap.size w W) => check_any W A c l (Kd.C_below hr hb) hc hsmall hrefs
    have HF := Lib.hid hF
    have HCHK := Lib.hid hchk
    have HREFS := Lib.hid hrefs
    clear hF hr hmean hfew hf hl hsm hsmall hrefs hchk
    go_enter Try.func3, Try.ntmps3
    go_upto_region 3 with (go_at_call 5; refine HF.out.mono ?_; rintro e w1 ⟨rfl, hb1⟩; have HB1 := Lib.hid hb1; clear hb1)
    by_cases he : checkE l = 0
    · have hck : Calls Try.prog 7 #[.slice A l.length c] w1 fun e w' => ∃ p o, arr (needsL l) = some o ∧ e = .returned (.tuple #[.pointer (some ⟨p, 0, none⟩), .int .i64 0]) ∧ PlanIn w' p l o ∧ Below w1.heap.size w1 w' := (HCHK.out w1 HB1.out).mono fun e w' h => by
        obtain ⟨h1, h2⟩ := h
        rcases h2 with ⟨h2, _⟩ | ⟨_, p, o, h3, h4, h5⟩
        · exact absurd he h2
        · exact ⟨p, o, h3, h4, h5, h1⟩
      have hok : l.all (okN (nums l)) = true := by
        unfold checkE at he
        split at he
        · cases he
        split at he
        · cases he
        split at he
        · cases he
        · rename_i h
          simpa using h
      have HCK := Lib.hid hck
      have HNI := Lib.hid (needsL_in hok HREFS.out)
      have hnl : (needsL l).length = l.length := by unfold needsL; rw [List.length_map]
      have HNL := Lib.hid hnl
      clear hck he hok hnl
      obtain ⟨i0, hi0, hz0, hzs, hzb⟩ := info_parts infoI
      obtain ⟨b0, hb0, bz0, bzs, bzb⟩ := info_parts infoB
      go_upto_region 6 with (go_at_call 7; refine HCK.out.mono ?_; rintro e w2 ⟨p, o, ho, rfl, hp, hb2⟩; have HB2 := Lib.hid (s_trans HB1.out hb2); have HP := Lib.hid hp; have HO := Lib.hid ho; clear hb2 hp ho)
      have hmk := run_make (P := Try.prog) w2 29 4 b0 _ Try.underlying29 hb0 bz0 .i64 .i64 (l.length : Int) (l.length : Int) (by omega) (Int.le_refl _) (by rw [bzb]; omega) (by omega)
      rw [bzs, Nat.mul_one, Int.toNat_natCast] at hmk
      have hval := arr_valid HO.out
      rw [HNL.out] at hval
      obtain ⟨n, hnn⟩ : ∃ n, l.length = n := ⟨_, rfl⟩
      obtain ⟨wa, hwa⟩ : ∃ W : World, W = (w2.alloc (.cells (madeCells #[Value.bool false] n) 4)) := ⟨_, rfl⟩
      have hga : wa.heap[w2.heap.size]? = some (.cells ((List.replicate n false).map Value.bool).toArray 4 (0, 0)) := by
        rw [hwa]
        have h : (w2.alloc (.cells (madeCells #[Value.bool false] n) 4)).heap[w2.heap.size]? = some (.cells (madeCells #[Value.bool false] n) 4 (0, 0)) := Array.getElem?_push_size
        rw [h]
        congr 2
        unfold madeCells
        rw [List.map_replicate]
        refine Array.ext (by simp) (fun i h1 h2 => ?_)
        simp [Nat.mod_one]
      have hba : Below w2.heap.size w2 wa := by rw [hwa]; exact s_alloc (Below.refl _ _) _
      rw [hnn] at hmk hval hlen HNL
      have HGA := Lib.hid hga
      have HBA := Lib.hid hba
      have HV := Lib.hid hval.1
      have hol := hval.2
      have HOR := Lib.hid (order_plan wa p l o (HP.out.below hba) (by omega))
      simp only [hnn]
      have HNN := Lib.hid hnn
      have hcn : n ≤ c := by omega
      clear hc hga hba hval hnn
      go_upto_region 7 with fail
      rw [← hwa]
      clear hwa hmk
      go_wp2_with (go_at_call 8; refine HOR.out.mono ?_; rintro e w3 ⟨v, rfl, hv, hb3⟩; obtain ⟨adv, capv, rfl⟩ := own_slice hv; have HOV := Lib.hid hv; have HB3 := Lib.hid hb3; clear hv hb3)
      have hz2 : wa.heap.size ≥ w2.heap.size := HBA.out.size
      go_loopw [32] (fun i wr => ∃ (k : Nat) (ds : List Bool), k ≤ o.length ∧ i = .int .i64 k ∧ ds.length = n ∧ Hid (Below w2.heap.size w2 wr) ∧ Hid (wr.heap[w2.heap.size]? = some (.cells (ds.map Value.bool).toArray 4 (0, 0))) ∧ Hid (wr.ownsRow wa.heap.size 3 1 (.slice adv o.length capv) o.length (intV o)) ∧ Hid (Valid (needsL l) ds (o.drop k))) (fun i _ => o.length - (intOf i).toNat)
      case atStart => exact ⟨0, List.replicate n false, Nat.zero_le _, rfl, by simp, Lib.hid (s_trans HBA.out HB3.out), Lib.hid (block_on HB3.out HGA.out), HOV, by rw [List.drop_zero]; exact HV⟩
      case round =>
        obtain ⟨k, ds, hk, rfl, hds, HBr, HGr, HOr, HVr⟩ := hrel
        by_cases hlt : k < o.length
        · obtain ⟨g1, cap1, u, e1, hoc, _, _, hu, q0⟩ := own_at HOr.out hlt
          rw [intV, List.getElem?_map, List.getElem?_eq_getElem hlt] at hu
          obtain rfl := Option.some.inj hu
          cases e1
          obtain ⟨⟨hin, hrdy⟩, hvn⟩ := HVr.out.at hlt
          have hneeds := needs_plan wr p l o o[k] hin (HP.out.below HBr.out) (HNI.out _ (List.getElem_mem hin)).1
          have hnx := (HNI.out _ (List.getElem_mem hin)).2
          have hql := (HNI.out _ (List.getElem_mem hin)).1
          have hi2 : o[k] < n := by rw [← HNL.out]; exact hin
          unfold ready at hrdy
          rw [Bool.and_eq_true, Bool.not_eq_true', Bool.not_eq_true'] at hrdy
          generalize (needsL l)[o[k]] = q at *
          generalize o[k] = i at *
          have hcell : wr.cell? ⟨w2.heap.size, i, none⟩ = some (.bool false) := by
            rw [block_cell HGr.out, ← hrdy.1]
            simp [hds, hi2]
          have HRD := Lib.hid hrdy
          have HVN := Lib.hid hvn
          have HNE := Lib.hid hneeds
          have HNX := Lib.hid hnx
          have d1 : decide ((i : Int) < 0) = false := decide_eq_false (by omega)
          have d2 : decide ((n : Int) ≤ i) = false := decide_eq_false (by omega)
          clear hrdy hvn hneeds hnx hin hu
          go_wp2_with (go_at_call 9; refine HNE.out.mono ?_; rintro e w4 ⟨v4, rfl, hv4, hb4⟩; obtain ⟨ad4, cap4, rfl⟩ := own_slice hv4; have HO4 := Lib.hid hv4; have HB4 := Lib.hid hb4; clear hv4 hb4)
          clear hcell q0
          have HW4 := Lib.hid (block_on HB4.out HGr.out)
          go_loopw [54] (fun v wx => ∃ j : Nat, j ≤ q.length ∧ v = .int .i64 j ∧ Hid (Below w4.heap.size w4 wx)) (fun v _ => q.length - (intOf v).toNat)
          case atStart => exact ⟨0, Nat.zero_le _, rfl, Lib.hid (Below.refl _ _)⟩
          case round =>
            obtain ⟨j, hj, rfl, HBj⟩ := hrel
            by_cases hjt : j < q.length
            · obtain ⟨g5, cap5, u5, e5, hqc, _, _, hu5, q0⟩ := own_at (own_on HO4.out HBj.out) hjt
              rw [intV, List.getElem?_map, List.getElem?_eq_getElem hjt] at hu5
              obtain rfl := Option.some.inj hu5
              cases e5
              have hx : q[j] < n := by rw [← HNL.out]; exact HNX.out _ (List.getElem_mem hjt)
              have hdone : ds.getD q[j] false = true := by
                have h1 := HRD.out.2
                unfold lacks at h1
                have := List.any_eq_false.1 h1 _ (List.getElem_mem hjt)
                simpa using this
              generalize q[j] = x at *
              have hcell : wr.cell? ⟨w2.heap.size, x, none⟩ = some (.bool true) := by
                rw [block_cell (block_on HBj.out HW4.out), ← hdone]
                simp [hds, hx]
              have e1 : decide ((x : Int) < 0) = false := decide_eq_false (by omega)
              have e2 : decide ((n : Int) ≤ x) = false := decide_eq_false (by omega)
              clear hdone hu5
              go_wp2
              go_roundw
              case rel => exact ⟨j + 1, by omega, by go_num, HBj⟩
              case measure => simp [intOf]; omega
            · obtain rfl : j = q.length := by omega
              have HX := Lib.hid (block_on HBj.out HW4.out)
              have hcell : wr.cell? ⟨w2.heap.size, i, none⟩ = some (.bool false) := by
                rw [block_cell HX.out, ← HRD.out.1]
                simp [hds, hi2]
              have hfr := blockFree HX.out i
              have hset : (wr.setCell ⟨w2.heap.size, i, none⟩ (.bool true)).heap[w2.heap.size]? = some (.cells ((ds.set i true).map Value.bool).toArray 4 (0, 0)) := by
                have := Go.Joins.block_setCell (i := i) HX.out (.bool true)
                rw [this]
                congr 2
                rw [List.setIfInBounds_toArray, List.map_set]
              have hlow : Below w2.heap.size w2 (wr.setCell ⟨w2.heap.size, i, none⟩ (.bool true)) := s_set (s_trans HBr.out (s_trans HB4.out HBj.out)) _ _ (Nat.le_refl _)
              have hrow : (wr.setCell ⟨w2.heap.size, i, none⟩ (.bool true)).ownsRow wa.heap.size 3 1 (.slice (some ⟨g1, 0, none⟩) o.length capv) o.length (intV o) := own_far (own_on (own_on HOr.out HB4.out) HBj.out) (set_grown _ _ _ _) (fun g hg cur hc => by
                obtain rfl := Option.some.inj hg
                exact ty_ne hc HX.out (by decide) rfl)
              have HSET := Lib.hid hset
              have HLOW := Lib.hid hlow
              have HROW := Lib.hid hrow
              clear hset hlow hrow
              go_wp2
              go_roundw
              case rel => exact ⟨k + 1, ds.set i true, by omega, by go_num, by simp [hds], HLOW, HSET, HROW, HVN⟩
              case measure => simp [intOf]; omega
        · obtain rfl : k = o.length := by omega
          have hor2 := order_plan wr p l o (HP.out.below HBr.out) (by omega)
          have HOR2 := Lib.hid hor2
          clear hor2
          go_wp2_with (first
            | (go_at_call 8; refine HOR2.out.mono ?_; rintro e w4 ⟨v4, rfl, hv4, hb4⟩; obtain ⟨ad4, cap4, rfl⟩ := own_slice hv4; have HB4 := Lib.hid (s_trans HB2.out (s_trans HBr.out hb4)); clear hv4 hb4)
            | (go_at_call 6; refine (lives_any _).mono ?_; rintro e w5 ⟨rfl, hb5⟩; have HB5 := Lib.hid (s_trans HB4.out hb5); clear hb5))
          go_ret
          exact ⟨rfl, HB5.out⟩
    · have hck : Calls Try.prog 7 #[.slice A l.length c] w1 fun e w' => e = .returned (.tuple #[.pointer none, .int .i64 (checkE l)]) ∧ Below w1.heap.size w1 w' := (HCHK.out w1 HB1.out).mono fun e w' h => by
        obtain ⟨h1, h2⟩ := h
        rcases h2 with ⟨_, h2⟩ | ⟨h2, _⟩
        · exact ⟨h2, h1⟩
        · exact absurd h2 he
      have HCK := Lib.hid hck
      have he2 : (checkE l == 0) = false := beq_eq_false_iff_ne.2 he
      have he3 : decide (checkE l = 0) = false := decide_eq_false he
      generalize checkE l = ce at *
      clear hck he
      go_wp2_with (first
        | (go_at_call 7; refine HCK.out.mono ?_; rintro e w2 ⟨rfl, hb2⟩; have HB2 := Lib.hid (s_trans HB1.out hb2); clear hb2)
        | (go_at_call 6; refine (lives_any _).mono ?_; rintro e w3 ⟨rfl, hb3⟩; have HB3 := Lib.hid (s_trans HB2.out hb3); clear hb3))
      go_ret
      exact ⟨rfl, HB3.out⟩
end Go.Proofs.Ytepddfkdjdklnaa.Ch
