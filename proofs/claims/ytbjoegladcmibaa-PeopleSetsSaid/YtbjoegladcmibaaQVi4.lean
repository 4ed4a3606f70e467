/-
  vatid.Country, vatid.Right: their contracts.
-/
import Derived.Test.YtbjoegladcmibaaQVi3
import Derived.Test.YtbjoegladcmibaaQLn1
namespace Go.Proofs.Ytbjoegladcmibaa.Vi
set_option linter.unusedVariables false
set_option linter.unusedSimpArgs false
set_option linter.unnecessarySimpa false
open Go.RowKit Go.Maps Go.Proofs.YtbjoegladcmibaaK Go.Proofs.Ytbjoegladcmibaa.Ln Go.Proofs.YtbjoegladcmibaaW.PrintWords

def countryB (c : ByteArray) : Bool := decide (c.size = 2) && (letterB (byteAt c 0) && letterB (byteAt c 1))
set_option maxRecDepth 100000 in
set_option maxHeartbeats 2000000 in
theorem country_any (c : ByteArray) (w : World) : Calls Try.prog 95 #[.string c] w fun e w' => e = .returned (.bool (countryB c)) ∧ w = w' := by
  by_cases h : c.size = 2
  · have h0 : 0 < c.size := by omega
    have h1 : 1 < c.size := by omega
    have d1 : ((c.size : Int) == 2) = true := by simp [h]
    have e0 := byteAt_of c 0 h0
    have e1 := byteAt_of c 1 h1
    have hr : countryB c = (letterB ((c[0]'h0).toNat : Int) && letterB ((c[1]'h1).toNat : Int)) := by unfold countryB; rw [decide_eq_true h, Bool.true_and, e0, e1]
    rw [hr]
    clear hr e0 e1
    have hl0 := fun wx => letter_any ((c[0]'h0).toNat : Int) wx
    have hl1 := fun wx => letter_any ((c[1]'h1).toNat : Int) wx
    generalize letterB ((c[0]'h0).toNat : Int) = L0 at *
    generalize letterB ((c[1]'h1).toNat : Int) = L1 at *
    have HL0 := Lib.hid hl0
    have HL1 := Lib.hid hl1
    clear hl0 hl1
    cases L0
    all_goals
      go_enter Try.func95, Try.ntmps95
      go_wp2_with (first
        | (go_at_call 120; refine (HL0.out _).mono ?_; rintro e w1 ⟨rfl, rfl⟩)
        | (go_at_call 120; refine (HL1.out _).mono ?_; rintro e w1 ⟨rfl, rfl⟩))
      all_goals
        go_ret
        exact ⟨ret_b (by simp), rfl⟩
  · have d1 : ((c.size : Int) == 2) = false := by simpa using fun e => h (by omega)
    have hr : countryB c = false := by unfold countryB; rw [decide_eq_false h]; rfl
    rw [hr]
    go_enter Try.func95, Try.ntmps95
    go_wp2
    all_goals
      go_ret
      exact ⟨rfl, rfl⟩
/-- Is it a right number of a country? -/
def ridB (c n : ByteArray) : Bool := countryB c && (if memB c = true then fitsF (formsOf c) n else decide (1 ≤ n.size) && decide (n.size ≤ 20) && (List.range n.size).all (fun i => standsB 88 (byteAt n i)))
theorem forms_of_len (c : ByteArray) : (formsOf c).length ≤ 100 := by
  unfold formsOf
  cases h : lookF formsL c with
  | none => exact Nat.zero_le _
  | some l =>
    obtain ⟨k, hk⟩ := lookF_mem _ _ _ h
    exact forms_len _ hk
set_option maxRecDepth 100000 in
set_option maxHeartbeats 4000000 in
theorem rid_any (c n : ByteArray) (hc : c.size ≤ maxLen) (hns : n.size < 9223372036854775807) (w : World) : Calls Try.prog 61 #[.string c, .string n] w fun e w' => e = .returned (.bool (ridB c n)) ∧ Below w.heap.size w w' := by
  have hco := fun wx => country_any c wx
  have hme := fun wx => member_any c wx
  have hfo := fun wx => Forms_any c hc wx
  have hlen := forms_of_len c
  have hr : ridB c n = (countryB c && (if memB c = true then fitsF (formsOf c) n else decide (1 ≤ n.size) && decide (n.size ≤ 20) && (List.range n.size).all (fun i => standsB 88 (byteAt n i)))) := rfl
  rw [hr]
  clear hr
  generalize countryB c = C at *
  generalize memB c = M at *
  generalize formsOf c = F at *
  have hfi := fun A c0 wx (hx : Kd.C Kd.string wx A F.length F) (hxc : F.length ≤ c0) => fits_any A F c0 n wx hx hxc (by omega) hns
  have HCO := Lib.hid hco
  have HME := Lib.hid hme
  have HFO := Lib.hid hfo
  have HFI := Lib.hid hfi
  clear hco hme hfo hfi
  cases C
  · rw [Bool.false_and]
    go_enter Try.func61, Try.ntmps61
    go_wp2_with (go_at_call 95; refine (HCO.out _).mono ?_; rintro e w1 ⟨rfl, rfl⟩)
    go_ret
    exact ⟨rfl, Below.refl _ _⟩
  · rw [Bool.true_and]
    cases M
    · rw [if_neg (by decide)]
      by_cases hsz : 1 ≤ n.size ∧ n.size ≤ 20
      · obtain ⟨s1, s2⟩ := hsz
        rw [decide_eq_true s1, decide_eq_true s2, Bool.true_and, Bool.true_and]
        have d1 : decide ((n.size : Int) < 1) = false := decide_eq_false (by omega)
        have d2 : decide ((20 : Int) < (n.size : Int)) = false := decide_eq_false (by omega)
        go_enter Try.func61, Try.ntmps61
        go_wp2_with (first
          | (go_at_call 95; refine (HCO.out _).mono ?_; rintro e w1 ⟨rfl, rfl⟩)
          | (go_at_call 53; refine (HME.out _).mono ?_; rintro e w2 ⟨rfl, hb⟩; have HB := Lib.hid hb; clear hb))
        go_loopw [28] (fun i wr => ∃ j : Nat, i = .int .i64 j ∧ j ≤ n.size ∧ Hid (∀ q, q < j → standsB 88 (byteAt n q) = true) ∧ Hid (Below w.heap.size w wr)) (fun i _ => n.size - (intOf i).toNat)
        case atStart => exact ⟨0, rfl, Nat.zero_le _, fun q hq => absurd hq (Nat.not_lt_zero _), HB.out⟩
        case round =>
          obtain ⟨j, rfl, hj, HS, HBr⟩ := hrel
          by_cases hjn : j = n.size
          · subst hjn
            have hall : (List.range n.size).all (fun i => standsB 88 (byteAt n i)) = true := List.all_eq_true.2 (fun q hq => HS.out q (List.mem_range.1 hq))
            have HALL := Lib.hid hall
            clear hall
            go_wp2
            go_ret
            exact ⟨ret_b HALL.out.symm, HBr.out⟩
          · have hjlt : j < n.size := by omega
            have hst : ∀ wx, Calls Try.prog 98 #[.int .u8 88, .int .u8 ((n[j]'hjlt).toNat : Int)] wx fun e w' => e = .returned (.bool (standsB 88 (byteAt n j))) ∧ Below wx.heap.size wx w' := fun wx => by
              rw [← byteAt_of n j hjlt]
              exact stands_any 88 (byteAt n j) (byteAt_nn _ _) (byteAt_lt _ _) wx
            generalize hsb : standsB 88 (byteAt n j) = SB at *
            have HSB := Lib.hid hsb
            have HST := Lib.hid hst
            clear hsb hst
            cases SB
            · have hall : (List.range n.size).all (fun i => standsB 88 (byteAt n i)) = false := by
                rw [List.all_eq_false]
                exact ⟨j, List.mem_range.2 hjlt, by rw [HSB.out]; decide⟩
              have HALL := Lib.hid hall
              clear hall
              go_wp2_with (go_at_call 98; refine (HST.out _).mono ?_; rintro e w3 ⟨rfl, hb⟩; have HB3 := Lib.hid (s_trans HBr.out hb); clear hb)
              go_ret
              exact ⟨ret_b HALL.out.symm, HB3.out⟩
            · go_wp2_with (go_at_call 98; refine (HST.out _).mono ?_; rintro e w3 ⟨rfl, hb⟩; have HB3 := Lib.hid (s_trans HBr.out hb); clear hb)
              go_roundw
              case rel => exact ⟨j + 1, by go_num, by omega, fun q hq => by
                by_cases e : q = j
                · subst e; exact HSB.out
                · exact HS.out q (by omega), HB3.out⟩
              case measure => simp [intOf]; omega
      · have hz : (decide (1 ≤ n.size) && decide (n.size ≤ 20)) = false := by
          rw [Bool.and_eq_false_iff]
          by_cases s1 : 1 ≤ n.size
          · exact Or.inr (decide_eq_false (by omega))
          · exact Or.inl (decide_eq_false s1)
        rw [hz, Bool.false_and]
        clear hz
        by_cases s1 : 1 ≤ n.size
        · have d1 : decide ((n.size : Int) < 1) = false := decide_eq_false (by omega)
          have d2 : decide ((20 : Int) < (n.size : Int)) = true := decide_eq_true (by omega)
          go_enter Try.func61, Try.ntmps61
          go_wp2_with (first
            | (go_at_call 95; refine (HCO.out _).mono ?_; rintro e w1 ⟨rfl, rfl⟩)
            | (go_at_call 53; refine (HME.out _).mono ?_; rintro e w2 ⟨rfl, hb⟩; have HB := Lib.hid hb; clear hb))
          all_goals first
            | (go_ret; exact ⟨rfl, HB.out⟩)
            | (exfalso; omega)
        · have d1 : decide ((n.size : Int) < 1) = true := decide_eq_true (by omega)
          go_enter Try.func61, Try.ntmps61
          go_wp2_with (first
            | (go_at_call 95; refine (HCO.out _).mono ?_; rintro e w1 ⟨rfl, rfl⟩)
            | (go_at_call 53; refine (HME.out _).mono ?_; rintro e w2 ⟨rfl, hb⟩; have HB := Lib.hid hb; clear hb))
          all_goals first
            | (go_ret; exact ⟨rfl, HB.out⟩)
            | (exfalso; omega)
    · rw [if_pos rfl]
      go_enter Try.func61, Try.ntmps61
      go_wp2_with (first
        | (go_at_call 95; refine (HCO.out _).mono ?_; rintro e w1 ⟨rfl, rfl⟩)
        | (go_at_call 53; refine (HME.out _).mono ?_; rintro e w2 ⟨rfl, hb⟩; have HB := Lib.hid hb; clear hb)
        | (go_at_call 97; refine (HFO.out _).mono ?_; rintro e w3 ⟨A, c0, rfl, hle, hcc, hb⟩; have HB3 := Lib.hid (s_trans HB.out hb); have HLE := Lib.hid hle; have HCC := Lib.hid hcc; clear hle hcc hb)
        | (go_at_call 96; refine (HFI.out _ _ _ HCC.out HLE.out).mono ?_; rintro e w4 ⟨rfl, hb⟩; have HB4 := Lib.hid (s_trans HB3.out hb); clear hb))
      go_ret
      exact ⟨rfl, HB4.out⟩
end Go.Proofs.Ytbjoegladcmibaa.Vi
