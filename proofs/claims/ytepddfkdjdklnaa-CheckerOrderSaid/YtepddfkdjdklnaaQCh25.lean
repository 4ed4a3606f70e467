/-
  checker: Clone over any row of boxes; Check.
-/
import Derived.Test.YtepddfkdjdklnaaQCh24
namespace Go.Proofs.Ytepddfkdjdklnaa.Ch
set_option linter.unusedVariables false
set_option linter.unusedSimpArgs false
set_option linter.unnecessarySimpa false
open Go.RowKit Go.Maps Go.Proofs.YtepddfkdjdklnaaK Go.Proofs.Ytepddfkdjdklnaa.PCheckerOrder Go.Proofs.YtepddfkdjdklnaaW.PrintWords Go.Proofs.YtepddfkdjdklnaaW.PrintLast Go.Sort

theorem infoX : (Try.prog.info? 43).map (fun i => (i.zero.map (fun z => z.cells.size), i.size, i.bytes)) = some (some 6, 6, 88) := by kernel_rfl
set_option maxRecDepth 100000 in
set_option maxHeartbeats 1000000 in
theorem clone_boxes (w : World) (A : Option Addr) (c : Nat) (l : List S43) (hr : Kd.C k43 w A l.length l) (hl : l.length ≤ 256) :
    Calls Try.prog 17 #[.slice A l.length c] w fun e w' => ∃ A' c', e = .returned (.slice A' l.length c') ∧ Kd.C k43 w' A' l.length l ∧ l.length ≤ c' ∧ Below w.heap.size w w' := by
  cases A with
  | none =>
    have h0 : l = [] := by
      refine List.eq_nil_of_length_eq_zero ?_
      rcases Nat.eq_zero_or_pos l.length with h | h
      · exact h
      · obtain ⟨ad, e, _⟩ := hr.2.2 h; cases e
    subst h0
    refine (AnyE.slices_Clone_nil boxLays _ _ w).mono ?_
    rintro e w' ⟨rfl, rfl⟩
    exact ⟨none, 0, rfl, hr, Nat.zero_le _, Below.refl _ _⟩
  | some ad =>
    obtain ⟨news, hrep, hcell⟩ := ReadsRow.inner_ hr
    have h1 : ∀ u ∈ news, u.oneCell' = true := by
      intro u hu
      obtain ⟨j, hj, e⟩ := List.getElem_of_mem hu
      have hnl : news.length = l.length * 6 := hrep.1
      have hjl : j / 6 < l.length := by omega
      have := hrep.2 (j / 6) _ (List.getElem?_eq_getElem hjl)
      refine k43.K_one this u ?_
      have h6 : k43.sz = 6 := rfl
      rw [h6]
      refine List.mem_of_getElem? (i := j % 6) ?_
      rw [List.getElem?_take_of_lt (Nat.mod_lt _ (by omega)), List.getElem?_drop]
      have e2 : j / 6 * 6 + j % 6 = j := by omega
      rw [e2, List.getElem?_eq_getElem hj, e]
    obtain ⟨i0, hi0⟩ : ∃ i, Try.prog.info? 43 = some i := ⟨_, rfl⟩
    have hin := infoX
    rw [hi0] at hin
    simp only [Option.map_some, Option.some.injEq, Prod.mk.injEq] at hin
    obtain ⟨hz, hs, hb⟩ := hin
    obtain ⟨z, hz0, hzs⟩ : ∃ z, i0.zero = some z ∧ z.cells.size = 6 := by
      cases h : i0.zero with
      | none => rw [h] at hz; cases hz
      | some z => rw [h] at hz; exact ⟨z, rfl, by simpa using hz⟩
    have q22 : ∀ (w : World) (a : Option Addr) (n c n' c' : Nat), (binOp .eql 22 (.slice a n c) (.slice none n' c')).run Try.prog w = .ok (.bool a.isNone) w := fun w a n c n' c' => Lib.run_eql_slice_nil w _ _ a n c n' c' Try.underlying22
    have HREP := Lib.hid hrep
    have HCELL := Lib.hid hcell
    have HH1 := Lib.hid h1
    clear hr hrep hcell h1 hz
    go_enter Try.func17, Try.ntmps17
    go_wp2_with (at_builtin; refine wpList_append_own_at _ rfl _ _ 22 rfl w.heap.size 43 i0 z 6 88 Try.underlying22 hi0 hz0 hs hb hzs (by decide) _ _ _ rfl (World.ownsRow_made w #[] 0 (Nat.le_refl _) (Nat.zero_le _) (by simp)) ad l.length c news rfl ?qc1 ?qc2 ?qc3 ?qc4 ?qc5 ?qc6 ?_)
    case qc1 => exact HREP.out.1
    case qc2 =>
      intro j u hj
      exact Lib.cell?_alloc_some _ (HCELL.out j u hj)
    case qc3 => exact HH1.out
    case qc4 => unfold maxLen; omega
    case qc5 => omega
    case qc6 => simp
    intro v' w1 hown hgrow hnil hat
    have hb1 : Below w.heap.size w w1 := ((Below.refl _ w).alloc (Nat.le_refl _) _).grown hgrow (by simp) (by intro k hk; simp [Value.ownBlock] at hk; omega)
    obtain ⟨A', c', rfl, hrr⟩ := own_reads_row hown (HREP.out.imp_ (fun p cs hp => k43.K_below hb1 hp)) rfl
    have hcl : l.length ≤ c' := by
      rcases hown.2 with ⟨e, h0⟩ | ⟨g, cap, cur, e, _, _, h2, _⟩
      · omega
      · have := (Value.slice.inj e).2.2; omega
    have HRR := Lib.hid hrr
    have HB1 := Lib.hid hb1
    clear hown hgrow hnil hat hrr hb1
    go_wp2
    go_ret
    exact ⟨A', c', rfl, HRR.out, hcl, HB1.out⟩
end Go.Proofs.Ytepddfkdjdklnaa.Ch
