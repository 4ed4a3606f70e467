/-
  checker: Needs, Find, Box of a plan.
-/
import Derived.Test.YtepddfkdjdklnaaQCh28
namespace Go.Proofs.Ytepddfkdjdklnaa.Ch
set_option linter.unusedVariables false
set_option linter.unusedSimpArgs false
set_option linter.unnecessarySimpa false
open Go.RowKit Go.Maps Go.Proofs.YtepddfkdjdklnaaK Go.Proofs.Ytepddfkdjdklnaa.PCheckerOrder Go.Proofs.YtepddfkdjdklnaaW.PrintWords Go.Proofs.YtepddfkdjdklnaaW.PrintLast Go.Sort

set_option maxRecDepth 100000 in
theorem needs_plan (w : World) (p : Nat) (l : List S43) (o : List Nat) (i : Nat) (hi : i < (needsL l).length) (h : PlanIn w p l o) (hq : (needsL l)[i].length ≤ 1000000) : Calls Try.prog 9 #[.pointer (some ⟨p, 0, none⟩), .int .i64 i] w fun e w' => ∃ v, e = .returned v ∧ w'.ownsRow w.heap.size 3 1 v (needsL l)[i].length (intV (needsL l)[i]) ∧ Below w.heap.size w w' := by
  have hn := has_plan w p l o i h
  have hnl : (needsL l).length = l.length := by unfold needsL; rw [List.length_map]
  have hd : decide (0 ≤ (i : Int) ∧ (i : Int) < l.length) = true := decide_eq_true ⟨by omega, by omega⟩
  rw [hd] at hn
  obtain ⟨A, c, m, vn, vo, b, h1, _, _, _, h5, _⟩ := h.ex
  obtain ⟨vs, hv1, hv2⟩ := h5.row
  obtain ⟨u2, hu2, hou⟩ := hv2 i hi
  have hrd := fun W (hb : Below w.heap.size w W) => own_at (own_on hv1 hb) hi
  have hof := fun W (hb : Below w.heap.size w W) => own_on hou hb
  obtain ⟨ga, capa, ua, ea, hnc, _, _, hua, _⟩ := own_at hv1 hi
  rw [hu2] at hua
  obtain rfl := Option.some.inj hua
  subst ea
  have hcl : ∀ W, Below w.heap.size w W → W.cell? ⟨ga, i, none⟩ = some u2 := fun W hb => by
    obtain ⟨g3, c3, u3, e3, _, _, _, h3, h4⟩ := hrd W hb
    cases e3
    rw [hu2] at h3
    cases h3
    exact h4
  obtain ⟨ad2, cap2, rfl⟩ := own_slice hou
  rw [hnl] at h1 hnc
  rw [hnl] at hi
  have HN := Lib.hid hn
  have H1 := Lib.hid h1
  have HOF := Lib.hid hof
  have HCL := Lib.hid hcl
  generalize (needsL l)[i] = q at *
  generalize hln : l.length = ln at *
  clear hn h h1 h5 hv1 hv2 hou hrd hof hcl hua hu2 hd hnl hln
  go_enter Try.func9, Try.ntmps9
  go_wp2_with (first
    | (go_at_call 25; refine HN.out.mono ?_; rintro e w1 ⟨rfl, hb⟩; have HB1 := Lib.hid hb; obtain ⟨z0, z1, z2, z3⟩ := cells4 (block_on hb H1.out); have q0 := HCL.out _ hb; clear hb)
    | (go_at_call 24; refine (clone_ints _ _ q b (HOF.out _ HB1.out) hq).mono ?_; rintro e w2 ⟨v, rfl, hv, hb⟩; have HV := Lib.hid hv; have HB2 := Lib.hid (s_trans HB1.out hb); clear hv hb))
  go_ret
  exact ⟨v, rfl, own_weak HV.out HB1.out.size, HB2.out⟩
end Go.Proofs.Ytepddfkdjdklnaa.Ch
