-- WRITTEN BY wip/xprint.py (my own wrapper round the print, with contracts of my own in it)
import Derived.Test.YtbjoegladcmibaaRows
import Derived.Test.YtbjoegladcmibaaYThresholdAddsxr
import Derived.Test.YtbjoegladcmibaaPureThresholdAdds
import Derived.WalkKit
import Derived.ProofKit
import Derived.OpenShut
import Derived.ShutString
import Derived.ChangeOld
import Derived.Below
import Derived.SizedLaws
namespace Go.Proofs.Ytbjoegladcmibaa.thresholdAdds
open Go.ChangeShapes Go.WideShapes Go.ChangeAt Go.RowKit Go.Proofs.YtbjoegladcmibaaW.PrintWords Go.Proofs.Ytbjoegladcmibaa.Opens Go.Proofs.Ytbjoegladcmibaa.YThresholdAdds
open Go.ChangeMaps (open_string shut_string)
set_option linter.unusedVariables false
set_option linter.unusedSimpArgs false
theorem own : ownKnob Try.prog.godebug = none := by kernel_rfl
theorem laidOut : laidOutB Try.prog = true := by kernel_rfl
set_option maxRecDepth 100000 in
theorem lifted (os : Os) (started : os.Started) (H : Type) (enc : TypeId × Value → H) :
    ReturnsInHanded {} Try.checked os 5 .any (Rows.thresholdAddsSpec.pre6 enc Try.prog Try.f5 Rows.thresholdAddsRow.domain false) (Rows.thresholdAddsSpec.post enc Try.prog Try.f5 false true false false) := by
  refine returnsInHanded_of_change_sized (C := Try.checked) own started (by kernel_rfl) Try.func5
    (ChangeSpec.witness6 (enc := enc) (C := Try.checked) false ⟨#[], #[.slice none 0 0, .agg #[.int .i64 0, .int .i64 0], .bool false], []⟩ 8 (by kernel_rfl) (by kernel_rfl) (by kernel_rfl) (by kernel_rfl)) ?_
  intro W base args ds gs before hval0 hW hcnd hsz0 _
  have hsz : (DataW.weightsEach Try.prog (Try.f5.params.toList ++ Rows.thresholdAddsSpec.plain.varTypes Try.prog) (ds ++ gs)).all (· ≤ reachBytes) = true := hsz0
  have hval : ∀ (j : Nat) t v, Try.f5.params[j]? = some t → args[j]? = some v → Value.okWide Try.prog W .any base t v := hval0
  have hW' := hW
  obtain ⟨p, q, hA0, hV, rfl, hfz, hnd⟩ := hW
  have hA : DataW.TrodAll enc Try.prog W 0 (fun _ => true) true Try.f5.params.toList args.toList ds p := hA0
  rw [Try.params5] at hA hval hsz
  obtain ⟨v0, vs0, d0, ds0, p0, q0, hargs, rfl, rfl, h0, r0⟩ := trodAll_cons hA
  obtain ⟨v1, vs1, d1, ds1, p1, q1, rfl, rfl, rfl, h1, r1⟩ := trodAll_cons r0
  obtain ⟨v2, vs2, d2, ds2, p2, q2, rfl, rfl, rfl, h2, r2⟩ := trodAll_cons r1
  obtain ⟨rfl, rfl, rfl⟩ := trodAll_nil r2
  obtain rfl : args = #[v0, v1, v2] := by cases args; simp_all
  obtain ⟨rfl, rfl⟩ := trodVars_none hV
  have lt0 : ∀ x ∈ p0, x.block < W.heap.size := by obtain ⟨m, hm⟩ := h0; exact DataW.trod_lt m _ _ _ hm
  obtain ⟨A0, len0, c0, rfl⟩ := okWide_slice Try.underlying51 (hval 0 51 v0 rfl rfl)
  have b0 : len0 * 16 ≤ 140737488351232 := by
    obtain ⟨fuel, hf⟩ := h0
    rcases DataW.trod_slice Try.underlying51 hf with ⟨hcs, hx⟩ | ⟨a_, len_, cap_, elems_, rest_, k_, _, hcs, hx, _, _, _, hl_, _⟩
    · simp [Value.cells] at hcs
      omega
    · simp only [Prod.mk.injEq] at hx
      obtain ⟨rfl, rfl⟩ := hx
      have h_ := sized_slice hsz (j := 0) (t := 51) (e := 53) rfl rfl Try.underlying51
      rw [show Try.prog.bytesOf 53 = 16 by kernel_rfl] at h_
      simp [Value.cells] at hcs
      simp only [List.length_map, reachBytes] at h_
      obtain ⟨_, h2_, _⟩ := hcs
      omega
  obtain ⟨l0, rfl, hc0, hr0, hg0⟩ : ∃ l : List (S53), len0 = l.length ∧ l.length ≤ c0 ∧ Kd.C k53 W A0 l.length l ∧ (l.length ≤ maxLen ∧ ∀ x ∈ l, g53 x) := by
    obtain ⟨fuel, hf⟩ := h0
    obtain ⟨l, ⟨A_, c_, e_, hl_, hC_⟩, hg_⟩ := (Opens.Op.slice (n := fuel) Try.underlying51 (by kernel_rfl) z53 (fun m_ hm_ => (o53 m_))) hf
    simp only [Value.cells, List.cons.injEq, Value.slice.injEq, and_true, Array.toList] at e_
    obtain ⟨rfl, rfl, rfl⟩ := e_
    exact ⟨l, rfl, hl_, hC_, hg_⟩
  have lt1 : ∀ x ∈ p1, x.block < W.heap.size := by obtain ⟨m, hm⟩ := h1; exact DataW.trod_lt m _ _ _ hm
  obtain ⟨cs1, rfl, _⟩ := okWide_struct Try.underlying53 (hval 1 53 v1 rfl rfl)
  obtain ⟨x1, hx1, hg1⟩ : ∃ x : S53, k53.K W x cs1.toList ∧ g53 x := by
    obtain ⟨fuel, hf⟩ := h1
    exact o53 fuel hf
  obtain e1 := k53_open hx1
  obtain rfl : cs1 = #[.int .i64 x1.f0, .int .i64 x1.f1] := by rw [← Array.toArray_toList (xs := cs1), e1]
  obtain ⟨a2, rfl, rfl, rfl⟩ := open_bool Try.underlying4 (hval 2 4 v2 rfl rfl) h2
  clear hA0 hval0 hsz0 hsz
  have h := Pure.ThresholdAdds l0 x1 a2 hg0 b0 hg1
  refine (octroilaw19_ThresholdAdds.calls (w := W) (hr0 := hr0) (hc0 := hc0) (h := h)).mono fun e W' ⟨he, hd_⟩ => ?_
  have bel : Below W.heap.size W W' := hd_
  subst he
  exact ⟨_, rfl, _, _, _, [], _, [], hW', trodAll_mk1 (shut_bool Try.underlying4 _), (trodAll_cons_mk (Below.trod laidOut (by kernel_rfl) (of_decide_eq_true (by kernel_rfl)) h0 bel lt0) (trodAll_cons_mk (Below.trod laidOut (by kernel_rfl) (of_decide_eq_true (by kernel_rfl)) h1 bel lt1) (trodAll_cons_mk (shut_bool Try.underlying4 _) trodAll_mk0))), rfl, bel.frame _, fun h => by cases h⟩
theorem over : Rows.thresholdAddsRow.holds Try.pinned (OpenSpec.ofChange Rows.thresholdAddsSpec) :=
  OpenClaim.holds_of_wide 5 Try.f5 rfl rfl rfl rfl rfl rfl rfl ⟨rfl, rfl, rfl, rfl, rfl⟩ rfl rfl rfl rfl rfl (by kernel_rfl) Try.func5 (by kernel_rfl)
    (of_decide_eq_true (by kernel_rfl)) (by unfold Func.isWrapper; first | (rw [if_pos (by decide +kernel)]; kernel_rfl) | (rw [if_neg (by decide +kernel)]; exact ⟨rfl, rfl⟩))
    (fun os started H enc _ => lifted os started H enc)
theorem proved : Rows.ThresholdAddsSaid := over
end Go.Proofs.Ytbjoegladcmibaa.thresholdAdds
namespace Go.Proofs.Ytbjoegladcmibaa
theorem thresholdAdds_holds : Rows.ThresholdAddsSaid := thresholdAdds.proved
#print axioms thresholdAdds_holds
end Go.Proofs.Ytbjoegladcmibaa
