-- WRITTEN BY wip/xprint.py (my own wrapper round the print, with contracts of my own in it)
import Derived.Test.YtbjoegladcmibaaRows
import Derived.Test.YtbjoegladcmibaaQYRatesSetsxr
import Derived.Test.YtbjoegladcmibaaQPureRatesSets
import Derived.WalkKit
import Derived.ProofKit
import Derived.OpenShut
import Derived.ShutString
import Derived.ChangeOld
import Derived.Below
import Derived.SizedLaws
namespace Go.Proofs.Ytbjoegladcmibaa.ratesSets
open Go.ChangeShapes Go.WideShapes Go.ChangeAt Go.RowKit Go.Proofs.YtbjoegladcmibaaW.PrintWords Go.Proofs.Ytbjoegladcmibaa.Opens Go.Proofs.Ytbjoegladcmibaa.YRatesSets
open Go.ChangeMaps (open_string shut_string)
set_option linter.unusedVariables false
set_option linter.unusedSimpArgs false
theorem own : ownKnob Try.prog.godebug = none := by kernel_rfl
theorem laidOut : laidOutB Try.prog = true := by kernel_rfl
set_option maxRecDepth 100000 in
theorem lifted (os : Os) (started : os.Started) (H : Type) (enc : TypeId × Value → H) :
    ReturnsInHanded {} Try.checked os 7 .any (Rows.ratesSetsSpec.pre6 enc Try.prog Try.f7 Rows.ratesSetsRow.domain false) (Rows.ratesSetsSpec.post enc Try.prog Try.f7 false true false false) := by
  refine returnsInHanded_of_change_sized (C := Try.checked) own started (by kernel_rfl) Try.func7
    (ChangeSpec.witness6 (enc := enc) (C := Try.checked) false ⟨#[], #[.slice none 0 0, .agg #[.string ByteArray.empty, .int .i64 0, .int .i64 0]], []⟩ 8 (by kernel_rfl) (by kernel_rfl) (by kernel_rfl) (by kernel_rfl)) ?_
  intro W base args ds gs before hval0 hW hcnd hsz0 _
  have hsz : (DataW.weightsEach Try.prog (Try.f7.params.toList ++ Rows.ratesSetsSpec.plain.varTypes Try.prog) (ds ++ gs)).all (· ≤ reachBytes) = true := hsz0
  have hval : ∀ (j : Nat) t v, Try.f7.params[j]? = some t → args[j]? = some v → Value.okWide Try.prog W .any base t v := hval0
  have hW' := hW
  obtain ⟨p, q, hA0, hV, rfl, hfz, hnd⟩ := hW
  have hA : DataW.TrodAll enc Try.prog W 0 (fun _ => true) true Try.f7.params.toList args.toList ds p := hA0
  rw [Try.params7] at hA hval hsz
  obtain ⟨v0, vs0, d0, ds0, p0, q0, hargs, rfl, rfl, h0, r0⟩ := trodAll_cons hA
  obtain ⟨v1, vs1, d1, ds1, p1, q1, rfl, rfl, rfl, h1, r1⟩ := trodAll_cons r0
  obtain ⟨rfl, rfl, rfl⟩ := trodAll_nil r1
  obtain rfl : args = #[v0, v1] := by cases args; simp_all
  obtain ⟨rfl, rfl⟩ := trodVars_none hV
  have lt0 : ∀ x ∈ p0, x.block < W.heap.size := by obtain ⟨m, hm⟩ := h0; exact DataW.trod_lt m _ _ _ hm
  obtain ⟨A0, len0, c0, rfl⟩ := okWide_slice Try.underlying22 (hval 0 22 v0 rfl rfl)
  have b0 : len0 * 48 ≤ 140737488351232 := by
    obtain ⟨fuel, hf⟩ := h0
    rcases DataW.trod_slice Try.underlying22 hf with ⟨hcs, hx⟩ | ⟨a_, len_, cap_, elems_, rest_, k_, _, hcs, hx, _, _, _, hl_, _⟩
    · simp [Value.cells] at hcs
      omega
    · simp only [Prod.mk.injEq] at hx
      obtain ⟨rfl, rfl⟩ := hx
      have h_ := sized_slice hsz (j := 0) (t := 22) (e := 26) rfl rfl Try.underlying22
      rw [show Try.prog.bytesOf 26 = 48 by kernel_rfl] at h_
      simp [Value.cells] at hcs
      simp only [List.length_map, reachBytes] at h_
      obtain ⟨_, h2_, _⟩ := hcs
      omega
  obtain ⟨l0, rfl, hc0, hr0, hg0⟩ : ∃ l : List (S26), len0 = l.length ∧ l.length ≤ c0 ∧ Kd.C k26 W A0 l.length l ∧ (l.length ≤ maxLen ∧ ∀ x ∈ l, g26 x) := by
    obtain ⟨fuel, hf⟩ := h0
    obtain ⟨l, ⟨A_, c_, e_, hl_, hC_⟩, hg_⟩ := (Opens.Op.slice (n := fuel) Try.underlying22 (by kernel_rfl) z26 (fun m_ hm_ => (o26 m_))) hf
    simp only [Value.cells, List.cons.injEq, Value.slice.injEq, and_true, Array.toList] at e_
    obtain ⟨rfl, rfl, rfl⟩ := e_
    exact ⟨l, rfl, hl_, hC_, hg_⟩
  have lt1 : ∀ x ∈ p1, x.block < W.heap.size := by obtain ⟨m, hm⟩ := h1; exact DataW.trod_lt m _ _ _ hm
  obtain ⟨cs1, rfl, _⟩ := okWide_struct Try.underlying28 (hval 1 28 v1 rfl rfl)
  obtain ⟨x1, hx1, hg1⟩ : ∃ x : S28, k28.K W x cs1.toList ∧ g28 x := by
    obtain ⟨fuel, hf⟩ := h1
    exact o28 fuel hf
  obtain e1 := k28_open hx1
  obtain rfl : cs1 = #[.string x1.f0, .int .i64 x1.f1, .int .i64 x1.f2] := by rw [← Array.toArray_toList (xs := cs1), e1]
  clear hA0 hval0 hsz0 hsz
  have h := Pure.RatesSets l0 x1 hg0 b0 hg1
  refine (octroilaw14_RatesSets.calls (w := W) (hr0 := hr0) (hc0 := hc0) (h := h)).mono fun e W' ⟨he, hd_⟩ => ?_
  have bel : Below W.heap.size W W' := hd_
  subst he
  exact ⟨_, rfl, _, _, _, [], _, [], hW', trodAll_mk1 (shut_bool Try.underlying4 _), (trodAll_cons_mk (Below.trod laidOut (by kernel_rfl) (of_decide_eq_true (by kernel_rfl)) h0 bel lt0) (trodAll_cons_mk (Below.trod laidOut (by kernel_rfl) (of_decide_eq_true (by kernel_rfl)) h1 bel lt1) trodAll_mk0)), rfl, bel.frame _, fun h => by cases h⟩
theorem over : Rows.ratesSetsRow.holds Try.pinned (OpenSpec.ofChange Rows.ratesSetsSpec) :=
  OpenClaim.holds_of_wide 7 Try.f7 rfl rfl rfl rfl rfl rfl rfl ⟨rfl, rfl, rfl, rfl, rfl⟩ rfl rfl rfl rfl rfl (by kernel_rfl) Try.func7 (by kernel_rfl)
    (of_decide_eq_true (by kernel_rfl)) (by unfold Func.isWrapper; first | (rw [if_pos (by decide +kernel)]; kernel_rfl) | (rw [if_neg (by decide +kernel)]; exact ⟨rfl, rfl⟩))
    (fun os started H enc _ => lifted os started H enc)
theorem proved : Rows.RatesSetsSaid := over
end Go.Proofs.Ytbjoegladcmibaa.ratesSets
namespace Go.Proofs.Ytbjoegladcmibaa
theorem ratesSets_holds : Rows.RatesSetsSaid := ratesSets.proved
#print axioms ratesSets_holds
end Go.Proofs.Ytbjoegladcmibaa
