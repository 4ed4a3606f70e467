-- WRITTEN BY wip/xprint.py (my own wrapper round the print, with contracts of my own in it)
import Derived.Test.YtbjoegladcmibaaRows
import Derived.Test.YtbjoegladcmibaaQYPeopleSetsxr
import Derived.Test.YtbjoegladcmibaaQPurePeopleSets
import Derived.WalkKit
import Derived.ProofKit
import Derived.OpenShut
import Derived.ShutString
import Derived.ChangeOld
import Derived.Below
import Derived.SizedLaws
namespace Go.Proofs.Ytbjoegladcmibaa.peopleSets
open Go.ChangeShapes Go.WideShapes Go.ChangeAt Go.RowKit Go.Proofs.YtbjoegladcmibaaW.PrintWords Go.Proofs.Ytbjoegladcmibaa.Opens Go.Proofs.Ytbjoegladcmibaa.YPeopleSets
open Go.ChangeMaps (open_string shut_string)
set_option linter.unusedVariables false
set_option linter.unusedSimpArgs false
theorem own : ownKnob Try.prog.godebug = none := by kernel_rfl
theorem laidOut : laidOutB Try.prog = true := by kernel_rfl
set_option maxRecDepth 100000 in
theorem lifted (os : Os) (started : os.Started) (H : Type) (enc : TypeId × Value → H) :
    ReturnsInHanded {} Try.checked os 9 .any (Rows.peopleSetsSpec.pre6 enc Try.prog Try.f9 Rows.peopleSetsRow.domain false) (Rows.peopleSetsSpec.post enc Try.prog Try.f9 false true false false) := by
  refine returnsInHanded_of_change_sized (C := Try.checked) own started (by kernel_rfl) Try.func9
    (ChangeSpec.witness6 (enc := enc) (C := Try.checked) false ⟨#[], #[.string ByteArray.empty, .slice none 0 0, .agg #[.int .i64 0, .string ByteArray.empty, .string ByteArray.empty, .int .i64 0, .int .i64 0, .int .i64 0]], []⟩ 8 (by kernel_rfl) (by kernel_rfl) (by kernel_rfl) (by kernel_rfl)) ?_
  intro W base args ds gs before hval0 hW hcnd hsz0 _
  have hsz : (DataW.weightsEach Try.prog (Try.f9.params.toList ++ Rows.peopleSetsSpec.plain.varTypes Try.prog) (ds ++ gs)).all (· ≤ reachBytes) = true := hsz0
  have hval : ∀ (j : Nat) t v, Try.f9.params[j]? = some t → args[j]? = some v → Value.okWide Try.prog W .any base t v := hval0
  have hW' := hW
  obtain ⟨p, q, hA0, hV, rfl, hfz, hnd⟩ := hW
  have hA : DataW.TrodAll enc Try.prog W 0 (fun _ => true) true Try.f9.params.toList args.toList ds p := hA0
  rw [Try.params9] at hA hval hsz
  obtain ⟨v0, vs0, d0, ds0, p0, q0, hargs, rfl, rfl, h0, r0⟩ := trodAll_cons hA
  obtain ⟨v1, vs1, d1, ds1, p1, q1, rfl, rfl, rfl, h1, r1⟩ := trodAll_cons r0
  obtain ⟨v2, vs2, d2, ds2, p2, q2, rfl, rfl, rfl, h2, r2⟩ := trodAll_cons r1
  obtain ⟨rfl, rfl, rfl⟩ := trodAll_nil r2
  obtain rfl : args = #[v0, v1, v2] := by cases args; simp_all
  obtain ⟨rfl, rfl⟩ := trodVars_none hV
  obtain ⟨a0, rfl, rfl, rfl, y0⟩ := open_string Try.underlying9 (hval 0 9 v0 rfl rfl) h0
  have w0 : a0.size ≤ 140737488351232 := by
    have z := sized_string hsz (j := 0) (t := 9) rfl rfl
    rw [Array.length_toList] at z
    exact z
  have lt1 : ∀ x ∈ p1, x.block < W.heap.size := by obtain ⟨m, hm⟩ := h1; exact DataW.trod_lt m _ _ _ hm
  obtain ⟨A1, len1, c1, rfl⟩ := okWide_slice Try.underlying40 (hval 1 40 v1 rfl rfl)
  have b1 : len1 * 64 ≤ 140737488351232 := by
    obtain ⟨fuel, hf⟩ := h1
    rcases DataW.trod_slice Try.underlying40 hf with ⟨hcs, hx⟩ | ⟨a_, len_, cap_, elems_, rest_, k_, _, hcs, hx, _, _, _, hl_, _⟩
    · simp [Value.cells] at hcs
      omega
    · simp only [Prod.mk.injEq] at hx
      obtain ⟨rfl, rfl⟩ := hx
      have h_ := sized_slice hsz (j := 1) (t := 40) (e := 42) rfl rfl Try.underlying40
      rw [show Try.prog.bytesOf 42 = 64 by kernel_rfl] at h_
      simp [Value.cells] at hcs
      simp only [List.length_map, reachBytes] at h_
      obtain ⟨_, h2_, _⟩ := hcs
      omega
  obtain ⟨l1, rfl, hc1, hr1, hg1⟩ : ∃ l : List (S42), len1 = l.length ∧ l.length ≤ c1 ∧ Kd.C k42 W A1 l.length l ∧ (l.length ≤ maxLen ∧ ∀ x ∈ l, g42 x) := by
    obtain ⟨fuel, hf⟩ := h1
    obtain ⟨l, ⟨A_, c_, e_, hl_, hC_⟩, hg_⟩ := (Opens.Op.slice (n := fuel) Try.underlying40 (by kernel_rfl) z42 (fun m_ hm_ => (o42 m_))) hf
    simp only [Value.cells, List.cons.injEq, Value.slice.injEq, and_true, Array.toList] at e_
    obtain ⟨rfl, rfl, rfl⟩ := e_
    exact ⟨l, rfl, hl_, hC_, hg_⟩
  have lt2 : ∀ x ∈ p2, x.block < W.heap.size := by obtain ⟨m, hm⟩ := h2; exact DataW.trod_lt m _ _ _ hm
  obtain ⟨cs2, rfl, _⟩ := okWide_struct Try.underlying42 (hval 2 42 v2 rfl rfl)
  obtain ⟨x2, hx2, hg2⟩ : ∃ x : S42, k42.K W x cs2.toList ∧ g42 x := by
    obtain ⟨fuel, hf⟩ := h2
    exact o42 fuel hf
  obtain e2 := k42_open hx2
  obtain rfl : cs2 = #[.int .i64 x2.f0, .string x2.f1, .string x2.f2, .int .i64 x2.f3.f0, .int .i64 x2.f3.f1, .int .i64 x2.f3.f2] := by rw [← Array.toArray_toList (xs := cs2), e2]
  clear hA0 hval0 hsz0 hsz
  have h := Pure.PeopleSets a0 l1 x2 w0 hg1 b1 hg2
  refine (octroilaw15_PeopleSets.calls (w := W) (hr1 := hr1) (hc1 := hc1) (h := h)).mono fun e W' ⟨he, hd_⟩ => ?_
  have bel : Below W.heap.size W W' := hd_
  subst he
  exact ⟨_, rfl, _, _, _, [], _, [], hW', trodAll_mk1 (shut_bool Try.underlying4 _), (trodAll_cons_mk (shut_string Try.underlying9 y0) (trodAll_cons_mk (Below.trod laidOut (by kernel_rfl) (of_decide_eq_true (by kernel_rfl)) h1 bel lt1) (trodAll_cons_mk (Below.trod laidOut (by kernel_rfl) (of_decide_eq_true (by kernel_rfl)) h2 bel lt2) trodAll_mk0))), rfl, bel.frame _, fun h => by cases h⟩
theorem over : Rows.peopleSetsRow.holds Try.pinned (OpenSpec.ofChange Rows.peopleSetsSpec) :=
  OpenClaim.holds_of_wide 9 Try.f9 rfl rfl rfl rfl rfl rfl rfl ⟨rfl, rfl, rfl, rfl, rfl⟩ rfl rfl rfl rfl rfl (by kernel_rfl) Try.func9 (by kernel_rfl)
    (of_decide_eq_true (by kernel_rfl)) (by unfold Func.isWrapper; first | (rw [if_pos (by decide +kernel)]; kernel_rfl) | (rw [if_neg (by decide +kernel)]; exact ⟨rfl, rfl⟩))
    (fun os started H enc _ => lifted os started H enc)
theorem proved : Rows.PeopleSetsSaid := over
end Go.Proofs.Ytbjoegladcmibaa.peopleSets
namespace Go.Proofs.Ytbjoegladcmibaa
theorem peopleSets_holds : Rows.PeopleSetsSaid := peopleSets.proved
#print axioms peopleSets_holds
end Go.Proofs.Ytbjoegladcmibaa
