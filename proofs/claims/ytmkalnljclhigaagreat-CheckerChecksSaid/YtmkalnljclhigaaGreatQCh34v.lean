/-
  What an order is (the plain part of XCh34).
-/
import Derived.Test.YtmkalnljclhigaaGreatQCh33
import Derived.Test.YtmkalnljclhigaaGreatQChB
namespace Go.Proofs.YtmkalnljclhigaaGreat.Ch
set_option linter.unusedVariables false
set_option linter.unusedSimpArgs false
set_option linter.unnecessarySimpa false
open Go.RowKit Go.Maps Go.Proofs.YtmkalnljclhigaaGreatK Go.Proofs.YtmkalnljclhigaaGreat.XCheckerChecks Go.Proofs.YtmkalnljclhigaaGreatW.PrintWords Go.Proofs.YtmkalnljclhigaaGreatW.PrintLast Go.Sort

/-- Each comes behind what it needs. -/
def Valid (ns : List (List Nat)) : List Bool → List Nat → Prop
  | _, [] => True
  | ds, i :: s => (∃ h : i < ns.length, ready ds ns[i] i = true) ∧ Valid ns (ds.set i true) s
theorem nextOf_spec (ds : List Bool) : ∀ (qs : List (List Nat)) (j k : Nat), nextOf ds qs j = some k → ∃ h : k - j < qs.length, j ≤ k ∧ ready ds qs[k - j] k = true
  | [], j, k, h => by cases h
  | q :: qs, j, k, h => by
    rw [nextOf] at h
    split at h
    · rename_i hr
      cases h
      exact ⟨by simp, Nat.le_refl _, by simpa using hr⟩
    · obtain ⟨h1, h2, h3⟩ := nextOf_spec ds qs (j + 1) k h
      refine ⟨by rw [List.length_cons]; omega, by omega, ?_⟩
      have e : k - j = (k - (j + 1)) + 1 := by omega
      simp only [e, List.getElem_cons_succ]
      exact h3
theorem arrF_valid (ns : List (List Nat)) : ∀ (f : Nat) (ds : List Bool) (o r : List Nat), o.length ≤ ns.length → arrF ns f ds o = some r → ∃ s, r = o ++ s ∧ Valid ns ds s ∧ r.length = ns.length
  | 0, ds, o, r, ho, h => by cases h
  | f + 1, ds, o, r, ho, h => by
    rw [arrF] at h
    split at h
    · rename_i hlt
      cases hn : nextOf ds ns 0 with
      | none => rw [hn] at h; cases h
      | some i =>
        rw [hn] at h
        obtain ⟨s, h1, h2, h3⟩ := arrF_valid ns f (ds.set i true) (o ++ [i]) r (by simp; omega) h
        obtain ⟨h4, _, h5⟩ := nextOf_spec ds ns 0 i hn
        refine ⟨i :: s, by rw [h1]; simp, ⟨⟨h4, h5⟩, h2⟩, h3⟩
    · cases h
      exact ⟨[], by simp, trivial, by omega⟩
theorem arr_valid {ns : List (List Nat)} {o : List Nat} (h : arr ns = some o) : Valid ns (List.replicate ns.length false) o ∧ o.length = ns.length := by
  obtain ⟨s, h1, h2, h3⟩ := arrF_valid ns _ _ [] o (by simp) h
  rw [List.nil_append] at h1
  exact ⟨by rw [h1]; exact h2, h3⟩
end Go.Proofs.YtmkalnljclhigaaGreat.Ch
