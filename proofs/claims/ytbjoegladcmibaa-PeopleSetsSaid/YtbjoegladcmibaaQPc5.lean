/-
  people: Known.
-/
import Derived.Test.YtbjoegladcmibaaQPc4
import Derived.Test.YtbjoegladcmibaaQShelf
import Derived.Sort.OwnSorted
import Derived.Sort.KeysCollected
import Derived.Laws.AppendOwn
import Derived.Laws.OwnMore
import Derived.Maps.RangeWalk
namespace Go.Proofs.Ytbjoegladcmibaa.Pe
set_option linter.unusedVariables false
set_option linter.unusedSimpArgs false
set_option linter.unnecessarySimpa false
open Go.RowKit Go.Maps Go.Proofs.YtbjoegladcmibaaK Go.Proofs.Ytbjoegladcmibaa.Ln Go.Proofs.Ytbjoegladcmibaa.LnB Go.Proofs.Ytbjoegladcmibaa.Vi Go.Proofs.YtbjoegladcmibaaW.PrintWords

def bts (b : List UInt8) : ByteArray := ⟨b.toArray⟩
theorem bts_of (s : ByteArray) : bts s.data.toList = s := by unfold bts; rw [Array.toArray_toList]
theorem of_bts (b : List UInt8) : (bts b).data.toList = b := by unfold bts; simp
/-- The numbers that are known, in their order. -/
structure Keys (M : PM) (rs : List ByteArray) : Prop where
  sorted : (rs.map fun s => s.data.toList).Pairwise (· < ·)
  mem : ∀ s, s ∈ rs ↔ M (some s) ≠ none
theorem keys_of {M : PM} {D : DataW Unit} {left : Lit → Bool} {ss : List (List UInt8)} (hC : Collected D left ss) (hl : ∀ kl, left kl = false) (hb : ∀ b ∈ ss, b.length ≤ maxLen) (hbig : ∀ s, M (some s) ≠ none → s.size ≤ maxLen)
    (hD : ∀ s : ByteArray, s.size ≤ maxLen → (M (some s) = none → has D (.string s.data.toList) = false) ∧ (∀ g v l, M (some s) = some (g, v, l) → has D (.string s.data.toList) = true ∧ D.atKey (.string s.data.toList) .nil = .lit (.int .i64 g))) :
    Keys M ((ss.mergeSort fun x y => decide (x ≤ y)).map bts) := by
  have tr : ∀ a b c : List UInt8, leB a b = true → leB b c = true → leB a c = true := fun a b c h1 h2 => by simp only [leB, decide_eq_true_eq] at *; exact List.le_trans h1 h2
  have tot : ∀ a b : List UInt8, (leB a b || leB b a) = true := fun a b => by simp only [leB, Bool.or_eq_true, decide_eq_true_eq]; exact List.le_total a b
  have hp : (ss.mergeSort leB).Perm ss := List.mergeSort_perm _ _
  refine ⟨?_, fun s => ?_⟩
  · rw [List.map_map, show ((fun s : ByteArray => s.data.toList) ∘ bts) = id from funext of_bts, List.map_id]
    have h1 : (ss.mergeSort leB).Pairwise (fun a b => leB a b = true) := List.pairwise_mergeSort tr tot ss
    have h2 : (ss.mergeSort leB).Pairwise (fun a b => a ≠ b) := hp.nodup_iff.2 hC.1
    refine (h1.and h2).imp (fun {a b} ⟨x, y⟩ => ?_)
    simp only [leB, decide_eq_true_eq] at x
    exact Classical.byContradiction fun n => y (List.le_antisymm x (List.not_lt.1 n))
  · rw [List.mem_map]
    constructor
    · rintro ⟨b, hbm, rfl⟩
      have hbs := hp.mem_iff.1 hbm
      have hh := ((hC.2 b).1 hbs).1
      intro e
      have := (hD (bts b) (by show b.toArray.size ≤ maxLen; rw [List.size_toArray]; exact hb b hbs)).1 e
      rw [of_bts, hh] at this
      cases this
    · intro hne
      refine ⟨s.data.toList, hp.mem_iff.2 ((hC.2 _).2 ⟨?_, hl _⟩), bts_of s⟩
      cases hM : M (some s) with
      | none => exact absurd hM hne
      | some z => exact ((hD s (hbig s hne)).2 z.1 z.2.1 z.2.2 hM).1
theorem Keys.none_ {M : PM} {D : DataW Unit} {left : Lit → Bool} (hC : Collected D left []) (hl : ∀ kl, left kl = false) (hbig : ∀ s, M (some s) ≠ none → s.size ≤ maxLen)
    (hD : ∀ s : ByteArray, s.size ≤ maxLen → (M (some s) = none → has D (.string s.data.toList) = false) ∧ (∀ g v l, M (some s) = some (g, v, l) → has D (.string s.data.toList) = true ∧ D.atKey (.string s.data.toList) .nil = .lit (.int .i64 g))) : Keys M [] := by
  have := keys_of hC hl (fun b hb => by simp at hb) hbig hD
  simpa using this
theorem enc_str (x : ByteArray) : encStr x.data.toList = .string x := by unfold encStr; simp
theorem map_enc (ss : List (List UInt8)) : ss.map encStr = (ss.map bts).map Value.string := by rw [List.map_map]; rfl
theorem strs_own {w : World} {base : Nat} {v : Value} {ss : List (List UInt8)} (h : w.ownsRow base 9 1 v ss.length (ss.map encStr)) : Kd.R Kd.string 9 w base (fun _ => True) v (ss.map bts) := by
  refine Kd.R_of_own ?_ (fun _ _ => trivial)
  rw [map_enc] at h
  rw [List.length_map]
  exact h
theorem infoS : (Try.prog.info? 9).map (fun i => (i.zero, i.size, i.bytes)) = some (some (.string ⟨#[]⟩), 1, 16) := by kernel_rfl
end Go.Proofs.Ytbjoegladcmibaa.Pe
