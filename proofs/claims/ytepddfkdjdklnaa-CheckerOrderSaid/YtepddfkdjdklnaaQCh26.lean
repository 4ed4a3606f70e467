/-
  checker: what is good; Check's plain part.
-/
import Derived.Test.YtepddfkdjdklnaaQCh25
namespace Go.Proofs.Ytepddfkdjdklnaa.Ch
set_option linter.unusedVariables false
set_option linter.unusedSimpArgs false
set_option linter.unnecessarySimpa false
open Go.RowKit Go.Maps Go.Proofs.YtepddfkdjdklnaaK Go.Proofs.Ytepddfkdjdklnaa.PCheckerOrder Go.Proofs.YtepddfkdjdklnaaW.PrintWords Go.Proofs.YtepddfkdjdklnaaW.PrintLast Go.Sort

mutual
theorem refs_right : ∀ x : S41, rightB x = true → ∀ r ∈ refsB x, 1 ≤ r ∧ r ≤ 9999
  | ⟨k, n, f, fs, ks⟩, h, r, hr => by
    rw [rightB] at h
    rw [refsB] at hr
    split at h
    · cases h
    split at h
    · cases h
    rename_i h1 h2
    split at h
    · cases h
    split at h
    · cases h
    by_cases e1 : k = 1
    · subst e1
      have h0 : ks = [] := List.eq_nil_of_length_eq_zero (by
        have : (kidsB 1).1 = 0 := rfl
        rw [this] at h2; omega)
      subst h0
      simp [refsL] at hr
    by_cases e2 : k = 2
    · subst e2
      have h0 : ks = [] := List.eq_nil_of_length_eq_zero (by
        have : (kidsB 2).1 = 0 := rfl
        rw [this] at h2; omega)
      subst h0
      rw [if_neg (by decide), if_pos rfl] at h
      have hb := of_decide_eq_true h
      rw [if_pos rfl, refsL, List.append_nil, List.mem_singleton] at hr
      rw [hr]; exact hb
    rw [if_neg e1, if_neg e2] at h
    rw [if_neg e2, List.nil_append] at hr
    split at h
    · cases h
    by_cases e3 : k = 3
    · subst e3
      have h0 : ks = [] := List.eq_nil_of_length_eq_zero (by
        have : (kidsB 3).1 = 0 := rfl
        rw [this] at h2; omega)
      subst h0
      simp [refsL] at hr
    rw [if_neg e3] at h
    exact refs_rightL ks h r hr
theorem refs_rightL : ∀ l : List S41, rightL l = true → ∀ r ∈ refsL l, 1 ≤ r ∧ r ≤ 9999
  | [], h, r, hr => by simp [refsL] at hr
  | x :: xs, h, r, hr => by
    rw [rightL, Bool.and_eq_true] at h
    rw [refsL, List.mem_append] at hr
    rcases hr with hr | hr
    · exact refs_right x h.1 r hr
    · exact refs_rightL xs h.2 r hr
end
theorem mem_compact {α : Type} [Inhabited α] [DecidableEq α] {zs : List α} {x : α} (h : x ∈ Lib.compact zs) : x ∈ zs := by
  unfold Lib.compact Lib.compactUpTo at h
  obtain ⟨i, hi, rfl⟩ := List.mem_map.1 h
  have hi' : i < zs.length := List.mem_range.1 (List.mem_filter.1 hi).1
  simp [getElem!_pos, hi']
theorem refsR_mem {x : S41} {r : Int} (h : r ∈ refsR x) : r ∈ refsB x := by
  unfold refsR at h
  split at h
  · have := mem_compact h
    unfold sortI at this
    exact List.mem_mergeSort.1 this
  · cases h
theorem refsR_range {x : S41} {r : Int} (h : r ∈ refsR x) : 1 ≤ r ∧ r ≤ 9999 := by
  have hm := refsR_mem h
  unfold refsR at h
  split at h
  · rename_i hg
    unfold goodB at hg
    rw [Bool.and_eq_true] at hg
    exact refs_right x hg.2 r hm
  · cases h
theorem goodL_len {l : List S43} (h : goodL l = true) : l.length ≤ 256 := by
  unfold goodL at h
  rw [Bool.and_eq_true] at h
  exact of_decide_eq_true h.1
theorem goodL_may {l : List S43} (h : goodL l = true) : ∀ x ∈ l, mayB x = true := by
  unfold goodL at h
  rw [Bool.and_eq_true, Bool.not_eq_true'] at h
  intro x hx
  have := List.any_eq_false.1 h.2 x hx
  simpa using this
theorem goodL_num {l : List S43} (h : goodL l = true) : ∀ x ∈ l, 1 ≤ x.f0 ∧ x.f0 ≤ 9999 := fun x hx => by
  have := goodL_may h x hx
  unfold mayB boxedB at this
  rw [Bool.and_eq_true] at this
  exact of_decide_eq_true this.1
/-- What each box needs. -/
noncomputable def needsL (l : List S43) : List (List Nat) := l.map (needN (nums l))
noncomputable def checkE (l : List S43) : Int :=
  if goodL l = false then 2 else if ¬ (nums l).Nodup then 51 else if l.all (okN (nums l)) = false then 83 else if l.any (fun b => !namesB b.f1) = true then 80 else if arr (needsL l) = none then 84 else 0
/-- A plan as it lies in memory. -/
structure PlanIn (w : World) (p : Nat) (l : List S43) (o : List Nat) : Prop where
  ex : ∃ A c m vn vo b, w.heap[p]? = some (.cells #[.slice A l.length c, .map (some m), vn, vo] 36 (0, 0)) ∧ Kd.C k43 w A l.length l ∧ l.length ≤ c ∧ Pl w m l.length (tOf (nums l)) (kOf (nums l)) ∧ NeedsIn w b vn (needsL l) ∧ w.ownsRow b 3 1 vo o.length (intV o)
theorem PlanIn.below {w w1 : World} {p : Nat} {l : List S43} {o : List Nat} (h : PlanIn w p l o) (hb : Below w.heap.size w w1) : PlanIn w1 p l o := by
  obtain ⟨A, c, m, vn, vo, b, h1, h2, h3, h4, h5, h6⟩ := h.ex
  exact ⟨A, c, m, vn, vo, b, block_on hb h1, Kd.C_below h2 hb, h3, h4.below hb, h5.below hb, own_on h6 hb⟩
def CheckP (w : World) (l : List S43) (e : Ending) (w' : World) : Prop :=
  Below w.heap.size w w' ∧ ((checkE l ≠ 0 ∧ e = .returned (.tuple #[.pointer none, .int .i64 (checkE l)])) ∨ (checkE l = 0 ∧ ∃ p o, arr (needsL l) = some o ∧ e = .returned (.tuple #[.pointer (some ⟨p, 0, none⟩), .int .i64 0]) ∧ PlanIn w' p l o))
theorem needsL_in {l : List S43} (hok : l.all (okN (nums l)) = true) (hn : ∀ x ∈ l, (refsB x.f1).length ≤ 1000000) : ∀ q ∈ needsL l, q.length ≤ 1000000 ∧ ∀ x ∈ q, x < (needsL l).length := by
  intro q hq
  unfold needsL at hq ⊢
  obtain ⟨x, hx, rfl⟩ := List.mem_map.1 hq
  refine ⟨by rw [needN_len]; exact Nat.le_trans (refsR_le _) (hn x hx), fun y hy => ?_⟩
  have := needN_lt (List.all_eq_true.1 hok x hx) hy
  rw [List.length_map]
  simpa [nums] using this
end Go.Proofs.Ytepddfkdjdklnaa.Ch
