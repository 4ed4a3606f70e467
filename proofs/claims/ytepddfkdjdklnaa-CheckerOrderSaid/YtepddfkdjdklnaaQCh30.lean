/-
  checker: the chapter's examples, plain.
-/
import Derived.Test.YtepddfkdjdklnaaQCh29
namespace Go.Proofs.Ytepddfkdjdklnaa.Ch
set_option linter.unusedVariables false
set_option linter.unusedSimpArgs false
set_option linter.unnecessarySimpa false
open Go.RowKit Go.Maps Go.Proofs.YtepddfkdjdklnaaK Go.Proofs.Ytepddfkdjdklnaa.PCheckerOrder Go.Proofs.YtepddfkdjdklnaaW.PrintWords Go.Proofs.YtepddfkdjdklnaaW.PrintLast Go.Sort

abbrev refX (n : Int) : S41 := ⟨2, n, ⟨#[]⟩, [], []⟩
abbrev numX (n : Int) : S41 := ⟨1, n, ⟨#[]⟩, [], []⟩
abbrev life1 : List S43 := [⟨1, refX 2⟩, ⟨2, numX 5⟩]
abbrev life2 : List S43 := [⟨1, refX 1⟩]
theorem right_ref {n : Int} (h1 : 1 ≤ n) (h2 : n ≤ 9999) : rightB (refX n) = true := by
  rw [rightB]
  simp [kidsB, boxedB, h1, h2]
  rfl
theorem right_num {n : Int} (h1 : 0 ≤ n) (h2 : n ≤ 9999) : rightB (numX n) = true := by
  rw [rightB]
  simp [kidsB, numB, h1]
  first
    | exact ⟨rfl, by omega⟩
    | exact ⟨by omega, rfl⟩
theorem good_ref {n : Int} (h1 : 1 ≤ n) (h2 : n ≤ 9999) : goodB (refX n) = true := by
  unfold goodB
  rw [right_ref h1 h2, depthB, depthL]
  rfl
theorem good_num {n : Int} (h1 : 0 ≤ n) (h2 : n ≤ 9999) : goodB (numX n) = true := by
  unfold goodB
  rw [right_num h1 h2, depthB, depthL]
  rfl
theorem compact_one (n : Int) : Lib.compact [n] = [n] := rfl
theorem sort_one (n : Int) : sortI [n] = [n] := by simp [sortI]
theorem sort_nil : sortI [] = [] := by simp [sortI]
theorem refsR_ref {n : Int} (h1 : 1 ≤ n) (h2 : n ≤ 9999) : refsR (refX n) = [n] := by
  unfold refsR
  rw [if_pos (good_ref h1 h2), refsB, if_pos rfl, refsL, List.append_nil, sort_one, compact_one]
theorem refsR_num {n : Int} : refsR (numX n) = [] := by
  unfold refsR
  split
  · rw [refsB, if_neg (by decide), refsL, List.append_nil, sort_nil]; rfl
  · rfl
theorem needs1 : needsL life1 = [[1], []] := by
  have e : nums life1 = [1, 2] := rfl
  unfold needsL
  rw [e]
  simp only [List.map_cons, List.map_nil, needN, needZ]
  rw [refsR_ref (by decide) (by decide), refsR_num]
  simp only [List.map_cons, List.map_nil]
  rw [sort_one, sort_nil]
  rfl
theorem needs2 : needsL life2 = [[0]] := by
  have e : nums life2 = [1] := rfl
  unfold needsL
  rw [e]
  simp only [List.map_cons, List.map_nil, needN, needZ]
  rw [refsR_ref (by decide) (by decide)]
  simp only [List.map_cons, List.map_nil]
  rw [sort_one]
  rfl
theorem goodL1 : goodL life1 = true := by
  unfold goodL mayB
  simp only [List.any_cons, List.any_nil]
  rw [good_ref (by decide) (by decide), good_num (by decide) (by decide)]
  rfl
theorem goodL2 : goodL life2 = true := by
  unfold goodL mayB
  simp only [List.any_cons, List.any_nil]
  rw [good_ref (by decide) (by decide)]
  rfl
theorem arr1 : arr (needsL life1) = some [1, 0] := by rw [needs1]; rfl
theorem arr2 : arr (needsL life2) = none := by rw [needs2]; rfl
theorem names_ref (n : Int) : namesB (refX n) = true := by rw [namesB, if_neg (by decide), namesL]
theorem names_num (n : Int) : namesB (numX n) = true := by rw [namesB, if_neg (by decide), namesL]
theorem check1 : checkE life1 = 0 := by
  have e : nums life1 = [1, 2] := rfl
  have h1 : life1.all (okN [1, 2]) = true := by
    simp only [List.all_cons, List.all_nil, okN]
    rw [refsR_ref (by decide) (by decide), refsR_num]
    rfl
  have h2 : life1.any (fun b => !namesB b.f1) = false := by
    simp only [List.any_cons, List.any_nil]
    rw [names_ref, names_num]
    rfl
  unfold checkE
  rw [goodL1, arr1, h2, e, h1]
  simp
theorem check2 : checkE life2 = 84 := by
  have e : nums life2 = [1] := rfl
  have h1 : life2.all (okN [1]) = true := by
    simp only [List.all_cons, List.all_nil, okN]
    rw [refsR_ref (by decide) (by decide)]
    rfl
  have h2 : life2.any (fun b => !namesB b.f1) = false := by
    simp only [List.any_cons, List.any_nil]
    rw [names_ref]
    rfl
  unfold checkE
  rw [goodL2, arr2, h2, e, h1]
  simp
theorem small_ref (n : Int) : Small (refX n) := by rw [Small]; exact ⟨by decide, by decide, by rw [SmallL]; trivial⟩
theorem small_num (n : Int) : Small (numX n) := by rw [Small]; exact ⟨by decide, by decide, by rw [SmallL]; trivial⟩
theorem life1_ok : (∀ x ∈ life1, Small x.f1) ∧ ∀ x ∈ life1, (refsB x.f1).length ≤ 1000000 := by
  refine ⟨fun x hx => ?_, fun x hx => ?_⟩
  all_goals
    simp only [List.mem_cons, List.not_mem_nil, or_false] at hx
    rcases hx with rfl | rfl
  · exact small_ref _
  · exact small_num _
  · rw [refsB, refsL]; decide
  · rw [refsB, refsL]; decide
theorem life2_ok : (∀ x ∈ life2, Small x.f1) ∧ ∀ x ∈ life2, (refsB x.f1).length ≤ 1000000 := by
  refine ⟨fun x hx => ?_, fun x hx => ?_⟩
  all_goals
    simp only [List.mem_cons, List.not_mem_nil, or_false] at hx
    rcases hx with rfl
  · exact small_ref _
  · rw [refsB, refsL]; decide
/-- A box whose expression has neither filters nor kids, as it lies. -/
theorem box_row (w : World) (l : List S43) (hl : l.length ≤ 1000) (h : ∀ x ∈ l, x.f1.f2 = ⟨#[]⟩ ∧ x.f1.f3 = [] ∧ x.f1.f4 = []) (g : Nat) (C : Array Value) (hg : w.heap[g]? = some (.cells C 43 (0, 0))) (hC : C.toList = l.flatMap fun x => [.int .i64 x.f0, .int .i64 x.f1.f0, .int .i64 x.f1.f1, .string ⟨#[]⟩, .slice none 0 0, .slice none 0 0]) : Kd.C k43 w (some ⟨g, 0, none⟩) l.length l := by
  refine ⟨rfl, by omega, fun _ => ⟨_, rfl, fun j p hp => ?_⟩⟩
  obtain ⟨hjl, rfl⟩ := List.getElem?_eq_some_iff.1 hp
  obtain ⟨h2, h3, h4⟩ := h _ (List.getElem_mem hjl)
  refine ⟨[.int .i64 l[j].f0, .int .i64 l[j].f1.f0, .int .i64 l[j].f1.f1, .string l[j].f1.f2, .slice none l[j].f1.f3.length 0, .slice none l[j].f1.f4.length 0], rfl, ?_, ?_⟩
  · refine k43_mk w l[j] (A4 := none) (c4 := 0) (by rw [h3]; exact Nat.le_refl _) ?_ (A5 := none) (c5 := 0) (by rw [h4]; exact Nat.le_refl _) ?_
    · rw [h3]; exact ⟨rfl, by simp, fun h => absurd h (by simp)⟩
    · rw [h4]; exact ⟨rfl, by simp, fun h => absurd h (by simp)⟩
  · intro i u hu
    rw [h2, h3, h4] at hu
    have hsz : k43.sz = 6 := rfl
    rw [hsz, Addr.add_lit, Nat.zero_add]
    have hi : i < 6 := by have := (List.getElem?_eq_some_iff.1 hu).1; simpa using this
    have key : C.toList[j * 6 + i]? = some u := by
      rw [hC]
      clear hC hg hp h2 h3 h4 h hl
      induction l generalizing j with
      | nil => simp at hjl
      | cons y ys ih =>
        rw [List.flatMap_cons]
        cases j with
        | zero =>
          rw [List.getElem?_append_left (by simpa using hi)]
          simpa using hu
        | succ j =>
          rw [List.getElem?_append_right (by simp; omega)]
          have e : (j + 1) * 6 + i - 6 = j * 6 + i := by omega
          have hjl2 : j < ys.length := by simpa using hjl
          have := ih (by omega) j hjl2 hu
          simpa [e] using this
    rw [Array.getElem?_toList] at key
    simp [World.cell?, hg, key]
end Go.Proofs.Ytepddfkdjdklnaa.Ch
