/-
  PeopleThird: the walk of the law.
-/
import Derived.Test.YtbjoegladcmibaaQPe6
import Derived.Test.YtbjoegladcmibaaQPl2
import Derived.Test.YtbjoegladcmibaaQZPeopleSetsx1
import Derived.Test.YtbjoegladcmibaaQZPeopleSetsx11
import Derived.Deep.DeepCutAuto
namespace Go.Proofs.Ytbjoegladcmibaa.Pe
set_option linter.unusedVariables false
set_option linter.unusedSimpArgs false
set_option linter.unnecessarySimpa false
open Go.RowKit Go.Maps Go.Proofs.YtbjoegladcmibaaK Go.Proofs.Ytbjoegladcmibaa.ZPeopleSets Go.Proofs.YtbjoegladcmibaaW.PrintWords Go.Proofs.YtbjoegladcmibaaW.PrintLast Go.Proofs.Ytbjoegladcmibaa.Vi Go.Proofs.Ytbjoegladcmibaa.Ln Go.Proofs.Ytbjoegladcmibaa.Pl

theorem mem_size {c : ByteArray} (h : memB c = true) : c.size = 2 := by
  rw [mem_b, List.any_eq_true] at h
  obtain ⟨x, hx, e⟩ := h
  have e' : c = x := of_decide_eq_true e
  subst e'
  have ha : mems.all (fun c => decide (c.size = 2)) = true := by kernel_rfl
  exact of_decide_eq_true (List.all_eq_true.1 ha c hx)
theorem base_on {B : Nat} {w w1 : World} {g : Nat} {x : Obj} (h : Below B w w1) (hg : w.heap[g]? = some x) (hl : g < B) : w1.heap[g]? = some x := (h.block g hl).trans hg
theorem light_sizes {l : List S42} {x : S42} (h : lightB l x = true) : (∀ y ∈ l, y.f1.size ≤ 100 ∧ y.f2.size ≤ 100) ∧ (x.f1.size ≤ 100 ∧ x.f2.size ≤ 100) ∧ l.length ≤ 40 := by
  unfold lightB at h
  rw [Bool.and_eq_true, List.all_eq_true] at h
  have hok : ∀ y, okB y = true → y.f1.size ≤ 100 ∧ y.f2.size ≤ 100 := fun y hy => by
    unfold okB at hy
    rw [Bool.and_eq_true] at hy
    exact ⟨of_decide_eq_true hy.1, of_decide_eq_true hy.2⟩
  exact ⟨fun y hy => hok y (h.1 y (List.mem_append.2 (Or.inl hy))), hok x (h.1 x (List.mem_append.2 (Or.inr (List.mem_singleton.2 rfl)))), of_decide_eq_true h.2⟩
end Go.Proofs.Ytbjoegladcmibaa.Pe
