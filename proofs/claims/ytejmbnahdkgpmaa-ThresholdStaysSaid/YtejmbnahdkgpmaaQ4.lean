import Derived.Test.YtejmbnahdkgpmaaQ3
import Derived.ProofKit
import Derived.OpenShut
import Derived.ChangeOld
import Derived.SizedLaws
import Derived.Deep.Slices
import Derived.Lib.SmallJoins
namespace Go.Proofs.Ytejmbnahdkgpmaa
set_option linter.unusedVariables false
set_option linter.unusedSimpArgs false
set_option linter.unnecessarySimpa false
open Go.ChangeShapes Go.WideShapes Go.ChangeAt Go.RowKit Go.Deep
theorem Thr.own : ownKnob Try.prog.godebug = none := by kernel_rfl
theorem Thr.laidOut : laidOutB Try.prog = true := by kernel_rfl

section
variable {H : Type} {enc : TypeId × Value → H} {w : World} {base : Nat} {spare : Nat → Bool} {held : Bool}
theorem Thr.one_int {fuel : Nat} {c : Value} {o : Option (DataW H × List MemPlace)} (h : DataW.trod enc Try.prog w base spare held fuel 3 [c] = o) (ho : ∃ y, o = some y) : ∃ n, c = .int .i64 n ∧ (Lit.int .i64 n).wf = true := by
  obtain ⟨y, rfl⟩ := ho
  obtain ⟨b, hb, _, hw⟩ := DataW.trod_int Try.underlying3 h
  exact ⟨b, by simpa using hb, hw⟩
theorem Thr.two {fuel : Nat} {cs : List Value} {x : DataW H × List MemPlace} (h : DataW.trod enc Try.prog w base spare held fuel 24 cs = some x) :
    ∃ a b : Int, cs = [.int .i64 a, .int .i64 b] ∧ (Lit.int .i64 a).wf = true ∧ (Lit.int .i64 b).wf = true := by
  obtain ⟨xs, n, _, _, hl, hlen, hg⟩ := DataW.trod_struct Try.underlying24 h
  have k3 : Try.prog.cellsOf 3 = 1 := by kernel_rfl
  have k24 : Try.prog.cellsOf 24 = 2 := by kernel_rfl
  rw [k24] at hl
  have hx : ∀ i, i < 2 → ∃ y, xs[i]? = some y := fun i hi => ⟨xs[i]'(by rw [hlen]; exact hi), by rw [List.getElem?_eq_getElem]⟩
  match cs, hl with
  | [c0, c1], _ =>
    have g0 := hg 0 _ rfl
    have g1 := hg 1 _ rfl
    obtain ⟨a, rfl, ha⟩ := Thr.one_int g0 (hx 0 (by omega))
    obtain ⟨b, rfl, hb⟩ := Thr.one_int g1 (hx 1 (by omega))
    exact ⟨a, b, rfl, ha, hb⟩
theorem Thr.open_sold {r : Reach} {b0 : Nat} {v : Value} {d : DataW H} {p : List MemPlace} (hv : Value.okWide Try.prog w r b0 24 v) (h : DataW.Trod enc Try.prog w base spare held 24 v d p) :
    ∃ a b : Int, v = .agg #[.int .i64 a, .int .i64 b] ∧ (Lit.int .i64 a).wf = true ∧ (Lit.int .i64 b).wf = true := by
  obtain ⟨cs, rfl, hsz⟩ := okWide_struct Try.underlying24 hv
  obtain ⟨fuel, hf⟩ := h
  obtain ⟨a, b, hc, ha, hb⟩ := Thr.two hf
  exact ⟨a, b, by have : cs = #[.int .i64 a, .int .i64 b] := by
                    have h' : cs.toList = [.int .i64 a, .int .i64 b] := hc
                    rw [← Array.toArray_toList (xs := cs), h']
                  rw [this], ha, hb⟩
theorem Thr.open_solds {A : Option Addr} {len cap : Nat} {d : DataW H} {p : List MemPlace} (h : DataW.Trod enc Try.prog w base spare held 22 (.slice A len cap) d p) (hl : ∀ a, spare a = true) :
    len ≤ 9223372036854775807 ∧ ∃ xs, Thr.RSold w A len xs := by
  obtain ⟨fuel, hf⟩ := h
  rcases open_slice Try.underlying22 hf with ⟨hcs, _⟩ | ⟨a, l, c, m, n, D, Pl, hcs, _, hlc, hcm, hm, _, hi⟩
  · simp [Value.cells] at hcs
    obtain ⟨rfl, rfl, rfl⟩ := hcs
    exact ⟨by omega, [], rfl, fun j hj => absurd hj (by omega)⟩
  · simp [Value.cells] at hcs
    obtain ⟨rfl, rfl, rfl⟩ := hcs
    have hmm : len ≤ m := by rw [hm, hl]; simpa using hlc
    have k24 : Try.prog.cellsOf 24 = 2 := by kernel_rfl
    have each : ∀ i, ∃ x : Int × Int, i < len → w.cell? (a.add (i * 2)) = some (.int .i64 x.1) ∧ w.cell? ((a.add (i * 2)).add 1) = some (.int .i64 x.2) ∧ (Lit.int .i64 x.1).wf = true := fun i => by
      by_cases hil : i < len
      · obtain ⟨cs', hc, ht⟩ := hi i (by omega)
        obtain ⟨y, b, rfl, hy, hb⟩ := Thr.two ht
        rw [k24] at hc
        obtain ⟨_, hcell⟩ := World.cells?_some hc
        refine ⟨(y, b), fun _ => ⟨?_, ?_, hy⟩⟩
        · have := hcell.2 0 (by omega)
          rw [Addr.add_zero'] at this
          simpa using this
        · have := hcell.2 1 (by omega)
          simpa using this
      · exact ⟨(0, 0), fun h => absurd h hil⟩
    obtain ⟨f, hf'⟩ := Classical.axiomOfChoice each
    refine ⟨by unfold maxLen at hcm; omega, (List.range len).map f, by simp, fun j hj => ⟨a, rfl, ?_⟩⟩
    have e : ((List.range len).map f).getD j (0, 0) = f j := by simp [List.getD_eq_getElem?_getD, hj]
    rw [e]
    exact hf' j hj
theorem Thr.open_ints {A : Option Addr} {len cap : Nat} {d : DataW H} {p : List MemPlace} (h : DataW.Trod enc Try.prog w base spare held 25 (.slice A len cap) d p) (hl : ∀ a, spare a = true) :
    len ≤ 9223372036854775807 ∧ ∃ xs : List Int, ∀ j, j < len → ∃ ad, A = some ad ∧ w.cell? (ad.add j) = some (.int .i64 (xs.getD j 0)) := by
  obtain ⟨fuel, hf⟩ := h
  rcases Go.ChangeShapes.open_ints Try.underlying25 Try.underlying3 (by kernel_rfl) hf with ⟨hcs, _⟩ | ⟨a, l, c, zs, hcs, _, hlc, hcm, hz, _, hcell, _⟩
  · simp [Value.cells] at hcs
    obtain ⟨rfl, rfl, rfl⟩ := hcs
    exact ⟨by omega, [], fun j hj => absurd hj (by omega)⟩
  · simp [Value.cells] at hcs
    obtain ⟨rfl, rfl, rfl⟩ := hcs
    have hzz : len ≤ zs.length := by rw [hz, hl]; simpa using hlc
    exact ⟨by unfold maxLen at hcm; omega, zs, fun j hj => ⟨a, rfl, hcell j (by omega)⟩⟩
end
theorem Thr.lt_of_trod {H : Type} {enc : TypeId × Value → H} {W : World} {t : TypeId} {v : Value} {d : DataW H} {p : List MemPlace} (h : DataW.Trod enc Try.prog W 0 (fun _ => true) true t v d p) : ∀ x ∈ p, x.block < W.heap.size := by
  obtain ⟨m, hm⟩ := h
  exact DataW.trod_lt m _ _ _ hm
end Go.Proofs.Ytejmbnahdkgpmaa
