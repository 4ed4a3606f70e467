import Derived.Test.YtejmbnahdkgpmaaL3
import Derived.ProofKit
import Derived.OpenShut
import Derived.ChangeOld
import Derived.SizedLaws
namespace Go.Proofs.Ytejmbnahdkgpmaa
set_option linter.unusedVariables false
set_option linter.unusedSimpArgs false
open Go.ChangeShapes Go.WideShapes Go.ChangeAt Go.RowKit
theorem Try.own : ownKnob Try.prog.godebug = none := by kernel_rfl
theorem Try.laidOut : laidOutB Try.prog = true := by kernel_rfl

theorem array9 {α : Type} {cs : Array α} (h : cs.size = 9) : ∃ c0 c1 c2 c3 c4 c5 c6 c7 c8, cs = #[c0, c1, c2, c3, c4, c5, c6, c7, c8] := by
  obtain ⟨l⟩ := cs
  match l, h with
  | [c0, c1, c2, c3, c4, c5, c6, c7, c8], _ => exact ⟨c0, c1, c2, c3, c4, c5, c6, c7, c8, rfl⟩

section
variable {H : Type} {enc : TypeId × Value → H} {w : World} {base : Nat} {spare : Nat → Bool} {held : Bool}
theorem one_bool {fuel : Nat} {c : Value} {o : Option (DataW H × List MemPlace)} (h : DataW.trod enc Try.prog w base spare held fuel 4 [c] = o) (ho : ∃ y, o = some y) : ∃ b, c = .bool b := by
  obtain ⟨y, rfl⟩ := ho
  obtain ⟨b, hb, _⟩ := DataW.trod_bool Try.underlying4 h
  exact ⟨b, by simpa using hb⟩
theorem one_int {fuel : Nat} {c : Value} {o : Option (DataW H × List MemPlace)} (h : DataW.trod enc Try.prog w base spare held fuel 3 [c] = o) (ho : ∃ y, o = some y) : ∃ n, c = .int .i64 n := by
  obtain ⟨y, rfl⟩ := ho
  obtain ⟨b, hb, _⟩ := DataW.trod_int Try.underlying3 h
  exact ⟨b, by simpa using hb⟩
theorem open_case {r : Reach} {b0 : Nat} {v : Value} {d : DataW H} {p : List MemPlace} (hv : Value.okWide Try.prog w r b0 36 v) (h : DataW.Trod enc Try.prog w base spare held 36 v d p) :
    ∃ (s : Bool) (k : Int) (x : Bool) (f t q l : Int) (b o : Bool), v = .agg #[.bool s, .int .i64 k, .bool x, .int .i64 f, .int .i64 t, .int .i64 q, .int .i64 l, .bool b, .bool o] := by
  obtain ⟨cs, rfl, hsz⟩ := okWide_struct Try.underlying36 hv
  obtain ⟨c0, c1, c2, c3, c4, c5, c6, c7, c8, rfl⟩ := array9 (hsz.trans (by kernel_rfl))
  obtain ⟨fuel, hf⟩ := h
  obtain ⟨xs, n, _, _, _, hlen, hg⟩ := DataW.trod_struct Try.underlying36 hf
  have k3 : Try.prog.cellsOf 3 = 1 := by kernel_rfl
  have k4 : Try.prog.cellsOf 4 = 1 := by kernel_rfl
  have hx : ∀ i, i < 9 → ∃ y, xs[i]? = some y := fun i hi => ⟨xs[i]'(by rw [hlen]; exact hi), by rw [List.getElem?_eq_getElem]⟩
  have g0 := hg 0 _ rfl
  have g1 := hg 1 _ rfl
  have g2 := hg 2 _ rfl
  have g3 := hg 3 _ rfl
  have g4 := hg 4 _ rfl
  have g5 := hg 5 _ rfl
  have g6 := hg 6 _ rfl
  have g7 := hg 7 _ rfl
  have g8 := hg 8 _ rfl
  simp only [Value.cells, k3, k4, List.drop, List.take] at g0 g1 g2 g3 g4 g5 g6 g7 g8
  obtain ⟨s, rfl⟩ := one_bool g0 (hx 0 (by omega))
  obtain ⟨k, rfl⟩ := one_int g1 (hx 1 (by omega))
  obtain ⟨x, rfl⟩ := one_bool g2 (hx 2 (by omega))
  obtain ⟨f, rfl⟩ := one_int g3 (hx 3 (by omega))
  obtain ⟨t, rfl⟩ := one_int g4 (hx 4 (by omega))
  obtain ⟨q, rfl⟩ := one_int g5 (hx 5 (by omega))
  obtain ⟨l, rfl⟩ := one_int g6 (hx 6 (by omega))
  obtain ⟨b, rfl⟩ := one_bool g7 (hx 7 (by omega))
  obtain ⟨o, rfl⟩ := one_bool g8 (hx 8 (by omega))
  exact ⟨s, k, x, f, t, q, l, b, o, rfl⟩
end
theorem lt_of_trod {H : Type} {enc : TypeId × Value → H} {W : World} {t : TypeId} {v : Value} {d : DataW H} {p : List MemPlace} (h : DataW.Trod enc Try.prog W 0 (fun _ => true) true t v d p) : ∀ x ∈ p, x.block < W.heap.size := by
  obtain ⟨m, hm⟩ := h
  exact DataW.trod_lt m _ _ _ hm

end Go.Proofs.Ytejmbnahdkgpmaa
