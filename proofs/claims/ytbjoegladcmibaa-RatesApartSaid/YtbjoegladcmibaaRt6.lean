import Derived.Test.YtbjoegladcmibaaRt5
import Derived.Deep.RegionLawGrows
import Derived.Deep.RegionHeld3
namespace Go.Proofs.Ytbjoegladcmibaa.Rt
set_option linter.unusedVariables false
set_option linter.unusedSimpArgs false
set_option linter.unnecessarySimpa false
open Go.RowKit Go.Maps Go.Proofs.YtbjoegladcmibaaK Go.Proofs.Ytbjoegladcmibaa.Ln Go.Proofs.Ytbjoegladcmibaa.LnI Go.Proofs.Ytbjoegladcmibaa.PRatesApart Go.Proofs.YtbjoegladcmibaaW.PrintWords

theorem light_ends (l : List S26) (s : ByteArray) (c d : Int) (hl : l.length < 9223372036854775807) : ∀ (m i k : Nat), i + m = l.length → m + 1 ≤ k → ∃ r, octroilaw14_light.l0 k l l (l.length : Int) (i : Int) s c d = some r ∧ (r = true → l.length ≤ 60)
  | 0, i, k, h1, h2 => by
    obtain ⟨k, rfl⟩ : ∃ q, k = q + 1 := ⟨k - 1, by omega⟩
    rw [octroilaw14_light.l0, if_neg (by omega)]
    by_cases h : (l.length : Int) ≤ 60
    · rw [if_pos h]; exact ⟨_, rfl, fun _ => by omega⟩
    · rw [if_neg h]; exact ⟨_, rfl, fun e => by cases e⟩
  | m + 1, i, k, h1, h2 => by
    obtain ⟨k, rfl⟩ : ∃ q, k = q + 1 := ⟨k - 1, by omega⟩
    rw [octroilaw14_light.l0, if_pos (by omega), if_pos (by omega), if_pos (by omega)]
    by_cases h : (((rd_T26 l i).f0).size : Int) > 100
    · rw [if_pos h]; exact ⟨_, rfl, fun e => by cases e⟩
    · rw [if_neg h]
      have e : wrap64 ((i : Int) + 1) = ((i + 1 : Nat) : Int) := by
        unfold wrap64
        omega
      rw [e]
      exact light_ends l s c d hl m (i + 1) k (by omega) (by omega)
theorem light_any (l : List S26) (s : ByteArray) (c d : Int) (hl : l.length < 9223372036854775807) :
    ∃ b, (b = true → l.length ≤ 60) ∧ ∀ (A : Option Addr) (c0 : Nat) (w : World), Kd.C k26 w A l.length l → l.length ≤ c0 → Calls Try.prog 11 #[.slice A l.length c0, .agg #[.string s, .int .i64 c, .int .i64 d]] w fun e w' => e = .returned (.bool b) ∧ Below w.heap.size w w' := by
  obtain ⟨r, h1, h2⟩ := light_ends l s c d hl l.length 0 (l.length + 1) (by omega) (by omega)
  exact ⟨r, h2, fun A c0 w hr hc => octroilaw14_light.calls (l.length + 1) A c0 l s c d r w hr hc h1⟩
/-- The cells of a list that came in, and what a longer row of them reads as. -/
theorem olds_of {w : World} {A : Option Addr} {l : List S26} (h : Kd.C k26 w A l.length l) : ∃ olds, Reps (fun (p : S26) c => k26.K w p c) 5 l olds ∧ ∀ b, A = some b → ∀ j u, olds[j]? = some u → w.cell? (b.add j) = some u := by
  cases A with
  | some b =>
    obtain ⟨inner, h1, h2⟩ := ReadsRow.inner_ h
    exact ⟨inner, h1, fun b' e => by cases e; exact h2⟩
  | none =>
    have hn : l.length = 0 := by
      rcases Nat.eq_zero_or_pos l.length with h0 | h0
      · exact h0
      · obtain ⟨ad, e, _⟩ := h.2.2 h0
        cases e
    obtain rfl := List.eq_nil_of_length_eq_zero hn
    exact ⟨[], Reps.none _ _, fun b' e => by cases e⟩
def cs26 (x : S26) : List Value := [.string x.f0, .int .i64 x.f1, .int .i64 x.f2.f0, .int .i64 x.f2.f1, .int .i64 x.f2.f2]
theorem grown_reads {w w' : World} {base : Nat} {v : Value} {l : List S26} {x : S26} {olds : List Value} (hl : Reps (fun (p : S26) c => k26.K w p c) 5 l olds) (h : w'.ownsRow base 26 5 v (l.length + 1) (olds ++ cs26 x)) (hb : Below w.heap.size w w') :
    ∃ A c, v = .slice A (l ++ [x]).length c ∧ (l ++ [x]).length ≤ c ∧ Kd.C k26 w' A (l ++ [x]).length (l ++ [x]) := by
  have h1 : Reps (fun (p : S26) c => k26.K w' p c) 5 (l ++ [x]) (olds ++ cs26 x) := (hl.imp_ (fun p c hp => k26.K_below hb hp)).snoc (k26_mk w' x) rfl
  have h2 : OwnRow (fun (p : S26) c => k26.K w' p c) 26 5 w' base v (l ++ [x]) := ⟨_, by rw [List.length_append]; exact h, h1⟩
  exact h2.reads
end Go.Proofs.Ytbjoegladcmibaa.Rt
