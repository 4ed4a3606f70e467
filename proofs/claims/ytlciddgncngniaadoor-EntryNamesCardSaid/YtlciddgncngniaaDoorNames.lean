/-
  treat.Name: its contract.
-/
import Derived.Test.YtlciddgncngniaaDoorK2
namespace Go.Proofs.YtlciddgncngniaaDoor.EN
set_option linter.unusedVariables false
set_option linter.unusedSimpArgs false
open Go.RowKit Go.Proofs.YtlciddgncngniaaDoorK

def nmL : List (List UInt8) := [[], [104, 111, 109, 101], [102, 114, 101, 101, 100], [109, 97, 114, 103, 105, 110], [105, 110, 116, 114, 97], [101, 120, 112, 111, 114, 116], [114, 101, 118, 101, 114, 115, 101], [111, 117, 116, 115, 105, 100, 101], [100, 105, 115, 116, 97, 110, 99, 101], [98, 101, 108, 111, 119], [97, 98, 114, 111, 97, 100], [105, 110, 112, 117, 116], [97, 99, 113, 117, 105, 115, 105, 116, 105, 111, 110], [114, 101, 99, 101, 105, 118, 101, 100], [105, 109, 112, 111, 114, 116], [97, 100, 106, 117, 115, 116, 101, 100]]
def nameS (t : Int) : ByteArray := if 0 ≤ t ∧ t < 16 then ⟨(nmL.getD t.toNat []).toArray⟩ else ⟨#[]⟩

theorem nm_at (t : Int) (h0 : 0 ≤ t) (h1 : t < 16) (hp : t.toNat < 16) : [Value.string ⟨#[]⟩, .string ⟨#[104, 111, 109, 101]⟩, .string ⟨#[102, 114, 101, 101, 100]⟩, .string ⟨#[109, 97, 114, 103, 105, 110]⟩, .string ⟨#[105, 110, 116, 114, 97]⟩, .string ⟨#[101, 120, 112, 111, 114, 116]⟩, .string ⟨#[114, 101, 118, 101, 114, 115, 101]⟩, .string ⟨#[111, 117, 116, 115, 105, 100, 101]⟩, .string ⟨#[100, 105, 115, 116, 97, 110, 99, 101]⟩, .string ⟨#[98, 101, 108, 111, 119]⟩, .string ⟨#[97, 98, 114, 111, 97, 100]⟩, .string ⟨#[105, 110, 112, 117, 116]⟩, .string ⟨#[97, 99, 113, 117, 105, 115, 105, 116, 105, 111, 110]⟩, .string ⟨#[114, 101, 99, 101, 105, 118, 101, 100]⟩, .string ⟨#[105, 109, 112, 111, 114, 116]⟩, .string ⟨#[97, 100, 106, 117, 115, 116, 101, 100]⟩][t.toNat]'hp = .string (nameS t) := by
  have h16 : t = 0 ∨ t = 1 ∨ t = 2 ∨ t = 3 ∨ t = 4 ∨ t = 5 ∨ t = 6 ∨ t = 7 ∨ t = 8 ∨ t = 9 ∨ t = 10 ∨ t = 11 ∨ t = 12 ∨ t = 13 ∨ t = 14 ∨ t = 15 := by omega
  rcases h16 with rfl | rfl | rfl | rfl | rfl | rfl | rfl | rfl | rfl | rfl | rfl | rfl | rfl | rfl | rfl | rfl <;> rfl

theorem names_any (w : World) : Calls Tryd.prog 93 #[] w fun e w' => e = .returned (.agg #[.string ⟨#[]⟩, .string ⟨#[104, 111, 109, 101]⟩, .string ⟨#[102, 114, 101, 101, 100]⟩, .string ⟨#[109, 97, 114, 103, 105, 110]⟩, .string ⟨#[105, 110, 116, 114, 97]⟩, .string ⟨#[101, 120, 112, 111, 114, 116]⟩, .string ⟨#[114, 101, 118, 101, 114, 115, 101]⟩, .string ⟨#[111, 117, 116, 115, 105, 100, 101]⟩, .string ⟨#[100, 105, 115, 116, 97, 110, 99, 101]⟩, .string ⟨#[98, 101, 108, 111, 119]⟩, .string ⟨#[97, 98, 114, 111, 97, 100]⟩, .string ⟨#[105, 110, 112, 117, 116]⟩, .string ⟨#[97, 99, 113, 117, 105, 115, 105, 116, 105, 111, 110]⟩, .string ⟨#[114, 101, 99, 101, 105, 118, 101, 100]⟩, .string ⟨#[105, 109, 112, 111, 114, 116]⟩, .string ⟨#[97, 100, 106, 117, 115, 116, 101, 100]⟩]) ∧ Below w.heap.size w w' := by
  go_enter Tryd.func93, Tryd.ntmps93
  go_wp2
  exact bodyPost_ret (v := .agg #[.string ⟨#[]⟩, .string ⟨#[104, 111, 109, 101]⟩, .string ⟨#[102, 114, 101, 101, 100]⟩, .string ⟨#[109, 97, 114, 103, 105, 110]⟩, .string ⟨#[105, 110, 116, 114, 97]⟩, .string ⟨#[101, 120, 112, 111, 114, 116]⟩, .string ⟨#[114, 101, 118, 101, 114, 115, 101]⟩, .string ⟨#[111, 117, 116, 115, 105, 100, 101]⟩, .string ⟨#[100, 105, 115, 116, 97, 110, 99, 101]⟩, .string ⟨#[98, 101, 108, 111, 119]⟩, .string ⟨#[97, 98, 114, 111, 97, 100]⟩, .string ⟨#[105, 110, 112, 117, 116]⟩, .string ⟨#[97, 99, 113, 117, 105, 115, 105, 116, 105, 111, 110]⟩, .string ⟨#[114, 101, 99, 101, 105, 118, 101, 100]⟩, .string ⟨#[105, 109, 112, 111, 114, 116]⟩, .string ⟨#[97, 100, 106, 117, 115, 116, 101, 100]⟩]) (by simp [results, Tryd.results93, go_sem]) rfl ⟨rfl, s_alloc (Below.refl _ _) _⟩


set_option maxRecDepth 100000 in
set_option maxHeartbeats 4000000 in
theorem name_in (t : Int) (h0 : 0 ≤ t) (h1 : t < 16) (w : World) : Calls Tryd.prog 53 #[.int .i64 t] w fun e w' => e = .returned (.string (nameS t)) ∧ Below w.heap.size w w' := by
  go_enter Tryd.func53, Tryd.ntmps53
  go_wp2_with (go_at_call 93; refine (names_any _).mono ?_; rintro e w1 ⟨rfl, hb1⟩)
  go_ret
  exact ⟨congrArg Ending.returned (nm_at t h0 h1 _), s_alloc (s_trans (Below.refl _ _) (by assumption)) _⟩
set_option maxRecDepth 100000 in
set_option maxHeartbeats 4000000 in
theorem name_out (t : Int) (h : ¬ (0 ≤ t ∧ t < 16)) (w : World) : Calls Tryd.prog 53 #[.int .i64 t] w fun e w' => e = .returned (.string (nameS t)) ∧ Below w.heap.size w w' := by
  go_enter Tryd.func53, Tryd.ntmps53
  go_wp2_with (go_at_call 93; refine (names_any _).mono ?_; rintro e w1 ⟨rfl, hb1⟩)
  all_goals
    first
      | (exfalso; omega)
      | (go_ret; refine ⟨?_, s_alloc (s_trans (Below.refl _ _) (by assumption)) _⟩; simp only [nameS, if_neg h]; rfl)
end Go.Proofs.YtlciddgncngniaaDoor.EN
