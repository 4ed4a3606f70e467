/-
  syntax: names, numbers, filters.
-/
import Derived.Test.YtmkalnljclhigaaGreatQCh1
import Derived.Test.YtmkalnljclhigaaGreatQXCheckerChecksx11
import Derived.Test.YtmkalnljclhigaaGreatQShelf
import Derived.Shelf.GgClosure.Gives
namespace Go.Proofs.YtmkalnljclhigaaGreat.Ch
set_option linter.unusedVariables false
set_option linter.unusedSimpArgs false
set_option linter.unnecessarySimpa false
open Go.RowKit Go.Proofs.YtmkalnljclhigaaGreatK Go.Proofs.YtmkalnljclhigaaGreat.XCheckerChecks Go.Proofs.YtmkalnljclhigaaGreatW.PrintWords Go.Proofs.YtmkalnljclhigaaGreatW.PrintLast

theorem cells3 {w : World} {g : Nat} {a0 a1 a2 : Value} {t : TypeId} (h : w.heap[g]? = some (.cells #[a0, a1, a2] t (0, 0))) : w.cell? ⟨g, 0, none⟩ = some a0 ∧ w.cell? ⟨g, 1, none⟩ = some a1 ∧ w.cell? ⟨g, 2, none⟩ = some a2 := by refine ⟨?_, ?_, ?_⟩ <;> simp [World.cell?, h]
theorem outB_at (w : World) : PredAt Tryz.prog 105 #[] encR (fun r => decide (r < 97) || decide (122 < r)) w := fun W r _ => by
  unfold FnGives
  by_cases h1 : r < 97 <;> by_cases h2 : 122 < r
  all_goals
    have z1 : (r : Int) < 97 ↔ r < 97 := by omega
    have z2 : (122 : Int) < (r : Int) ↔ 122 < r := by omega
    go_enter Tryz.func105, Tryz.ntmps105
    go_wp2
    go_ret
    exact ⟨by simp [h1, h2, z1, z2], 0, rfl⟩
def numB (n : Int) : Bool := decide (0 ≤ n ∧ n ≤ 999999999999999999)
theorem num_f (n : Int) : syntax_number.f n = some (numB n) := by
  unfold syntax_number.f numB
  by_cases h : n ≥ 0
  · rw [if_pos h]
    refine congrArg some ?_
    rw [decide_eq_decide]
    exact ⟨fun h2 => ⟨h, h2⟩, fun h2 => h2.2⟩
  · rw [if_neg h]
    exact congrArg some (decide_eq_false (fun h2 => h h2.1)).symm
def boxedB (n : Int) : Bool := decide (1 ≤ n ∧ n ≤ 9999)
theorem boxed_f (n : Int) : syntax_boxed.f n = some (boxedB n) := by
  unfold syntax_boxed.f boxedB
  by_cases h : n ≥ 1
  · rw [if_pos h]
    refine congrArg some ?_
    rw [decide_eq_decide]
    exact ⟨fun h2 => ⟨h, h2⟩, fun h2 => h2.2⟩
  · rw [if_neg h]
    exact congrArg some (decide_eq_false (fun h2 => h h2.1)).symm
def keyB (s : ByteArray) : Bool := (lexer_Keyword.f s).getD false
theorem key_f (s : ByteArray) : lexer_Keyword.f s = some (keyB s) := by
  have : ∃ b, lexer_Keyword.f s = some b := by
    unfold lexer_Keyword.f
    repeat (first | exact ⟨_, rfl⟩ | split)
  obtain ⟨b, h⟩ := this
  unfold keyB
  rw [h]
  rfl
theorem number_any (n : Int) (w : World) : Calls Tryz.prog 91 #[.int .i64 n] w fun e w' => e = .returned (.bool (numB n)) ∧ Below w.heap.size w w' :=
  (syntax_number.calls n _ w (num_f n)).mono fun _ _ ⟨h1, h2⟩ => ⟨h1, h2.below⟩
theorem boxed_any (n : Int) (w : World) : Calls Tryz.prog 66 #[.int .i64 n] w fun e w' => e = .returned (.bool (boxedB n)) ∧ Below w.heap.size w w' :=
  (syntax_boxed.calls n _ w (boxed_f n)).mono fun _ _ ⟨h1, h2⟩ => ⟨h1, h2.below⟩
theorem key_any (s : ByteArray) (w : World) : Calls Tryz.prog 103 #[.string s] w fun e w' => e = .returned (.bool (keyB s)) ∧ Below w.heap.size w w' :=
  (lexer_Keyword.calls s _ w (key_f s)).mono fun _ _ ⟨h1, h2⟩ => ⟨h1, h2.below⟩
noncomputable def outIn (s : ByteArray) : Bool := decide (0 ≤ Lib.idxFunc (fun r => decide (r < 97) || decide (122 < r)) true s)
theorem out_any (s : ByteArray) (w : World) : Calls Tryz.prog 104 #[.string s, .func (.func 105) #[] #[]] w fun e w' => e = .returned (.bool (outIn s)) ∧ Below w.heap.size w w' :=
  Tryz.strings_ContainsFunc 105 #[] (enters_of Tryz.func105 (by kernel_rfl) rfl) _ s w (outB_at w)
noncomputable def nameB (s : ByteArray) : Bool := if s.size < 1 then false else if 32 < s.size then false else if keyB s = true then false else !outIn s
set_option maxRecDepth 100000 in
theorem name_any (s : ByteArray) (w : World) : Calls Tryz.prog 94 #[.string s] w fun e w' => e = .returned (.bool (nameB s)) ∧ Below w.heap.size w w' := by
  have hk := fun w => key_any s w
  have ho := fun w => out_any s w
  unfold nameB
  generalize outIn s = OI at *
  by_cases h1 : s.size < 1
  · have d1 : decide ((s.size : Int) < 1) = true := decide_eq_true (by omega)
    clear hk ho
    rw [if_pos h1]
    go_enter Tryz.func94, Tryz.ntmps94
    go_wp2
    go_ret
    exact ⟨rfl, Below.refl _ _⟩
  · have d1 : decide ((s.size : Int) < 1) = false := decide_eq_false (by omega)
    rw [if_neg h1]
    by_cases h2 : 32 < s.size
    · have d2 : decide ((32 : Int) < (s.size : Int)) = true := decide_eq_true (by omega)
      clear hk ho
      rw [if_pos h2]
      go_enter Tryz.func94, Tryz.ntmps94
      go_wp2
      go_ret
      exact ⟨rfl, Below.refl _ _⟩
    · have d2 : decide ((32 : Int) < (s.size : Int)) = false := decide_eq_false (by omega)
      rw [if_neg h2]
      cases hkb : keyB s with
      | true =>
        rw [hkb] at hk
        rw [if_pos rfl]
        have HK := Lib.hid hk
        clear hk ho hkb
        go_enter Tryz.func94, Tryz.ntmps94
        go_wp2_with (go_at_call 103; refine (HK.out _).mono ?_; rintro e w1 ⟨rfl, hb⟩; have HB1 := Lib.hid hb; clear hb)
        go_ret
        exact ⟨rfl, HB1.out⟩
      | false =>
        rw [hkb] at hk
        rw [if_neg (by simp)]
        have HK := Lib.hid hk
        have HO := Lib.hid ho
        clear hk ho hkb
        go_enter Tryz.func94, Tryz.ntmps94
        go_wp2_with (first
          | (go_at_call 103; refine (HK.out _).mono ?_; rintro e w1 ⟨rfl, hb⟩; have HB1 := Lib.hid hb; clear hb)
          | (go_at_call 104; refine (HO.out _).mono ?_; rintro e w2 ⟨rfl, hb⟩; have HB2 := Lib.hid (s_trans HB1.out hb); clear hb))
        go_ret
        exact ⟨rfl, HB2.out⟩
noncomputable def picksB (f : S62) : Bool := nameB f.f0 && (decide (f.f1 = 61) || decide (f.f1 = 60) || decide (f.f1 = 62)) && numB f.f2
set_option maxRecDepth 100000 in
theorem picks_any (f : S62) (w : World) : Calls Tryz.prog 93 #[fV f] w fun e w' => e = .returned (.bool (picksB f)) ∧ Below w.heap.size w w' := by
  have hn := fun w => name_any f.f0 w
  have hnum := fun w => number_any f.f2 w
  unfold picksB
  generalize nameB f.f0 = NB at *
  generalize numB f.f2 = UB at *
  have hb0 : Below w.heap.size w (w.alloc (.cells #[.string f.f0, .int .u8 f.f1, .int .i64 f.f2] 62)) := s_alloc (Below.refl _ _) _
  have hx0 : (w.alloc (.cells #[.string f.f0, .int .u8 f.f1, .int .i64 f.f2] 62)).heap[w.heap.size]? = some (.cells #[.string f.f0, .int .u8 f.f1, .int .i64 f.f2] 62 (0, 0)) := Array.getElem?_push_size
  have HN := Lib.hid hn
  have HU := Lib.hid hnum
  have HB0 := Lib.hid hb0
  have HX0 := Lib.hid hx0
  clear hn hnum hb0 hx0
  by_cases k1 : f.f1 = 61 <;> by_cases k2 : f.f1 = 60 <;> by_cases k3 : f.f1 = 62 <;> cases NB
  all_goals
    first
      | (exfalso; omega)
      | skip
  all_goals
    have j1 : (f.f1 == 61) = decide (f.f1 = 61) := by rw [Bool.eq_iff_iff]; simp
    have j2 : (f.f1 == 60) = decide (f.f1 = 60) := by rw [Bool.eq_iff_iff]; simp
    have j3 : (f.f1 == 62) = decide (f.f1 = 62) := by rw [Bool.eq_iff_iff]; simp
    simp only [k1, k2, k3, decide_true, decide_false] at j1 j2 j3
    have J1 := Lib.hid k1
    have J2 := Lib.hid k2
    have J3 := Lib.hid k3
    clear k1 k2 k3
    go_enter Tryz.func93, Tryz.ntmps93
    go_wp2_with (first
      | (go_at_call 94; refine (HN.out _).mono ?_; rintro e w1 ⟨rfl, hb⟩; have HB1 := Lib.hid (s_trans HB0.out hb); obtain ⟨x0, x1, x2⟩ := cells3 (block_on hb HX0.out); clear hb)
      | (go_at_call 91; refine (HU.out _).mono ?_; rintro e w2 ⟨rfl, hb⟩; have HB2 := Lib.hid (s_trans HB1.out hb); clear hb))
    go_ret
    refine ⟨?_, by first | exact HB2.out | exact HB1.out⟩
    first
      | rfl
      | (simp [J1.out, J2.out, J3.out]; done)
end Go.Proofs.YtmkalnljclhigaaGreat.Ch
