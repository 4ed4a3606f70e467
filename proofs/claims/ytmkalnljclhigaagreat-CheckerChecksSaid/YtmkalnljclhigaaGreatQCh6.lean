/-
  syntax.may, Good.
-/
import Derived.Test.YtmkalnljclhigaaGreatQCh5
namespace Go.Proofs.YtmkalnljclhigaaGreat.Ch
set_option linter.unusedVariables false
set_option linter.unusedSimpArgs false
set_option linter.unnecessarySimpa false
open Go.RowKit Go.Proofs.YtmkalnljclhigaaGreatK Go.Proofs.YtmkalnljclhigaaGreat.XCheckerChecks Go.Proofs.YtmkalnljclhigaaGreatW.PrintWords Go.Proofs.YtmkalnljclhigaaGreatW.PrintLast

theorem cells6 {w : World} {g : Nat} {a0 a1 a2 a3 a4 a5 : Value} {t : TypeId} (h : w.heap[g]? = some (.cells #[a0, a1, a2, a3, a4, a5] t (0, 0))) : w.cell? ⟨g, 0, none⟩ = some a0 ∧ w.cell? ⟨g, 1, none⟩ = some a1 ∧ w.cell? ⟨g, 2, none⟩ = some a2 ∧ w.cell? ⟨g, 3, none⟩ = some a3 ∧ w.cell? ⟨g, 4, none⟩ = some a4 ∧ w.cell? ⟨g, 5, none⟩ = some a5 := by refine ⟨?_, ?_, ?_, ?_, ?_, ?_⟩ <;> simp [World.cell?, h]
noncomputable def mayB (b : S35) : Bool := boxedB b.f0 && goodB b.f1
set_option maxRecDepth 100000 in
set_option maxHeartbeats 2000000 in
theorem may_any (x : S35) (hs : Small x.f1) (A4 : Option Addr) (c4 : Nat) (A5 : Option Addr) (c5 : Nat) (w : World) (hin : BIn w x A4 c4 A5 c5) : Calls Tryz.prog 49 #[bV x A4 c4 A5 c5] w fun e w' => e = .returned (.bool (mayB x)) ∧ Below w.heap.size w w' := by
  have hd := fun W => boxed_any x.f0 W
  have hr := fun W (hb : Below w.heap.size w W) => goodE_any x.f1 hs A4 c4 A5 c5 W (hin.below hb)
  unfold mayB
  obtain ⟨bn, ⟨k, n, f, fs, ks⟩⟩ := x
  dsimp only at *
  generalize boxedB bn = DB at *
  generalize goodB ⟨k, n, f, fs, ks⟩ = RB at *
  have hb0 : Below w.heap.size w (w.alloc (.cells #[.int .i64 bn, .int .i64 k, .int .i64 n, .string f, .slice A4 fs.length c4, .slice A5 ks.length c5] 35)) := s_alloc (Below.refl _ _) _
  have hx0 : (w.alloc (.cells #[.int .i64 bn, .int .i64 k, .int .i64 n, .string f, .slice A4 fs.length c4, .slice A5 ks.length c5] 35)).heap[w.heap.size]? = some (.cells #[.int .i64 bn, .int .i64 k, .int .i64 n, .string f, .slice A4 fs.length c4, .slice A5 ks.length c5] 35 (0, 0)) := Array.getElem?_push_size
  have HD := Lib.hid hd
  have HR := Lib.hid hr
  have HB0 := Lib.hid hb0
  have HX0 := Lib.hid hx0
  clear hd hr hb0 hx0 hin hs
  cases DB
  all_goals
    go_enter Tryz.func49, Tryz.ntmps49
    go_wp2_with (first
      | (go_at_call 66; refine (HD.out _).mono ?_; rintro e w1 ⟨rfl, hb⟩; have HB1 := Lib.hid (s_trans HB0.out hb); obtain ⟨x0, x1, x2, x3, x4, x5⟩ := cells6 (block_on hb HX0.out); clear hb)
      | (go_at_call 67; refine (HR.out _ HB1.out).mono ?_; rintro e w2 ⟨rfl, hb⟩; have HB2 := Lib.hid (s_trans HB1.out hb); clear hb))
    go_ret
    exact ⟨rfl, by first | exact HB2.out | exact HB1.out⟩
theorem good1_any (x : S35) (hs : Small x.f1) (A4 : Option Addr) (c4 : Nat) (A5 : Option Addr) (c5 : Nat) (w : World) (hin : BIn w x A4 c4 A5 c5) : Calls Tryz.prog 48 #[bV x A4 c4 A5 c5] w fun e w' => e = .returned (.bool (!mayB x)) ∧ Below w.heap.size w w' := by
  have hp := fun W (hb : Below w.heap.size w W) => may_any x hs A4 c4 A5 c5 W (hin.below hb)
  generalize mayB x = PB at *
  have hb0 : Below w.heap.size w (w.alloc (.cells #[.int .i64 x.f0, .int .i64 x.f1.f0, .int .i64 x.f1.f1, .string x.f1.f2, .slice A4 x.f1.f3.length c4, .slice A5 x.f1.f4.length c5] 35)) := s_alloc (Below.refl _ _) _
  have HP := Lib.hid hp
  have HB0 := Lib.hid hb0
  clear hp hb0 hin hs
  go_enter Tryz.func48, Tryz.ntmps48
  go_wp2_with (go_at_call 49; refine (HP.out _ HB0.out).mono ?_; rintro e w1 ⟨rfl, hb⟩; have HB1 := Lib.hid (s_trans HB0.out hb); clear hb)
  go_ret
  exact ⟨rfl, HB1.out⟩
noncomputable def goodL (l : List S35) : Bool := decide (l.length ≤ 256) && !l.any (fun b => !mayB b)
theorem good_all (w : World) (A : Option Addr) (c : Nat) (l : List S35) (hr : Kd.C k35 w A l.length l) (hc : l.length ≤ c) (hs : ∀ x ∈ l, Small x.f1) :
    Calls Tryz.prog 23 #[.slice A l.length c] w fun e w' => e = .returned (.bool (goodL l)) ∧ Below w.heap.size w w' := by
  unfold goodL
  by_cases h : l.length ≤ 256
  · have d1 : decide ((l.length : Int) ≤ 256) = true := decide_eq_true (by omega)
    have hg := good_any w A c l (fun b => !mayB b) hr hc (by omega) (fun x hx A4 c4 A5 c5 W hb hin => good1_any x (hs x hx) A4 c4 A5 c5 W hin)
    rw [decide_eq_true h]
    generalize l.any (fun b => !mayB b) = GB at *
    have HG := Lib.hid hg
    clear hg hr hs h
    go_enter Tryz.func23, Tryz.ntmps23
    go_wp2_with (go_at_call 47; refine HG.out.mono ?_; rintro e w1 ⟨rfl, hb⟩; have HB1 := Lib.hid hb; clear hb)
    go_ret
    exact ⟨rfl, HB1.out⟩
  · have d1 : decide ((l.length : Int) ≤ 256) = false := decide_eq_false (by omega)
    rw [decide_eq_false h]
    clear hr hs
    go_enter Tryz.func23, Tryz.ntmps23
    go_wp2
    go_ret
    exact ⟨rfl, Below.refl _ _⟩
end Go.Proofs.YtmkalnljclhigaaGreat.Ch
