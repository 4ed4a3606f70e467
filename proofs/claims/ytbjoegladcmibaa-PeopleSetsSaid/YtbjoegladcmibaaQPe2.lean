/-
  people: New, holds, Opted, Home, Business.
-/
import Derived.Test.YtbjoegladcmibaaQPe1
namespace Go.Proofs.Ytbjoegladcmibaa.Pe
set_option linter.unusedVariables false
set_option linter.unusedSimpArgs false
set_option linter.unnecessarySimpa false
open Go.RowKit Go.Maps Go.Proofs.YtbjoegladcmibaaK Go.Proofs.Ytbjoegladcmibaa.Ln Go.Proofs.Ytbjoegladcmibaa.LnB Go.Proofs.Ytbjoegladcmibaa.Vi Go.Proofs.YtbjoegladcmibaaW.PrintWords

def M0 (g0 : Nat) : PM := fun k => match k with | none => some (g0, .slice none 0 0, []) | some _ => none
theorem new_no (w : World) (home : ByteArray) (hm : memB home = false) : Calls Try.prog 19 #[.string home] w fun e w' => e = .returned (.pointer none) ∧ Below w.heap.size w w' := by
  have h := fun wx => member_any home wx
  rw [hm] at h
  have H := Lib.hid h
  clear h
  go_enter Try.func19, Try.ntmps19
  go_wp2_with (go_at_call 53; refine (H.out _).mono ?_; rintro e w1 ⟨rfl, hb⟩; have HB := Lib.hid hb; clear hb)
  go_ret
  exact ⟨rfl, HB.out⟩
theorem new_any (w : World) (home : ByteArray) (hm : memB home = true) : Calls Try.prog 19 #[.string home] w fun e w' => ∃ p m g0, e = .returned (.pointer (some ⟨p, 0, none⟩)) ∧ Pp w' w.heap.size p m 0 home (M0 g0) ∧ Below w.heap.size w w' := by
  have h := fun wx => member_any home wx
  rw [hm] at h
  have H := Lib.hid h
  have hmm := @run_makeMap Try.prog
  have hf := fun wx (hx : w.heap.size ≤ wx.heap.size) => fresh_any wx w.heap.size hx
  have HF := Lib.hid hf
  clear h hf
  go_enter Try.func19, Try.ntmps19
  go_wp2_with (first
    | (go_at_call 53; refine (H.out _).mono ?_; rintro e w1 ⟨rfl, hb⟩; have HB := Lib.hid hb; clear hb)
    | (go_at_call 59; refine (HF.out _ HB.out.size).mono ?_; rintro e w2 ⟨g, rfl, hg, hl, hb⟩; have HG := Lib.hid hg; have HL := Lib.hid hl; have HB2 := Lib.hid (s_trans HB.out hb); clear hg hl hb))
  go_ret
  have hs := HB2.out.size
  refine ⟨w2.heap.size + 1, w2.heap.size, g, rfl, ?_, s_alloc (s_alloc HB2.out _) _⟩
  have e1 : (w2.alloc (.map #[] 0)).heap.size = w2.heap.size + 1 := by simp
  refine ⟨⟨g, _, [], rfl, by rw [← e1]; exact Array.getElem?_push_size⟩, ⟨.map [], (World.ownsMap_made _ _ _ _).alloc _, isMap_empty, fun s _ => ⟨fun _ => rfl, fun g v l e => by cases e⟩⟩, fun s e => absurd rfl e, fun k g1 v l e => ?_, fun k1 k2 g1 v1 l1 g2 v2 l2 e1 e2 hne => ?_, by omega, by omega, by omega⟩
  · cases k with
    | none => cases e; exact HL.out.below (s_alloc (s_alloc (Below.refl _ _) _) _)
    | some s => cases e
  · cases k1 with
    | some s => cases e1
    | none => cases k2 with
      | some s => cases e2
      | none => exact absurd rfl hne

def heldB (l : List Held) (day : Int) : Bool := atV l day && atB l day
theorem holds_any (w : World) (base g : Nat) (v : Value) (l : List Held) (h : Lin w base g v l) (day : Int) :
    Calls Try.prog 63 #[.agg #[.pointer (some ⟨g, 0, none⟩)], .int .i64 day] w fun e w' => e = .returned (.bool (heldB l day)) ∧ Below w.heap.size w w' := by
  unfold heldB
  have ha := fun wx (hx : Lin wx base g v l) => at_any wx base g v l hx day
  have H := Lib.hid h
  unfold ev at ha
  generalize atV l day = V at *
  generalize atB l day = B at *
  have HA := Lib.hid ha
  clear ha h
  cases V
  all_goals
    go_enter Try.func63, Try.ntmps63
    go_wp2_with (go_at_call 102; refine (HA.out _ (H.out.below (s_alloc (Below.refl _ _) _))).mono ?_; rintro e w1 ⟨rfl, hb⟩; have HB := Lib.hid (s_trans (s_alloc (Below.refl _ _) _) hb); clear hb)
    all_goals
      go_ret
      exact ⟨rfl, HB.out⟩
def cont (M : PM) (k : Who) : List Held := match M k with | some (_, _, l) => l | none => []
theorem opted_any (w : World) (base p m n : Nat) (home : ByteArray) (hh : home.size ≠ 0) (M : PM) (h : Pp w base p m n home M) (day : Int) :
    Calls Try.prog 47 #[.pointer (some ⟨p, 0, none⟩), .int .i64 day] w fun e w' => e = .returned (.bool (heldB (cont M none) day)) ∧ Below w.heap.size w w' := by
  obtain ⟨g0, v0, l0, e0, hbox⟩ := h.box
  have hl := h.lin none g0 v0 l0 e0
  have hc : cont M none = l0 := by unfold cont; rw [e0]
  rw [hc]
  have ha := holds_any w base g0 v0 l0 hl day
  obtain ⟨c0, c1, c2⟩ := cells3 hbox
  have HBX := Lib.hid hbox
  have HA := Lib.hid ha
  clear ha h hl hbox e0 hc
  go_enter Try.func47, Try.ntmps47
  go_wp2_with (first
    | (go_at_call 60; refine (none_any _ p g0 m home hh HBX.out).mono ?_; rintro e w1 ⟨rfl, rfl⟩)
    | (go_at_call 63; refine HA.out.mono ?_; rintro e w1 ⟨rfl, hb⟩; have HB := Lib.hid hb; clear hb))
  go_ret
  exact ⟨rfl, HB.out⟩
theorem home_any (w : World) (base p m n : Nat) (home : ByteArray) (hh : home.size ≠ 0) (M : PM) (h : Pp w base p m n home M) :
    Calls Try.prog 50 #[.pointer (some ⟨p, 0, none⟩)] w fun e w' => e = .returned (.string home) ∧ w = w' := by
  obtain ⟨g0, v0, l0, e0, hbox⟩ := h.box
  obtain ⟨c0, c1, c2⟩ := cells3 hbox
  have HBX := Lib.hid hbox
  clear h hbox e0
  go_enter Try.func50, Try.ntmps50
  go_wp2_with (go_at_call 60; refine (none_any _ p g0 m home hh HBX.out).mono ?_; rintro e w1 ⟨rfl, rfl⟩)
  go_ret
  exact ⟨rfl, rfl⟩
end Go.Proofs.Ytbjoegladcmibaa.Pe
