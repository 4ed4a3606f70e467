import Derived.Test.YtbjoegladcmibaaQLnI1
namespace Go.Proofs.Ytbjoegladcmibaa.LnI
set_option linter.unusedVariables false
set_option linter.unusedSimpArgs false
set_option linter.unnecessarySimpa false
open Go.RowKit Go.Proofs.YtbjoegladcmibaaK Go.Proofs.Ytbjoegladcmibaa.Ln

/-- At g lies a line that holds l. -/
structure Lin (w : World) (base g : Nat) (v : Value) (l : List Held) : Prop where
  box : w.heap[g]? = some (.cells #[v, .int .i64 256] 143 (0, 0))
  row : Row w base v l
  ge : base ≤ g
  most : l.length ≤ 256
theorem Row.below {w w1 : World} {base : Nat} {v : Value} {l : List Held} (h : Row w base v l) (hb : Below w.heap.size w w1) : Row w1 base v l :=
  h.kept (row := none) ⟨hb.os, hb.tape, hb.output, hb.size, fun i hi _ => hb.block i hi⟩ (by cases v.ownBlock <;> simp)
theorem Lin.below {w w1 : World} {base g : Nat} {v : Value} {l : List Held} (h : Lin w base g v l) (hb : Below w.heap.size w w1) : Lin w1 base g v l :=
  ⟨block_on hb h.box, h.row.below hb, h.ge, h.most⟩

theorem none_any (w : World) (base g : Nat) (v : Value) (l : List Held) (h : Lin w base g v l) : Calls Try.prog 89 #[.pointer (some ⟨g, 0, none⟩)] w fun e w' => e = .returned (.bool false) ∧ w = w' := by
  obtain ⟨c0, c1⟩ := cells2 h.box
  clear h
  go_enter Try.func89, Try.ntmps89
  go_wp2
  go_ret
  exact ⟨rfl, rfl⟩
theorem none_nil (w : World) : Calls Try.prog 89 #[.pointer none] w fun e w' => e = .returned (.bool true) ∧ w = w' := by
  go_enter Try.func89, Try.ntmps89
  go_wp2
  go_ret
  exact ⟨rfl, rfl⟩
theorem find_any (w : World) (base g : Nat) (v : Value) (l : List Held) (h : Lin w base g v l) (day : Int) :
    Calls Try.prog 91 #[.pointer (some ⟨g, 0, none⟩), .int .i64 day] w fun e w' => e = .returned (.int .i64 (find l day)) ∧ Below w.heap.size w w' := by
  obtain ⟨c0, c1⟩ := cells2 h.box
  have HR := Lib.hid h.row
  have HM := Lib.hid h.most
  clear h
  go_enter Try.func91, Try.ntmps91
  go_wp2_with (go_at_call 116; refine (bs_any _ _ _ l HR.out (by have := HM.out; omega) _).mono ?_; rintro e w1 ⟨rfl, hb⟩; have HB := Lib.hid hb; clear hb)
  go_ret
  exact ⟨rfl, HB.out⟩
def atV (l : List Held) (day : Int) : Int := if h : find l day < l.length then (if day < l[find l day].1 then 0 else l[find l day].2.2) else 0
def atB (l : List Held) (day : Int) : Bool := if h : find l day < l.length then (if day < l[find l day].1 then false else true) else false
theorem at_nil (w : World) (day : Int) : Calls Try.prog 57 #[.pointer none, .int .i64 day] w fun e w' => e = .returned (.tuple #[.int .i64 0, .bool false]) ∧ Below w.heap.size w w' := by
  go_enter Try.func57, Try.ntmps57
  go_wp2_with (go_at_call 89; refine (none_nil _).mono ?_; rintro e w1 ⟨rfl, rfl⟩)
  go_ret2
  exact ⟨rfl, Below.refl _ _⟩
set_option maxRecDepth 100000 in
set_option maxHeartbeats 2000000 in
theorem at_any (w : World) (base g : Nat) (v : Value) (l : List Held) (h : Lin w base g v l) (day : Int) :
    Calls Try.prog 57 #[.pointer (some ⟨g, 0, none⟩), .int .i64 day] w fun e w' => e = .returned (.tuple #[ev (atV l day), .bool (atB l day)]) ∧ Below w.heap.size w w' := by
  have HL := Lib.hid h
  obtain ⟨ad, cap, rfl⟩ := h.row.slice
  have hfl := find_le l day
  have hv : atV l day = if h : find l day < l.length then (if day < l[find l day].1 then 0 else l[find l day].2.2) else 0 := rfl
  have hbb : atB l day = if h : find l day < l.length then (if day < l[find l day].1 then false else true) else false := rfl
  have hmost := h.most
  by_cases hlt : find l day < l.length
  · obtain ⟨ad', cap', hva, c0, c1, c2⟩ := h.row.at_ (find l day) hlt
    injection hva with hv1 _ hv2
    subst hv1
    subst hv2
    rw [dif_pos hlt] at hv hbb
    unfold ev at c2 ⊢
    rw [hv, hbb]
    clear hv hbb h
    have hfa := fun wx (hx : Lin wx base g (.slice (some ad') l.length cap) l) => find_any wx base g _ l hx day
    generalize l[find l day] = hh at *
    generalize find l day = q at *
    have HFA := Lib.hid hfa
    have K0 := Lib.hid c0
    have K1 := Lib.hid c1
    have K2 := Lib.hid c2
    clear hfa c0 c1 c2
    have hblt := World.block_lt_of_cell? w _ K0.out
    by_cases hc : day < hh.1
    · rw [if_pos hc, if_pos hc]
      go_enter Try.func57, Try.ntmps57
      go_wp2_with (first
        | (go_at_call 89; refine (none_any _ base g _ l HL.out).mono ?_; rintro e w1 ⟨rfl, rfl⟩)
        | (go_at_call 91; refine (HFA.out _ HL.out).mono ?_; rintro e w2 ⟨rfl, hb⟩; have HB := Lib.hid hb; obtain ⟨b0, b1⟩ := cells2 (HL.out.below hb).box; have k0 := (hb.cell (p := _) hblt).trans K0.out; have k1 := (hb.cell (p := _) (World.block_lt_of_cell? w _ K1.out)).trans K1.out; have k2 := (hb.cell (p := _) (World.block_lt_of_cell? w _ K2.out)).trans K2.out; clear hb))
      go_ret2
      exact ⟨rfl, HB.out⟩
    · rw [if_neg hc, if_neg hc]
      go_enter Try.func57, Try.ntmps57
      go_wp2_with (first
        | (go_at_call 89; refine (none_any _ base g _ l HL.out).mono ?_; rintro e w1 ⟨rfl, rfl⟩)
        | (go_at_call 91; refine (HFA.out _ HL.out).mono ?_; rintro e w2 ⟨rfl, hb⟩; have HB := Lib.hid hb; obtain ⟨b0, b1⟩ := cells2 (HL.out.below hb).box; have k0 := (hb.cell (p := _) hblt).trans K0.out; have k1 := (hb.cell (p := _) (World.block_lt_of_cell? w _ K1.out)).trans K1.out; have k2 := (hb.cell (p := _) (World.block_lt_of_cell? w _ K2.out)).trans K2.out; clear hb))
      all_goals first
        | (go_ret2; exact ⟨rfl, HB.out⟩)
        | (exfalso; rename_i hx; simp only [Bool.or_eq_true, beq_iff_eq, decide_eq_true_eq] at hx; omega)
  · rw [dif_neg hlt] at hv hbb
    have hq : find l day = l.length := by omega
    unfold ev
    rw [hv, hbb]
    clear hv hbb h
    have hfa := fun wx (hx : Lin wx base g (.slice ad l.length cap) l) => find_any wx base g _ l hx day
    rw [hq] at hfa
    have HFA := Lib.hid hfa
    clear hfa
    go_enter Try.func57, Try.ntmps57
    go_wp2_with (first
      | (go_at_call 89; refine (none_any _ base g _ l HL.out).mono ?_; rintro e w1 ⟨rfl, rfl⟩)
      | (go_at_call 91; refine (HFA.out _ HL.out).mono ?_; rintro e w2 ⟨rfl, hb⟩; have HB := Lib.hid hb; obtain ⟨b0, b1⟩ := cells2 (HL.out.below hb).box; clear hb))
    go_ret2
    exact ⟨rfl, HB.out⟩
end Go.Proofs.Ytbjoegladcmibaa.LnI
