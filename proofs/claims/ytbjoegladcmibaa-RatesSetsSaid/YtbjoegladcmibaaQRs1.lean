/-
  Clone of a line's row, of a line; its length.
-/
import Derived.Test.YtbjoegladcmibaaQRt5
import Derived.Lib.SliceRun
namespace Go.Proofs.Ytbjoegladcmibaa.Rt
set_option linter.unusedVariables false
set_option linter.unusedSimpArgs false
set_option linter.unnecessarySimpa false
open Go.RowKit Go.Maps Go.Proofs.YtbjoegladcmibaaK Go.Proofs.Ytbjoegladcmibaa.Ln Go.Proofs.Ytbjoegladcmibaa.LnI

set_option maxRecDepth 100000 in
set_option maxHeartbeats 4000000 in
theorem clone_held (w : World) (base : Nat) (v : Value) (l : List Held) (h : Row w base v l) (hl : l.length ≤ 256) :
    Calls Try.prog 111 #[v] w fun e w' => ∃ v', e = .returned v' ∧ Row w' w.heap.size v' l ∧ Below w.heap.size w w' := by
  obtain ⟨i0, hi0, hz0, hzs, hzb⟩ := info_parts infoH
  have q22 := fun (w : World) (a : Option Addr) (n c n' c' : Nat) => Lib.run_eql_slice_nil (P := Try.prog) w 141 _ a n c n' c' Try.underlying141
  rcases Joins.ownsRow_forms h with ⟨rfl, h0⟩ | ⟨g, cap, rfl⟩
  · have hl0 : l = [] := List.eq_nil_of_length_eq_zero h0
    subst hl0
    clear h
    go_enter Try.func111, Try.ntmps111
    go_wp2
    go_ret
    exact ⟨_, rfl, World.ownsRow_nil _ _ _ _, Below.refl _ _⟩
  · have hnews : ∀ j u, (flat l)[j]? = some u → (w.alloc (.cells #[] 147)).cell? ((⟨g, 0, none⟩ : Addr).add j) = some u := fun j u hu => by
      have hj : j < (flat l).length := (List.getElem?_eq_some_iff.1 hu).1
      rw [flat_len] at hj
      have hc := World.ownsRow.cellAt h j hj
      have ha : (⟨g, 0, none⟩ : Addr).add j = ⟨g, j, none⟩ := by unfold Addr.add; split <;> simp_all
      rw [ha]
      exact Lib.cell?_alloc_some _ (hc.trans hu)
    have HN := Lib.hid hnews
    clear hnews h
    go_enter Try.func111, Try.ntmps111
    go_wp2_with (at_builtin; refine wpList_append_own_at _ rfl _ _ 141 rfl w.heap.size 147 i0 _ 3 24 Try.underlying141 hi0 hz0 hzs hzb rfl (by decide) _ _ _ rfl (World.ownsRow_made w #[] 0 (Nat.le_refl _) (Nat.zero_le _) rfl) ⟨g, 0, none⟩ l.length cap (flat l) rfl (by rw [flat_len]) HN.out (one_flat l) (by unfold maxLen; omega) (by omega) (by simp) ?_; intro v' w1 hown hgrow _ _; have hg2 : (w.alloc (.cells #[] 147)).grownBy w1 (some w.heap.size) := hgrow; have HO := Lib.hid hown; have HG := Lib.hid hg2; clear hown hgrow hg2)
    go_ret
    refine ⟨_, rfl, ?_, ((Below.refl _ w).alloc (Nat.le_refl _) _).grown HG.out (by simp) (by intro k hk; have := Option.some.inj hk; omega)⟩
    unfold Row
    have := HO.out
    rwa [Nat.zero_add, List.nil_append] at this
theorem row_less {w : World} {base base' : Nat} {v : Value} {l : List Held} (h : Row w base v l) (hb : base' ≤ base) : Row w base' v l := by
  refine ⟨h.1, ?_⟩
  rcases h.2 with hn | ⟨g', cap, cur, e, hb', rest⟩
  · exact .inl hn
  · exact .inr ⟨g', cap, cur, e, Nat.le_trans hb hb', rest⟩
theorem lin_less {w : World} {base base' g : Nat} {v : Value} {l : List Held} (h : Lin w base g v l) (hb : base' ≤ base) : Lin w base' g v l :=
  ⟨h.box, row_less h.row hb, Nat.le_trans hb h.ge, h.most⟩
set_option maxRecDepth 100000 in
set_option maxHeartbeats 4000000 in
theorem clone_line (w : World) (base g : Nat) (v : Value) (l : List Held) (h : Lin w base g v l) :
    Calls Try.prog 77 #[.pointer (some ⟨g, 0, none⟩)] w fun e w' => ∃ g' v', e = .returned (.pointer (some ⟨g', 0, none⟩)) ∧ Lin w' w.heap.size g' v' l ∧ Below w.heap.size w w' := by
  obtain ⟨c0, c1⟩ := cells2 h.box
  have hm := h.most
  have H := Lib.hid h
  have hc := fun wx (hx : Below w.heap.size w wx) => clone_held wx base v l (h.below hx).row hm
  have HC := Lib.hid hc
  clear h hc
  go_enter Try.func77, Try.ntmps77
  go_wp2
  go_region_with (go_at_call 111; refine (HC.out _ (by first | exact Below.refl _ _ | exact s_drew (Below.refl _ _) | exact s_drewN (Below.refl _ _) _)).mono ?_; rintro e w1 ⟨v', rfl, hr, hb⟩; obtain ⟨ad', cap', rfl⟩ := hr.slice; have HR := Lib.hid hr; have HB := Lib.hid hb; obtain ⟨c0, c1⟩ := cells2 (block_on HB.out (block_on (by first | exact Below.refl _ _ | exact s_drew (Below.refl _ _) | exact s_drewN (Below.refl _ _) _ : Below w.heap.size w _) H.out.box)); clear hr hb)
  all_goals
    go_wp2
    go_ret
    have hb : Below w.heap.size w w1 := s_trans (by first | exact Below.refl _ _ | exact s_drew (Below.refl _ _) | exact s_drewN (Below.refl _ _) _) HB.out
    exact ⟨w1.heap.size, _, rfl, ⟨Array.getElem?_push_size, (row_less HR.out (Nat.le_refl _)).below (s_alloc (Below.refl _ _) _), hb.size, hm⟩, s_alloc hb _⟩
set_option maxHeartbeats 1000000 in
theorem len_line (w : World) (base g : Nat) (v : Value) (l : List Held) (h : Lin w base g v l) :
    Calls Try.prog 78 #[.pointer (some ⟨g, 0, none⟩)] w fun e w' => e = .returned (.int .i64 l.length) ∧ Below w.heap.size w w' := by
  obtain ⟨c0, c1⟩ := cells2 h.box
  obtain ⟨ad, cap, e⟩ := h.row.slice
  subst e
  have H := Lib.hid h
  clear h
  go_enter Try.func78, Try.ntmps78
  go_wp2_with (go_at_call 89; refine (LnI.none_any _ base g _ l H.out).mono ?_; rintro e w1 ⟨rfl, rfl⟩)
  go_ret
  exact ⟨rfl, Below.refl _ _⟩
end Go.Proofs.Ytbjoegladcmibaa.Rt
