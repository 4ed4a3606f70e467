/-
  octroiref15.Choose: walked by hand (its result lies in memory).
-/
import Derived.Test.YtbjoegladcmibaaQPs0
import Derived.Test.YtbjoegladcmibaaQZPeopleSetsx9
import Derived.Test.YtbjoegladcmibaaQPe5
import Derived.Test.YtbjoegladcmibaaQWall
namespace Go.Proofs.Ytbjoegladcmibaa.Pe
set_option linter.unusedVariables false
set_option linter.unusedSimpArgs false
set_option linter.unnecessarySimpa false
open Go.RowKit Go.Maps Go.Proofs.YtbjoegladcmibaaK Go.Proofs.Ytbjoegladcmibaa.ZPeopleSets Go.Proofs.YtbjoegladcmibaaW.PrintWords Go.Proofs.YtbjoegladcmibaaW.PrintLast Go.Proofs.Ytbjoegladcmibaa.Vi Go.Proofs.Ytbjoegladcmibaa.Ln Go.Proofs.Ytbjoegladcmibaa.Pl Go.Proofs.Ytbjoegladcmibaa.SpB

set_option maxRecDepth 100000 in
set_option maxHeartbeats 4000000 in
theorem choose_any (k : Nat) (home : ByteArray) (P1 : Nat → Prop) (A1 : Option Addr) (c1 : Nat) (O : List S24) (A2 : Option Addr) (c2 n2 : Nat) (f u x : Int) (r : List S24) (E : Int) (w0 w : World) (hB : Below w0.heap.size w0 w) (ho : Kd.R k24 24 w w0.heap.size P1 (.slice A1 O.length c1) O) (h : octroiref13_Set.f k O 256 f u x = some (r, E)) (hO : O.length < 100000) (hEq : E = r13E O f u) :
    Calls Try.prog 45 #[.agg #[.string home, .slice A1 O.length c1, .slice A2 n2 c2], .agg #[.int .i64 f, .int .i64 u, .int .i64 x]] w fun e w' => ∃ A' c', e = .returned (.tuple #[.agg #[.string home, .slice A' (if E = 0 then r else O).length c', .slice A2 n2 c2], .int .i64 E]) ∧ Kd.R k24 24 w' w0.heap.size (fun k_ => P1 k_ ∨ w.heap.size ≤ k_) (.slice A' (if E = 0 then r else O).length c') (if E = 0 then r else O) ∧ Below w0.heap.size w0 w' ∧ Kept w w' P1 := by
  have hs := fun wx (hbx : Below w0.heap.size w0 wx) (hox : Kd.R k24 24 wx w0.heap.size (fun k => P1 k ∧ k < w.heap.size) (.slice A1 O.length c1) O) => octroiref13_Set.calls k (fun k => P1 k ∧ k < w.heap.size) (.slice A1 O.length c1) O 256 f u x r E w0 wx hbx hox h
  have hob : Kd.R k24 24 w w0.heap.size (fun k => P1 k ∧ k < w.heap.size) (.slice A1 O.length c1) O := Kd.R_mono (Kd.R_bound ho) (fun k hk => ⟨hk.1, hk.2.2.1⟩)
  have hb3 : Below w0.heap.size w0 (((w.alloc (.cells #[.string home, .slice A1 O.length c1, .slice A2 n2 c2] 92)).alloc (.cells #[.int .i64 f, .int .i64 u, .int .i64 x] 24)).alloc (.cells #[.string ⟨#[]⟩, .slice none 0 0, .slice none 0 0] 92)) := s_alloc (s_alloc (s_alloc hB _) _) _
  have HS := Lib.hid hs
  obtain ⟨A1', c1', e1, hle1, hrd⟩ := Kd.R_reads ho
  have hA : A1 = A1' ∧ c1 = c1' := by injection e1 with q1 q2 q3; exact ⟨q1, q3⟩
  obtain ⟨rfl, rfl⟩ := hA
  have hse := fun wx (hx : Below w.heap.size w wx) (hE : E ≠ 0) => set_err A1 c1 O f u x wx (Kd.C_below hrd hx) hle1 hO (by rw [← hEq]; exact hE)
  rw [← hEq] at hse
  have HSE := Lib.hid hse
  have HO := Lib.hid hob
  have HB := Lib.hid hB
  have HB3 := Lib.hid hb3
  clear hs hob hB ho h hb3 hse hrd e1 hEq
  by_cases he : E = 0
  · subst he
    simp only [if_true]
    go_enter Try.func45, Try.ntmps45
    go_wp2_with (go_at_call 79; refine (HS.out _ (s_alloc (s_alloc (s_alloc HB.out _) _) _) (Kd.R_below HO.out (s_alloc (s_alloc (s_alloc (Below.refl _ _) _) _) _))).mono ?_; rintro e w1 ⟨v0, rfl, hr, hb, hk⟩; obtain ⟨A', c', rfl, hle, hrr⟩ := Kd.R_reads hr; have HR := Lib.hid hr; have HB1 := Lib.hid hb; have HK := Lib.hid hk; have hx : w1.heap[w.heap.size]? = some (.cells #[.string home, .slice A1 O.length c1, .slice A2 n2 c2] 92 (0, 0)) := (hk.2 w.heap.size (by simp; omega) (by omega)).trans (block_alloc (block_alloc Array.getElem?_push_size _) _); have hz : w1.heap[w.heap.size + 1 + 1]? = some (.cells #[.string ⟨#[]⟩, .slice none 0 0, .slice none 0 0] 92 (0, 0)) := (hk.2 (w.heap.size + 1 + 1) (by simp) (by omega)).trans (by rw [show w.heap.size + 1 + 1 = ((w.alloc (.cells #[.string home, .slice A1 O.length c1, .slice A2 n2 c2] 92)).alloc (.cells #[.int .i64 f, .int .i64 u, .int .i64 x] 24)).heap.size by simp]; exact Array.getElem?_push_size); have HX := Lib.hid hx; have HZ := Lib.hid hz; obtain ⟨x0, x1, x2⟩ := cells3 hx; obtain ⟨z0, z1, z2⟩ := cells3 hz; have fx := blockFree hx; have fz := blockFree hz; clear hr hb hk hrr hx hz)
    have hq : ((((w1.setCell ⟨w.heap.size, 1, none⟩ (.slice A' r.length c')).setCell ⟨w.heap.size + 1 + 1, 0, none⟩ (.string home)).setCell ⟨w.heap.size + 1 + 1, 1, none⟩ (.slice A' r.length c')).setCell ⟨w.heap.size + 1 + 1, 2, none⟩ (.slice A2 n2 c2)).heap[w.heap.size + 1 + 1]? = some (.cells #[.string home, .slice A' r.length c', .slice A2 n2 c2] 92 (0, 0)) := by
      have hne : (w.heap.size = w.heap.size + 1 + 1) = False := eq_false (by omega)
      simp [World.setCell, HZ.out, Array.getElem?_modify, hne]
    refine bodyPost_ret (results_ct rfl _ _ (w.heap.size + 1 + 1) 92 _ (0, 0) _ rfl hq Try.underlying92 rfl (by kernel_rfl)) rfl ?_
    have hk3 : Kept w (((w.alloc (.cells #[.string home, .slice A1 O.length c1, .slice A2 n2 c2] 92)).alloc (.cells #[.int .i64 f, .int .i64 u, .int .i64 x] 24)).alloc (.cells #[.string ⟨#[]⟩, .slice none 0 0, .slice none 0 0] 92)) P1 := Kept.of_below (s_alloc (s_alloc (s_alloc (Below.refl _ _) _) _) _) P1
    have hk1 : Kept w w1 P1 := hk3.then_ HK.out (fun k hk => Or.inl hk.1)
    have hge := HB.out.size
    refine ⟨A', c', rfl, ?_, ?_, ?_⟩
    · refine Kd.R_mono (Kd.R_step HR.out (fun q hq _ => ?_)) (fun q hq => hq.elim (fun x => Or.inl x.1) (fun x => Or.inr (by simp at x; omega)))
      have hqn : q ≠ w.heap.size ∧ q ≠ w.heap.size + 1 + 1 := by
        rcases hq with hq | hq
        · omega
        · simp at hq; omega
      rw [Below.heap_setCell _ _ _ _ hqn.2, Below.heap_setCell _ _ _ _ hqn.2, Below.heap_setCell _ _ _ _ hqn.2, Below.heap_setCell _ _ _ _ hqn.1]
    · exact s_set (s_set (s_set (s_set HB1.out _ _ (by show w0.heap.size ≤ w.heap.size; omega)) _ _ (by show w0.heap.size ≤ w.heap.size + 1 + 1; omega)) _ _ (by show w0.heap.size ≤ w.heap.size + 1 + 1; omega)) _ _ (by show w0.heap.size ≤ w.heap.size + 1 + 1; omega)
    · exact (((hk1.setCell (Or.inr (Nat.le_refl _)) _).setCell (Or.inr (by show w.heap.size ≤ w.heap.size + 1 + 1; omega)) _).setCell (Or.inr (by show w.heap.size ≤ w.heap.size + 1 + 1; omega)) _).setCell (Or.inr (by show w.heap.size ≤ w.heap.size + 1 + 1; omega)) _
  · simp only [if_neg he]
    go_enter Try.func45, Try.ntmps45
    have HE := Lib.hid he
    go_wp2_with (go_at_call 79; refine (HSE.out _ (s_alloc (s_alloc (s_alloc (Below.refl _ _) _) _) _) HE.out).mono ?_; rintro e w1 ⟨rfl, hb⟩; have hx : w1.heap[w.heap.size]? = some (.cells #[.string home, .slice A1 O.length c1, .slice A2 n2 c2] 92 (0, 0)) := block_on hb (block_alloc (block_alloc Array.getElem?_push_size _) _); have hz : w1.heap[w.heap.size + 1 + 1]? = some (.cells #[.string ⟨#[]⟩, .slice none 0 0, .slice none 0 0] 92 (0, 0)) := block_on hb (by rw [show w.heap.size + 1 + 1 = ((w.alloc (.cells #[.string home, .slice A1 O.length c1, .slice A2 n2 c2] 92)).alloc (.cells #[.int .i64 f, .int .i64 u, .int .i64 x] 24)).heap.size by simp]; exact Array.getElem?_push_size); have HX := Lib.hid hx; have HZ := Lib.hid hz; have HB1 := Lib.hid (s_trans (s_alloc (s_alloc (s_alloc (Below.refl _ _) _) _) _) hb : Below w.heap.size w w1); obtain ⟨x0, x1, x2⟩ := cells3 hx; obtain ⟨z0, z1, z2⟩ := cells3 hz; have fx := blockFree hx; have fz := blockFree hz; clear hb hx hz)
    have hq : (((w1.setCell ⟨w.heap.size + 1 + 1, 0, none⟩ (.string home)).setCell ⟨w.heap.size + 1 + 1, 1, none⟩ (.slice A1 O.length c1)).setCell ⟨w.heap.size + 1 + 1, 2, none⟩ (.slice A2 n2 c2)).heap[w.heap.size + 1 + 1]? = some (.cells #[.string home, .slice A1 O.length c1, .slice A2 n2 c2] 92 (0, 0)) := by
      have hne : (w.heap.size = w.heap.size + 1 + 1) = False := eq_false (by omega)
      simp [World.setCell, HZ.out, Array.getElem?_modify, hne]
    refine bodyPost_ret (results_ct rfl _ _ (w.heap.size + 1 + 1) 92 _ (0, 0) _ rfl hq Try.underlying92 rfl (by kernel_rfl)) rfl ?_
    have hk1 : Kept w w1 P1 := Kept.of_below HB1.out P1
    have hge := HB.out.size
    have hb9 : Below w.heap.size w (((w1.setCell ⟨w.heap.size + 1 + 1, 0, none⟩ (.string home)).setCell ⟨w.heap.size + 1 + 1, 1, none⟩ (.slice A1 O.length c1)).setCell ⟨w.heap.size + 1 + 1, 2, none⟩ (.slice A2 n2 c2)) := s_set (s_set (s_set HB1.out _ _ (by show w.heap.size ≤ w.heap.size + 1 + 1; omega)) _ _ (by show w.heap.size ≤ w.heap.size + 1 + 1; omega)) _ _ (by show w.heap.size ≤ w.heap.size + 1 + 1; omega)
    exact ⟨A1, c1, rfl, Kd.R_mono (Kd.R_below HO.out hb9) (fun q hq => Or.inl hq.1), s_trans HB.out hb9, Kept.of_below hb9 P1⟩
end Go.Proofs.Ytbjoegladcmibaa.Pe
