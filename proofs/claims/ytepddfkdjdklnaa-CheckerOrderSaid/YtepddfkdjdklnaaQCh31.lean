/-
  checker: the chapter's examples, walked.
-/
import Derived.Test.YtepddfkdjdklnaaQCh30
namespace Go.Proofs.Ytepddfkdjdklnaa.Ch
set_option linter.unusedVariables false
set_option linter.unusedSimpArgs false
set_option linter.unnecessarySimpa false
open Go.RowKit Go.Maps Go.Proofs.YtepddfkdjdklnaaK Go.Proofs.Ytepddfkdjdklnaa.PCheckerOrder Go.Proofs.YtepddfkdjdklnaaW.PrintWords Go.Proofs.YtepddfkdjdklnaaW.PrintLast Go.Sort

abbrev refC (n : Int) : Array Value := #[.int .i64 2, .int .i64 n, .string ⟨#[]⟩, .slice none 0 0, .slice none 0 0]
set_option maxRecDepth 100000 in
theorem lbox_any (n : Int) (w : World) : Calls Try.prog 14 #[.int .i64 n] w fun e w' => e = .returned (.agg (refC n)) ∧ Below w.heap.size w w' := by
  obtain ⟨wa, hwa⟩ : ∃ W : World, W = w.alloc (.cells #[.int .i64 0, .int .i64 0, .string ⟨#[]⟩, .slice none 0 0, .slice none 0 0] 41) := ⟨_, rfl⟩
  have hba : Below w.heap.size w wa := by rw [hwa]; exact s_alloc (Below.refl _ _) _
  have hxa : wa.heap[w.heap.size]? = some (.cells #[.int .i64 0, .int .i64 0, .string ⟨#[]⟩, .slice none 0 0, .slice none 0 0] 41 (0, 0)) := by rw [hwa]; exact Array.getElem?_push_size
  go_enter Try.func14, Try.ntmps14
  go_upto_region 1 with fail
  rw [← hwa]
  obtain ⟨x0, x1, x2, x3, x4⟩ := cells5 hxa
  have f0 := blockFree hxa 0
  have f1 := blockFree hxa 1
  have f2 := blockFree hxa 2
  have f3 := blockFree hxa 3
  have f4 := blockFree hxa 4
  have HX := Lib.hid hxa
  have HB := Lib.hid hba
  clear hwa hxa hba
  go_wp2
  have hq : (((((wa.setCell ⟨w.heap.size, 0, none⟩ (.int .i64 2)).setCell ⟨w.heap.size, 1, none⟩ (.int .i64 n)).setCell ⟨w.heap.size, 2, none⟩ (.string ⟨#[]⟩)).setCell ⟨w.heap.size, 3, none⟩ (.slice none 0 0)).setCell ⟨w.heap.size, 4, none⟩ (.slice none 0 0)).heap[w.heap.size]? = some (.cells (refC n) 41 (0, 0)) := by
    have h0 := Go.Joins.block_setCell (i := 0) HX.out (.int .i64 2)
    have h1 := Go.Joins.block_setCell (i := 1) h0 (.int .i64 n)
    have h2 := Go.Joins.block_setCell (i := 2) h1 (.string ⟨#[]⟩)
    have h3 := Go.Joins.block_setCell (i := 3) h2 (.slice none 0 0)
    have h4 := Go.Joins.block_setCell (i := 4) h3 (.slice none 0 0)
    simpa using h4
  have hz := s_set (s_set (s_set (s_set (s_set HB.out ⟨w.heap.size, 0, none⟩ (.int .i64 2) (Nat.le_refl _)) ⟨w.heap.size, 1, none⟩ (.int .i64 n) (Nat.le_refl _)) ⟨w.heap.size, 2, none⟩ (.string ⟨#[]⟩) (Nat.le_refl _)) ⟨w.heap.size, 3, none⟩ (.slice none 0 0) (Nat.le_refl _)) ⟨w.heap.size, 4, none⟩ (.slice none 0 0) (Nat.le_refl _)
  generalize (((((wa.setCell ⟨w.heap.size, 0, none⟩ (.int .i64 2)).setCell ⟨w.heap.size, 1, none⟩ (.int .i64 n)).setCell ⟨w.heap.size, 2, none⟩ (.string ⟨#[]⟩)).setCell ⟨w.heap.size, 3, none⟩ (.slice none 0 0)).setCell ⟨w.heap.size, 4, none⟩ (.slice none 0 0)) = wz at *
  obtain ⟨y0, y1, y2, y3, y4⟩ := cells5 hq
  refine bodyPost_ret (v := .agg (refC n)) (by simp [results, Try.results14, go_sem, y0, y1, y2, y3, y4]) rfl ⟨rfl, hz⟩
theorem order_val {w : World} {b : Nat} {v : Value} {o : List Nat} (h : w.ownsRow b 3 1 v o.length (intV o)) : ∃ A c, v = .slice A o.length c ∧ o.length ≤ c ∧ Kd.C (Kd.int .i64) w A o.length (o.map fun x : Nat => (x : Int)) := by
  obtain ⟨A, g, c, rfl, hc, hr⟩ := rowI_of h
  refine ⟨A, c, rfl, hc, by simp, ?_, fun hn => ?_⟩
  · rcases h.2 with ⟨_, h0⟩ | ⟨g', cap, cur, _, _, _, h1, h2, _⟩
    · omega
    · unfold maxLen at h2; omega
  · obtain ⟨hA, hg, _⟩ := hr 0 hn
    refine ⟨_, hA, fun j p hp => ⟨[.int .i64 p], rfl, rfl, fun i u hu => ?_⟩⟩
    have hj : j < o.length := by have := (List.getElem?_eq_some_iff.1 hp).1; simpa using this
    rw [List.getElem?_map, List.getElem?_eq_getElem hj] at hp
    obtain rfl := Option.some.inj hp
    have hi : i = 0 := by have := (List.getElem?_eq_some_iff.1 hu).1; simpa using this
    subst hi
    have hs : (Kd.int .i64).sz = 1 := rfl
    rw [hs, Addr.add_lit, Nat.mul_one, Nat.add_zero, Nat.zero_add, (hr j hj).2.2]
    simpa using hu
theorem same10 : octroiref03_Same.f 5 ([1, 0] : List Int) ([1, 0] : List Int) = some true := by
  simp [octroiref03_Same.f, octroiref03_Same.l0, _root_.Go.Proofs.YtepddfkdjdklnaaW.PrintWords.rd, wrap64]
abbrev lifeC1 : Array Value := #[.int .i64 1, .int .i64 2, .int .i64 2, .string ⟨#[]⟩, .slice none 0 0, .slice none 0 0, .int .i64 2, .int .i64 1, .int .i64 5, .string ⟨#[]⟩, .slice none 0 0, .slice none 0 0]
abbrev lifeC2 : Array Value := #[.int .i64 1, .int .i64 2, .int .i64 1, .string ⟨#[]⟩, .slice none 0 0, .slice none 0 0]
theorem check_life1 (w : World) : Calls Try.prog 7 #[.slice (some ⟨w.heap.size, 0, none⟩) 2 2] (w.alloc (.cells lifeC1 43)) fun e w' => ∃ p, e = .returned (.tuple #[.pointer (some ⟨p, 0, none⟩), .int .i64 0]) ∧ PlanIn w' p life1 [1, 0] ∧ Below w.heap.size w w' := by
  have hg : (w.alloc (.cells lifeC1 43)).heap[w.heap.size]? = some (.cells lifeC1 43 (0, 0)) := Array.getElem?_push_size
  have hb : Below w.heap.size w (w.alloc (.cells lifeC1 43)) := s_alloc (Below.refl _ _) _
  refine (check_any _ _ 2 life1 (box_row _ life1 (by decide) (fun x hx => ?_) w.heap.size lifeC1 hg rfl) (by decide) life1_ok.1 life1_ok.2).mono ?_
  · simp only [List.mem_cons, List.not_mem_nil, or_false] at hx
    rcases hx with rfl | rfl <;> exact ⟨rfl, rfl, rfl⟩
  · rintro e w' ⟨hb2, h⟩
    rcases h with ⟨h, _⟩ | ⟨_, p, o, ho, he, hp⟩
    · exact absurd check1 h
    · rw [arr1] at ho
      obtain rfl := Option.some.inj ho
      exact ⟨p, he, hp, s_trans hb hb2⟩
theorem check_life2 (w : World) : Calls Try.prog 7 #[.slice (some ⟨w.heap.size, 0, none⟩) 1 1] (w.alloc (.cells lifeC2 43)) fun e w' => e = .returned (.tuple #[.pointer none, .int .i64 84]) ∧ Below w.heap.size w w' := by
  have hg : (w.alloc (.cells lifeC2 43)).heap[w.heap.size]? = some (.cells lifeC2 43 (0, 0)) := Array.getElem?_push_size
  have hb : Below w.heap.size w (w.alloc (.cells lifeC2 43)) := s_alloc (Below.refl _ _) _
  refine (check_any _ _ 1 life2 (box_row _ life2 (by decide) (fun x hx => ?_) w.heap.size lifeC2 hg rfl) (by decide) life2_ok.1 life2_ok.2).mono ?_
  · simp only [List.mem_cons, List.not_mem_nil, or_false] at hx
    rcases hx with rfl; exact ⟨rfl, rfl, rfl⟩
  · rintro e w' ⟨hb2, h⟩
    rcases h with ⟨_, he⟩ | ⟨h, _⟩
    · rw [check2] at he
      exact ⟨he, s_trans hb hb2⟩
    · rw [check2] at h; cases h
theorem order_life (w : World) (p : Nat) (h : PlanIn w p life1 [1, 0]) : Calls Try.prog 8 #[.pointer (some ⟨p, 0, none⟩)] w fun e w' => ∃ A c, e = .returned (.slice A 2 c) ∧ 2 ≤ c ∧ Kd.C (Kd.int .i64) w' A 2 [1, 0] ∧ Below w.heap.size w w' := by
  refine (order_plan w p life1 [1, 0] h (by decide)).mono ?_
  rintro e w' ⟨v, rfl, hv, hb⟩
  obtain ⟨A, c, rfl, hc, hk⟩ := order_val hv
  exact ⟨A, c, rfl, hc, hk, hb⟩
theorem same_life (w w1 : World) (A : Option Addr) (c : Nat) (hc : 2 ≤ c) (hk : Kd.C (Kd.int .i64) w1 A 2 [1, 0]) (hw : Below w.heap.size w w1) : Calls Try.prog 15 #[.slice A 2 c, .slice (some ⟨w1.heap.size, 0, none⟩) 2 2] (w1.alloc (.cells #[.int .i64 1, .int .i64 0] 3)) fun e w' => e = .returned (.bool true) ∧ Below w.heap.size w w' := by
  have hg : (w1.alloc (.cells #[.int .i64 1, .int .i64 0] 3)).heap[w1.heap.size]? = some (.cells #[.int .i64 1, .int .i64 0] 3 (0, 0)) := Array.getElem?_push_size
  have hb : Below w1.heap.size w1 (w1.alloc (.cells #[.int .i64 1, .int .i64 0] 3)) := s_alloc (Below.refl _ _) _
  refine (octroiref03_Same.calls 5 A c [1, 0] (some ⟨w1.heap.size, 0, none⟩) 2 [1, 0] true _ (Kd.C_below hk hb) hc ?_ (by decide) same10).mono ?_
  · refine ⟨rfl, by decide, fun _ => ⟨_, rfl, fun j q hq => ⟨[.int .i64 q], rfl, rfl, fun i u hu => ?_⟩⟩⟩
    have hi : i = 0 := by have := (List.getElem?_eq_some_iff.1 hu).1; simpa using this
    subst hi
    have hs : (Kd.int .i64).sz = 1 := rfl
    rw [hs, Addr.add_lit, Nat.mul_one, Nat.add_zero, Nat.zero_add]
    have hu2 : u = .int .i64 q := by simpa using hu.symm
    subst hu2
    match j, hq with
    | 0, hq => cases hq; rw [block_cell hg]; rfl
    | 1, hq => cases hq; rw [block_cell hg]; rfl
  · rintro e w' ⟨rfl, hd⟩
    exact ⟨rfl, s_trans hw (s_trans hb hd.below)⟩
set_option maxRecDepth 100000 in
set_option maxHeartbeats 4000000 in
theorem lives_any (w : World) : Calls Try.prog 6 #[] w fun e w' => e = .returned (.bool true) ∧ Below w.heap.size w w' := by
  go_enter Try.func6, Try.ntmps6
  go_upto_region 3 with (first
    | (go_at_call 14; refine (lbox_any 2 _).mono ?_; rintro e w1 ⟨rfl, hb1⟩; have HB1 := Lib.hid hb1; clear hb1)
    | (go_at_call 7; refine (check_life1 _).mono ?_; rintro e w2 ⟨p, rfl, hp, hb2⟩; have HP := Lib.hid hp; have HB2 := Lib.hid (s_trans HB1.out hb2); clear hp hb2))
  go_upto_region 4 with (first
    | (go_at_call 14; refine (lbox_any 1 _).mono ?_; rintro e w3 ⟨rfl, hb3⟩; have HB3 := Lib.hid (s_trans HB2.out hb3); have HP3 := Lib.hid (HP.out.below hb3); clear hb3)
    | (go_at_call 7; refine (check_life2 _).mono ?_; rintro e w4 ⟨rfl, hb4⟩; have HB4 := Lib.hid (s_trans HB3.out hb4); have HP4 := Lib.hid (HP3.out.below hb4); clear hb4))
  go_wp2_with (first
    | (go_at_call 8; refine (order_life _ p HP4.out).mono ?_; rintro e w5 ⟨A5, c5, rfl, hc5, hk5, hb5⟩; have HB5 := Lib.hid (s_trans HB4.out hb5); have HK5 := Lib.hid hk5; clear hb5 hk5)
    | (go_at_call 15; refine (same_life w _ A5 c5 hc5 HK5.out HB5.out).mono ?_; rintro e w6 ⟨rfl, hb6⟩; have HB6 := Lib.hid hb6; clear hb6))
  go_ret
  exact ⟨rfl, HB6.out⟩
end Go.Proofs.Ytepddfkdjdklnaa.Ch
