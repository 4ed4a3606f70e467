/-
  checker: the methods of a plan.
-/
import Derived.Test.YtepddfkdjdklnaaQCh27
namespace Go.Proofs.Ytepddfkdjdklnaa.Ch
set_option linter.unusedVariables false
set_option linter.unusedSimpArgs false
set_option linter.unnecessarySimpa false
open Go.RowKit Go.Maps Go.Proofs.YtepddfkdjdklnaaK Go.Proofs.Ytepddfkdjdklnaa.PCheckerOrder Go.Proofs.YtepddfkdjdklnaaW.PrintWords Go.Proofs.YtepddfkdjdklnaaW.PrintLast Go.Sort

set_option maxRecDepth 100000 in
set_option maxHeartbeats 1000000 in
theorem clone_ints (w : World) (v : Value) (q : List Nat) (b : Nat) (h : w.ownsRow b 3 1 v q.length (intV q)) (hq : q.length ≤ 1000000) :
    Calls Try.prog 24 #[v] w fun e w' => ∃ v', e = .returned v' ∧ w'.ownsRow w.heap.size 3 1 v' q.length (intV q) ∧ Below w.heap.size w w' := by
  have q22 : ∀ (w : World) (a : Option Addr) (n c n' c' : Nat), (binOp .eql 30 (.slice a n c) (.slice none n' c')).run Try.prog w = .ok (.bool a.isNone) w := fun w a n c n' c' => Lib.run_eql_slice_nil w _ _ a n c n' c' Try.underlying30
  obtain ⟨i0, hi0, hz0, hzs, hzb⟩ := info_parts infoI
  have hone : ∀ u ∈ intV q, u.oneCell' = true := by
    intro u hu
    unfold intV at hu
    obtain ⟨n, _, rfl⟩ := List.mem_map.1 hu
    rfl
  rcases h.2 with ⟨rfl, h0⟩ | ⟨g, cap, cur, rfl, hge, hbk, hn, hcap, hcs, htk⟩
  · have h1 : q = [] := List.eq_nil_of_length_eq_zero h0
    subst h1
    clear h h0
    go_enter Try.func24, Try.ntmps24
    go_wp2
    go_ret
    exact ⟨_, rfl, World.ownsRow_nil _ _ _ _, Below.refl _ _⟩
  · have hcell : ∀ j u, (intV q)[j]? = some u → w.cell? ((⟨g, 0, none⟩ : Addr).add j) = some u := by
      intro j u hu
      have hj : j < q.length := by
        have := (List.getElem?_eq_some_iff.1 hu).1
        simpa [intV] using this
      obtain ⟨g2, cap2, u2, e2, _, _, _, hu2, hc2⟩ := own_at h hj
      cases e2
      rw [hu] at hu2
      cases hu2
      rw [Addr.add_lit, Nat.zero_add]; exact hc2
    have HCELL := Lib.hid hcell
    have HONE := Lib.hid hone
    have hl1 := h.1
    rw [Nat.mul_one] at hl1
    have HL1 := Lib.hid hl1
    generalize intV q = news at *
    clear h hcell hone hbk hcs htk hl1
    go_enter Try.func24, Try.ntmps24
    go_wp2_with (at_builtin; refine wpList_append_own_at _ rfl _ _ 30 rfl w.heap.size 3 i0 _ 1 8 Try.underlying30 hi0 hz0 hzs hzb rfl (by decide) _ _ _ rfl (World.ownsRow_made w #[] 0 (Nat.le_refl _) (Nat.zero_le _) (by simp)) ⟨g, 0, none⟩ q.length cap news rfl ?qc1 ?qc2 ?qc3 ?qc4 ?qc5 ?qc6 ?_)
    case qc1 => rw [Nat.mul_one]; exact HL1.out
    case qc2 =>
      intro j u hj
      exact Lib.cell?_alloc_some _ (HCELL.out j u hj)
    case qc3 => exact HONE.out
    case qc4 => unfold maxLen; omega
    case qc5 => omega
    case qc6 => simp
    intro v' w1 hown hgrow hnil hat
    have hb1 : Below w.heap.size w w1 := ((Below.refl _ w).alloc (Nat.le_refl _) _).grown hgrow (by simp) (by intro k hk; simp [Value.ownBlock] at hk; omega)
    have HO := Lib.hid hown
    have HB1 := Lib.hid hb1
    clear hgrow hnil hat hb1
    go_wp2
    go_ret
    exact ⟨v', rfl, by simpa using HO.out, HB1.out⟩
set_option maxRecDepth 100000 in
theorem none_plan (w : World) (p : Nat) (l : List S43) (o : List Nat) (h : PlanIn w p l o) : Calls Try.prog 23 #[.pointer (some ⟨p, 0, none⟩)] w fun e w' => e = .returned (.bool false) ∧ Below w.heap.size w w' := by
  obtain ⟨A, c, m, vn, vo, b, h1, _⟩ := h.ex
  obtain ⟨z0, z1, z2, z3⟩ := cells4 h1
  have qT : ∀ (w : World) (r : Option Nat), (binOp .eql 33 (.map r) (.map none)).run Try.prog w = .ok (.bool r.isNone) w := fun w r => run_eql_map_nil w _ _ _ r Try.underlying33
  clear h h1
  go_enter Try.func23, Try.ntmps23
  go_wp2
  go_ret
  exact ⟨rfl, Below.refl _ _⟩
theorem len_plan (w : World) (p : Nat) (l : List S43) (o : List Nat) (h : PlanIn w p l o) : Calls Try.prog 12 #[.pointer (some ⟨p, 0, none⟩)] w fun e w' => e = .returned (.int .i64 (l.length : Nat)) ∧ Below w.heap.size w w' := by
  have hn := none_plan w p l o h
  obtain ⟨A, c, m, vn, vo, b, h1, _⟩ := h.ex
  have HN := Lib.hid hn
  have H1 := Lib.hid h1
  clear hn h h1
  go_enter Try.func12, Try.ntmps12
  go_wp2_with (go_at_call 23; refine HN.out.mono ?_; rintro e w1 ⟨rfl, hb⟩; have HB1 := Lib.hid hb; obtain ⟨z0, z1, z2, z3⟩ := cells4 (block_on hb H1.out); clear hb)
  go_ret
  exact ⟨rfl, HB1.out⟩
theorem order_plan (w : World) (p : Nat) (l : List S43) (o : List Nat) (h : PlanIn w p l o) (ho : o.length ≤ 1000000) : Calls Try.prog 8 #[.pointer (some ⟨p, 0, none⟩)] w fun e w' => ∃ v, e = .returned v ∧ w'.ownsRow w.heap.size 3 1 v o.length (intV o) ∧ Below w.heap.size w w' := by
  have hn := none_plan w p l o h
  obtain ⟨A, c, m, vn, vo, b, h1, _, _, _, _, h6⟩ := h.ex
  obtain ⟨ado, capo, rfl⟩ := own_slice h6
  have HN := Lib.hid hn
  have H1 := Lib.hid h1
  have H6 := Lib.hid h6
  clear hn h h1 h6
  go_enter Try.func8, Try.ntmps8
  go_wp2_with (first
    | (go_at_call 23; refine HN.out.mono ?_; rintro e w1 ⟨rfl, hb⟩; have HB1 := Lib.hid hb; obtain ⟨z0, z1, z2, z3⟩ := cells4 (block_on hb H1.out); clear hb)
    | (go_at_call 24; refine (clone_ints _ _ o b (own_on H6.out HB1.out) ho).mono ?_; rintro e w2 ⟨v, rfl, hv, hb⟩; have HV := Lib.hid hv; have HB2 := Lib.hid (s_trans HB1.out hb); clear hv hb))
  go_ret
  exact ⟨v, rfl, own_weak HV.out HB1.out.size, HB2.out⟩
theorem has_plan (w : World) (p : Nat) (l : List S43) (o : List Nat) (i : Int) (h : PlanIn w p l o) : Calls Try.prog 25 #[.pointer (some ⟨p, 0, none⟩), .int .i64 i] w fun e w' => e = .returned (.bool (decide (0 ≤ i ∧ i < l.length))) ∧ Below w.heap.size w w' := by
  have hn := len_plan w p l o h
  have HN := Lib.hid hn
  clear hn h
  by_cases hi : 0 ≤ i
  · have d1 : decide (i < 0) = false := decide_eq_false (by omega)
    have d2 : decide (0 ≤ i ∧ i < l.length) = decide (i < l.length) := by simp [hi]
    rw [d2]
    go_enter Try.func25, Try.ntmps25
    go_wp2_with (go_at_call 12; refine HN.out.mono ?_; rintro e w1 ⟨rfl, hb⟩; have HB1 := Lib.hid hb; clear hb)
    go_ret
    exact ⟨rfl, HB1.out⟩
  · have d2 : decide (0 ≤ i ∧ i < l.length) = false := by simp [hi]
    rw [d2]
    go_enter Try.func25, Try.ntmps25
    go_wp2
    go_ret
    exact ⟨rfl, Below.refl _ _⟩
end Go.Proofs.Ytepddfkdjdklnaa.Ch
