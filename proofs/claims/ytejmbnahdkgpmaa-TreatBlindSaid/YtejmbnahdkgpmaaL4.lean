import Derived.Test.YtejmbnahdkgpmaaL2
import Derived.Deep.DeepCutAuto
import Derived.Lib.SmallJoins
namespace Go.Proofs.Ytejmbnahdkgpmaa
set_option linter.unusedVariables false
set_option linter.unusedSimpArgs false
open Go.RowKit Go.Proofs.YtejmbnahdkgpmaaK

theorem lt_size {w w1 : World} {o : Obj} (h : Below (w.alloc o).heap.size (w.alloc o) w1) : w.heap.size < w1.heap.size := by
  have := h.size
  simp at this
  omega
theorem block_kept {w w1 : World} {C : Array Value} {t : TypeId} (h : Below (w.alloc (.cells C t)).heap.size (w.alloc (.cells C t)) w1) : w1.heap[w.heap.size]? = some (.cells C t (0, 0)) := by
  rw [h.block _ (by simp)]
  exact Array.getElem?_push_size
theorem block_alloc {w : World} {g : Nat} {x : Obj} (h : w.heap[g]? = some x) (o : Obj) : (w.alloc o).heap[g]? = some x := by
  have hg : g < w.heap.size := by rw [Array.getElem?_eq_some_iff] at h; exact h.1
  rw [← h]
  exact Array.getElem?_push_lt hg |>.trans (by rw [Array.getElem?_eq_getElem hg])
theorem block_on {w w1 : World} {g : Nat} {x : Obj} (h : Below w.heap.size w w1) (hg : w.heap[g]? = some x) : w1.heap[g]? = some x := by
  rw [h.block _ (by rw [Array.getElem?_eq_some_iff] at hg; exact hg.1)]
  exact hg
theorem cells9 {w : World} {g : Nat} {a0 a1 a2 a3 a4 a5 a6 a7 a8 : Value} {t : TypeId} (h : w.heap[g]? = some (.cells #[a0, a1, a2, a3, a4, a5, a6, a7, a8] t (0, 0))) :
    w.cell? ⟨g, 0, none⟩ = some a0 ∧ w.cell? ⟨g, 1, none⟩ = some a1 ∧ w.cell? ⟨g, 2, none⟩ = some a2 ∧ w.cell? ⟨g, 3, none⟩ = some a3 ∧ w.cell? ⟨g, 4, none⟩ = some a4 ∧ w.cell? ⟨g, 5, none⟩ = some a5 ∧ w.cell? ⟨g, 6, none⟩ = some a6 ∧ w.cell? ⟨g, 7, none⟩ = some a7 ∧ w.cell? ⟨g, 8, none⟩ = some a8 := by
  simp [World.cell?, h]
theorem free9 {w : World} {g : Nat} {a0 a1 a2 a3 a4 a5 a6 a7 a8 : Value} {t : TypeId} (h : w.heap[g]? = some (.cells #[a0, a1, a2, a3, a4, a5, a6, a7, a8] t (0, 0))) (i : Nat) : w.frozen? ⟨g, i, none⟩ = false := by
  simp [World.frozen?, h]
theorem block_set {w : World} {g : Nat} {cs : Array Value} {t : TypeId} {fr : Nat × Nat} (h : w.heap[g]? = some (.cells cs t fr)) (i : Nat) (v : Value) : (w.setCell ⟨g, i, none⟩ v).heap[g]? = some (.cells (cs.setIfInBounds i v) t fr) := Go.Joins.block_setCell h v
theorem set9 {w : World} {g : Nat} {a0 a1 a2 a3 a4 a5 a6 a7 a8 : Value} {t : TypeId} (h : w.heap[g]? = some (.cells #[a0, a1, a2, a3, a4, a5, a6, a7, a8] t (0, 0))) (n0 n1 n2 n3 n4 n5 n6 n7 n8 : Value) :
    (((((((((w.setCell ⟨g, 0, none⟩ n0).setCell ⟨g, 1, none⟩ n1).setCell ⟨g, 2, none⟩ n2).setCell ⟨g, 3, none⟩ n3).setCell ⟨g, 4, none⟩ n4).setCell ⟨g, 5, none⟩ n5).setCell ⟨g, 6, none⟩ n6).setCell ⟨g, 7, none⟩ n7).setCell ⟨g, 8, none⟩ n8).heap[g]? = some (.cells #[n0, n1, n2, n3, n4, n5, n6, n7, n8] t (0, 0)) := by
  have q := block_set (block_set (block_set (block_set (block_set (block_set (block_set (block_set (block_set h 0 n0) 1 n1) 2 n2) 3 n3) 4 n4) 5 n5) 6 n6) 7 n7) 8 n8
  simpa using q
theorem set_ne {w : World} {g g' i : Nat} {v : Value} {x : Obj} (h : w.heap[g']? = some x) (hne : g' ≠ g) : (w.setCell ⟨g, i, none⟩ v).heap[g']? = some x := (Below.heap_setCell _ _ _ _ hne).trans h
theorem b_set {w W : World} (h : Below w.heap.size w W) (a : Addr) (v : Value) (hle : w.heap.size ≤ a.block) : Below w.heap.size w (W.setCell a v) := h.setCell hle v

set_option maxRecDepth 100000 in
set_option maxHeartbeats 4000000 in
theorem blind_not (s : Bool) (k : Int) (x : Bool) (f t p l : Int) (b o : Bool) (w : World) (hm : mayB k f t p l = false) :
    Calls Try.prog 6 #[.agg #[.bool s, .int .i64 k, .bool x, .int .i64 f, .int .i64 t, .int .i64 p, .int .i64 l, .bool b, .bool o]] w fun e w' => e = .returned (.bool true) ∧ Below w.heap.size w w' := by
  have Hm := Lib.hid hm
  clear hm
  go_enter Try.func6, Try.ntmps6
  go_wp2_with (first
    | (go_at_call 19; refine (rmay_any _ _ _ _ _ _ _ _ _ _).mono ?_; rintro e w1 ⟨rfl, hb1⟩; rw [Hm.out]; have HB1 := Lib.hid hb1; clear hb1)
    | (go_at_call 20; refine (lives_any _).mono ?_; rintro e w5 ⟨rfl, hb5⟩; have HB5 := Lib.hid hb5; clear hb5))
  go_ret
  exact ⟨rfl, b_trans (b_trans (b_alloc (Below.refl _ _) _) HB1.out) HB5.out⟩

set_option maxRecDepth 100000 in
set_option maxHeartbeats 4000000 in
theorem blind_other (s : Bool) (k : Int) (x : Bool) (f t p l : Int) (b o : Bool) (w : World) (hm : mayB k f t p l = true) (hz : ¬ (f = 0 ∧ t = 0 ∧ p = 0 ∧ l = 0)) :
    Calls Try.prog 6 #[.agg #[.bool s, .int .i64 k, .bool x, .int .i64 f, .int .i64 t, .int .i64 p, .int .i64 l, .bool b, .bool o]] w fun e w' => e = .returned (.bool true) ∧ Below w.heap.size w w' := by
  have h0 := fun wx => of_any s k x f t p l b o wx
  have h1 := fun wx => of_any s k x f t p l b (!o) wx
  have e1 := blind1 s k x f t p l b o
  obtain ⟨a1, a2⟩ := ofS_bd s k x f t p l b o
  obtain ⟨a3, a4⟩ := ofS_bd s k x f t p l b (!o)
  have Hm := Lib.hid hm
  clear hm
  generalize ofS s k x f t p l b o = T at *
  generalize ofS s k x f t p l b (!o) = U at *
  generalize ofE k f t p l = E at *
  have H0 := Lib.hid h0
  have H1 := Lib.hid h1
  clear h0 h1
  have hs : (T != U) = false ∨ ((T != U) = true ∧ (T + U != 17) = false) := by
    cases h : (T != U)
    · exact .inl rfl
    · exact .inr ⟨rfl, by simpa [h] using e1⟩
  clear e1
  rcases hs with hTU | ⟨hTU, hsum⟩
  all_goals
    go_enter Try.func6, Try.ntmps6
    go_wp2_with (go_at_call 19; refine (rmay_any _ _ _ _ _ _ _ _ _ _).mono ?_; rintro e w1 ⟨rfl, hb1⟩; rw [Hm.out]; obtain ⟨hc1, hf1⟩ := bcell hb1; have hz1 := lt_size hb1; have hk1 := Lib.hid (block_kept hb1); have HB1 := Lib.hid hb1; clear hb1)
    refine (H0.out _).mono ?_
    rintro e w2 ⟨rfl, hb2⟩
    have hz2 := lt_size hb2
    have hd2 := block_kept hb2
    have hx2 := block_on hb2 (block_alloc hk1.out _)
    have hz3 : w.heap.size < w2.heap.size := by omega
    have HB2 := Lib.hid hb2
    have HD2 := Lib.hid hd2
    have HX2 := Lib.hid hx2
    obtain ⟨d0, d1, d2, d3, d4, d5, d6, d7, d8⟩ := cells9 hd2
    clear hb2 hc1 hf1 hd2 hx2
    go_wp2_with fail
    refine (H1.out _).mono ?_
    rintro e w3 ⟨rfl, hb3⟩
    have hz4 : w.heap.size < w3.heap.size := by have := hb3.size; omega
    have hz5 : w1.heap.size < w3.heap.size := by have := hb3.size; omega
    have hd3 := block_on hb3 HD2.out
    have hx3 := block_on hb3 HX2.out
    have HB3 := Lib.hid (b_trans (b_trans (b_alloc (b_trans (b_alloc (Below.refl _ _) _) HB1.out) _) HB2.out) hb3)
    clear hb3 d0 d1 d2 d3 d4 d5 d6 d7 d8
    obtain ⟨d0, d1, d2, d3, d4, d5, d6, d7, d8⟩ := cells9 hd3
    obtain ⟨x0, x1, x2, x3, x4, x5, x6, x7, x8⟩ := cells9 hx3
    have hf3 := free9 hd3
    have HD3 := Lib.hid hd3
    have HX3 := Lib.hid hx3
    clear hd3 hx3 hz2 hz3 HX2 HD2 hk1 HB1 HB2
    go_upto_region 11 with (go_at_call 20; refine (lives_any _).mono ?_; rintro e w5 ⟨rfl, hb5⟩; have HB5 := Lib.hid hb5; clear hb5)
    all_goals
      first
        | (go_ret; exact ⟨rfl, b_trans HB3.out HB5.out⟩)
        | (exfalso; simp only [bne_eq_false_iff_eq, bne_iff_ne] at *; omega)

set_option maxRecDepth 100000 in
set_option maxHeartbeats 4000000 in
theorem blind_zero (s : Bool) (k : Int) (x : Bool) (b o : Bool) (w : World) (hm : mayB k 0 0 0 0 = true) :
    Calls Try.prog 6 #[.agg #[.bool s, .int .i64 k, .bool x, .int .i64 0, .int .i64 0, .int .i64 0, .int .i64 0, .bool b, .bool o]] w fun e w' => e = .returned (.bool true) ∧ Below w.heap.size w w' := by
  have h0 := fun wx => of_any s k x 0 0 0 0 b o wx
  have h1 := fun wx => of_any s k x 0 0 0 0 b (!o) wx
  have e1 := blind1 s k x 0 0 0 0 b o
  obtain ⟨a1, a2⟩ := ofS_bd s k x 0 0 0 0 b o
  obtain ⟨a3, a4⟩ := ofS_bd s k x 0 0 0 0 b (!o)
  have Hm := Lib.hid hm
  clear hm
  have h2 := fun wx => of_any s k x 0 0 0 0 (!b) o wx
  rw [blind2] at h2
  generalize ofS s k x 0 0 0 0 b o = T at *
  generalize ofS s k x 0 0 0 0 b (!o) = U at *
  generalize ofE k 0 0 0 0 = E at *
  have H0 := Lib.hid h0
  have H1 := Lib.hid h1
  have H2 := Lib.hid h2
  clear h0 h1 h2
  have hs : (T != U) = false ∨ ((T != U) = true ∧ (T + U != 17) = false) := by
    cases h : (T != U)
    · exact .inl rfl
    · exact .inr ⟨rfl, by simpa [h] using e1⟩
  clear e1
  rcases hs with hTU | ⟨hTU, hsum⟩
  all_goals
    go_enter Try.func6, Try.ntmps6
    go_wp2_with (go_at_call 19; refine (rmay_any _ _ _ _ _ _ _ _ _ _).mono ?_; rintro e w1 ⟨rfl, hb1⟩; rw [Hm.out]; obtain ⟨hc1, hf1⟩ := bcell hb1; have hz1 := lt_size hb1; have hk1 := Lib.hid (block_kept hb1); have HB1 := Lib.hid hb1; clear hb1)
    refine (H0.out _).mono ?_
    rintro e w2 ⟨rfl, hb2⟩
    have hz2 := lt_size hb2
    have hd2 := block_kept hb2
    have hx2 := block_on hb2 (block_alloc hk1.out _)
    have hz3 : w.heap.size < w2.heap.size := by omega
    have HB2 := Lib.hid hb2
    have HD2 := Lib.hid hd2
    have HX2 := Lib.hid hx2
    obtain ⟨d0, d1, d2, d3, d4, d5, d6, d7, d8⟩ := cells9 hd2
    clear hb2 hc1 hf1 hd2 hx2
    go_wp2_with fail
    refine (H1.out _).mono ?_
    rintro e w3 ⟨rfl, hb3⟩
    have hz4 : w.heap.size < w3.heap.size := by have := hb3.size; omega
    have hz5 : w1.heap.size < w3.heap.size := by have := hb3.size; omega
    have hd3 := block_on hb3 HD2.out
    have hx3 := block_on hb3 HX2.out
    have HB3 := Lib.hid (b_trans (b_trans (b_alloc (b_trans (b_alloc (Below.refl _ _) _) HB1.out) _) HB2.out) hb3)
    clear hb3 d0 d1 d2 d3 d4 d5 d6 d7 d8
    obtain ⟨d0, d1, d2, d3, d4, d5, d6, d7, d8⟩ := cells9 hd3
    obtain ⟨x0, x1, x2, x3, x4, x5, x6, x7, x8⟩ := cells9 hx3
    have hf3 := free9 hd3
    have HD3 := Lib.hid hd3
    have HX3 := Lib.hid hx3
    clear hd3 hx3 hz2 hz3 HX2 HD2 hk1 HB1 HB2
    go_upto_region 11 with fail
    go_cut [] (fun wx => wx.heap[w.heap.size]? = some (.cells #[.bool s, .int .i64 k, .bool x, .int .i64 0, .int .i64 0, .int .i64 0, .int .i64 0, .bool b, .bool o] 36 (0, 0)) ∧ wx.heap[w1.heap.size]? = some (.cells #[.bool s, .int .i64 k, .bool x, .int .i64 0, .int .i64 0, .int .i64 0, .int .i64 0, .bool b, .bool o] 36 (0, 0)) ∧ Below w.heap.size w wx)
    case first =>
      go_wp2
      go_meet
      case rel =>
        refine ⟨?_, set9 HD3.out .., ?_⟩
        · repeat (refine set_ne ?_ (by omega))
          with_reducible exact HX3.out
        · repeat (refine b_set ?_ _ _ (by simp; omega))
          with_reducible exact HB3.out
    case rest =>
      obtain ⟨hx4, hd4, hb4⟩ := hcut
      have hf4 := free9 hd4
      obtain ⟨d0, d1, d2, d3, d4, d5, d6, d7, d8⟩ := cells9 hd4
      obtain ⟨x0, x1, x2, x3, x4, x5, x6, x7, x8⟩ := cells9 hx4
      have HB4 := Lib.hid hb4
      clear hb4 hx4 hd4 hf3
      go_wp2_with (first
        | (go_at_call 16; refine (H2.out _).mono ?_; rintro e w4 ⟨rfl, hb6⟩; have HB6 := Lib.hid hb6; clear hb6)
        | (go_at_call 20; refine (lives_any _).mono ?_; rintro e w5 ⟨rfl, hb5⟩; have HB5 := Lib.hid hb5; clear hb5))
      go_ret
      exact ⟨rfl, b_trans (b_trans (b_set HB4.out _ _ (by simp; omega)) HB6.out) HB5.out⟩

theorem treatBlind_any (s : Bool) (k : Int) (x : Bool) (f t p l : Int) (b o : Bool) (w : World) :
    Calls Try.prog 6 #[.agg #[.bool s, .int .i64 k, .bool x, .int .i64 f, .int .i64 t, .int .i64 p, .int .i64 l, .bool b, .bool o]] w fun e w' => e = .returned (.bool true) ∧ Below w.heap.size w w' := by
  cases hm : mayB k f t p l
  · exact blind_not s k x f t p l b o w hm
  · by_cases hz : f = 0 ∧ t = 0 ∧ p = 0 ∧ l = 0
    · obtain ⟨rfl, rfl, rfl, rfl⟩ := hz
      exact blind_zero s k x b o w hm
    · exact blind_other s k x f t p l b o w hm hz

end Go.Proofs.Ytejmbnahdkgpmaa
