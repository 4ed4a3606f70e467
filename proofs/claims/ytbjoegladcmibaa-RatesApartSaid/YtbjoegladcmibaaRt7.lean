import Derived.Test.YtbjoegladcmibaaRt6
import Derived.Test.YtbjoegladcmibaaWLast
namespace Go.Proofs.Ytbjoegladcmibaa.Rt
set_option linter.unusedVariables false
set_option linter.unusedSimpArgs false
set_option linter.unnecessarySimpa false
open Go.RowKit Go.Maps Go.Proofs.YtbjoegladcmibaaK Go.Proofs.Ytbjoegladcmibaa.Ln Go.Proofs.Ytbjoegladcmibaa.LnI Go.Proofs.Ytbjoegladcmibaa.PRatesApart Go.Proofs.YtbjoegladcmibaaW.PrintWords Go.Proofs.YtbjoegladcmibaaW.PrintLast

theorem cells3 {w : World} {g : Nat} {a0 a1 a2 : Value} {t : TypeId} (h : w.heap[g]? = some (.cells #[a0, a1, a2] t (0, 0))) : w.cell? ⟨g, 0, none⟩ = some a0 ∧ w.cell? ⟨g, 1, none⟩ = some a1 ∧ w.cell? ⟨g, 2, none⟩ = some a2 := by refine ⟨?_, ?_, ?_⟩ <;> simp [World.cell?, h]
theorem cells5 {w : World} {g : Nat} {a0 a1 a2 a3 a4 : Value} {t : TypeId} (h : w.heap[g]? = some (.cells #[a0, a1, a2, a3, a4] t (0, 0))) : w.cell? ⟨g, 0, none⟩ = some a0 ∧ w.cell? ⟨g, 1, none⟩ = some a1 ∧ w.cell? ⟨g, 2, none⟩ = some a2 ∧ w.cell? ⟨g, 3, none⟩ = some a3 ∧ w.cell? ⟨g, 4, none⟩ = some a4 := by refine ⟨?_, ?_, ?_, ?_, ?_⟩ <;> simp [World.cell?, h]
theorem info26 : (Try.prog.info? 26).map (fun i => (i.zero, i.size, i.bytes)) = some (some (.agg #[.string ByteArray.empty, .int .i64 0, .int .i64 0, .int .i64 0, .int .i64 0]), 5, 48) := by kernel_rfl
theorem fresh_cells (w : World) (C : Array Value) (t : TypeId) (j : Nat) (u : Value) (h : C.toList[j]? = some u) : (w.alloc (.cells C t)).cell? (Addr.add ⟨w.heap.size, 0, none⟩ j) = some u := by
  have hb : (w.alloc (.cells C t)).heap[w.heap.size]? = some (.cells C t (0, 0)) := Array.getElem?_push_size
  have ha : (⟨w.heap.size, 0, none⟩ : Addr).add j = ⟨w.heap.size, j, none⟩ := by unfold Addr.add; split <;> simp_all
  rw [ha]
  show World.cell? (w.alloc (.cells C t)) _ = _
  simp only [World.cell?, hb]
  simpa using h
theorem one26 {x : S26} : ∀ u ∈ cs26 x, u.oneCell' = true := by unfold cs26; simp [Value.oneCell']
theorem olds_on {w wB : World} {A0 : Option Addr} {olds : List Value} {C : Array Value} (hC : ∀ b, A0 = some b → ∀ j u, olds[j]? = some u → w.cell? (b.add j) = some u) (hB : Below w.heap.size w wB) : ∀ b, A0 = some b → ∀ j u, olds[j]? = some u → (wB.alloc (.cells C 26)).cell? (b.add j) = some u := fun b e j u hu => by
  have h1 := hC b e j u hu
  exact ((hB.alloc hB.size _).cell (World.block_lt_of_cell? w _ h1)).trans h1
theorem ba_ext {a b : ByteArray} (h : a.toList = b.toList) : a = b := by
  have e : a.data.toList = b.data.toList := by rwa [ByteArray.toList_eq, ByteArray.toList_eq] at h
  cases a
  cases b
  congr 1
  exact Array.ext' e
theorem appended {w wA w1 : World} {C : Array Value} {l : List S26} {x : S26} {olds : List Value} {v : Value} {x1 x2 : Obj} {b1 b2 : Nat} (hB : Below w.heap.size w wA) (hX : wA.heap[b1]? = some x1) (hY : wA.heap[b2]? = some x2) (hO : Reps (fun (p : S26) c => k26.K w p c) 5 l olds)
    (hown : w1.ownsRow (wA.alloc (.cells C 26)).heap.size 26 5 v (l.length + 1) (olds ++ cs26 x)) (hg : (wA.alloc (.cells C 26)).grownBy w1 none) :
    Below w.heap.size w w1 ∧ w1.heap[b1]? = some x1 ∧ w1.heap[b2]? = some x2 ∧ ∃ A c, v = .slice A (l.length + 1) c ∧ l.length + 1 ≤ c ∧ Kd.C k26 w1 A (l.length + 1) (l ++ [x]) := by
  have hb : Below (wA.alloc (.cells C 26)).heap.size (wA.alloc (.cells C 26)) w1 := ⟨hg.os, hg.tape, hg.output, hg.size, fun k hk => hg.block k hk (by simp)⟩
  have hb1 : Below w.heap.size w w1 := s_trans (s_alloc hB _) hb
  have h9 := grown_reads hO hown hb1
  rw [List.length_append, List.length_singleton] at h9
  exact ⟨hb1, block_on hb (block_alloc hX _), block_on hb (block_alloc hY _), h9⟩
theorem base_on {B : Nat} {w w1 : World} {g : Nat} {x : Obj} (h : Below B w w1) (hg : w.heap[g]? = some x) (hl : g < B) : w1.heap[g]? = some x := (h.block g hl).trans hg
set_option maxRecDepth 100000 in
set_option maxHeartbeats 8000000 in
theorem apart_any (w : World) (A0 : Option Addr) (c0 : Nat) (l0 : List S26) (xs : ByteArray) (xc xf xu xx : Int) (sa : ByteArray) (ac ad : Int) (hr0 : Kd.C k26 w A0 l0.length l0) (hc0 : l0.length ≤ c0)
    (hl : (l0.length + 1) * 48 ≤ 140737488355328) (hs : ∀ y ∈ l0, y.f0.size ≤ maxLen ∧ (Lit.int .i64 y.f1).wf = true) (hxs : xs.size ≤ maxLen) (hxc : (Lit.int .i64 xc).wf = true) (has : sa.size ≤ maxLen) (hac : (Lit.int .i64 ac).wf = true) :
    Calls Try.prog 3 #[.slice A0 l0.length c0, .agg #[.string xs, .int .i64 xc, .int .i64 xf, .int .i64 xu, .int .i64 xx], .agg #[.string sa, .int .i64 ac, .int .i64 ad]] w fun e w' => e = .returned (.bool true) ∧ Below w.heap.size w w' := by
  have HR0 := Lib.hid hr0
  clear hr0
  go_enter Try.func3, Try.ntmps3
  go_upto_region 1 with fail
  obtain ⟨olds, hO, hC⟩ := olds_of HR0.out
  obtain ⟨bl, hbl, hlt⟩ := light_any (l0 ++ [⟨xs, xc, ⟨xf, xu, xx⟩⟩]) sa ac ad (by simp; omega)
  rw [List.length_append, List.length_singleton] at hlt hbl
  have HLT := Lib.hid hlt
  have HOL := Lib.hid hO
  obtain ⟨wA, hwA⟩ : ∃ W : World, W = ((w.alloc (Obj.cells #[.string xs, .int .i64 xc, .int .i64 xf, .int .i64 xu, .int .i64 xx] 26)).alloc (Obj.cells #[.string sa, .int .i64 ac, .int .i64 ad] 28)) := ⟨_, rfl⟩
  have hB : Below w.heap.size w wA := by rw [hwA]; exact s_alloc (s_alloc (Below.refl _ _) _) _
  have hX : wA.heap[w.heap.size]? = some (.cells #[.string xs, .int .i64 xc, .int .i64 xf, .int .i64 xu, .int .i64 xx] 26 (0, 0)) := by rw [hwA]; exact block_alloc Array.getElem?_push_size _
  have hY : wA.heap[w.heap.size + 1]? = some (.cells #[.string sa, .int .i64 ac, .int .i64 ad] 28 (0, 0)) := by rw [hwA]; exact block_two (Below.refl _ _)
  rw [← hwA]
  have HB := Lib.hid hB
  have HX := Lib.hid hX
  have HY := Lib.hid hY
  clear hwA hlt hB hX hY hO
  go_cut [39] (fun v39 wc => ∃ b : Bool, v39 = .bool b ∧ Hid (b = false → l0.length ≤ 60 ∧ ¬ (xs = sa ∧ xc = ac)) ∧ Hid (Below w.heap.size w wc) ∧ Hid (wc.heap[w.heap.size]? = some (.cells #[.string xs, .int .i64 xc, .int .i64 xf, .int .i64 xu, .int .i64 xx] 26 (0, 0))) ∧ Hid (wc.heap[w.heap.size + 1]? = some (.cells #[.string sa, .int .i64 ac, .int .i64 ad] 28 (0, 0))))
  case first =>
    obtain ⟨x0, x1, x2, x3, x4⟩ := cells5 HX.out
    obtain ⟨y0, y1, y2⟩ := cells3 HY.out
    obtain ⟨i0, hi0, hz0, hzs, hzb⟩ := info_parts info26
    have hnil : A0 = none → l0.length = 0 ∧ l0.length = 0 := fun e => by
      subst e
      rcases Nat.eq_zero_or_pos l0.length with h0 | h0
      · exact ⟨h0, h0⟩
      · obtain ⟨ad, e, _⟩ := HR0.out.2.2 h0
        cases e
    cases bl
    · skip
      refine start_ (n := 26) (S := fun w' => w'.cell? ⟨w.heap.size, 0, none⟩ = some (.string xs) ∧ w'.cell? ⟨w.heap.size, 1, none⟩ = some (.int .i64 xc) ∧ w'.cell? ⟨w.heap.size, 2, none⟩ = some (.int .i64 xf) ∧ w'.cell? ⟨w.heap.size, 3, none⟩ = some (.int .i64 xu) ∧ w'.cell? ⟨w.heap.size, 4, none⟩ = some (.int .i64 xx) ∧ w'.cell? ⟨w.heap.size + 1, 0, none⟩ = some (.string sa) ∧ w'.cell? ⟨w.heap.size + 1, 1, none⟩ = some (.int .i64 ac) ∧ w'.cell? ⟨w.heap.size + 1, 2, none⟩ = some (.int .i64 ad)) (ds := []) #[false, false, false, false, false, false, false, false, false, false, false, false, false, false, false, false, false, false, false, false, false, false, false, false, false, false] (by kernel_rfl) rfl rfl ⟨(cells5 HX.out).1, (cells5 HX.out).2.1, (cells5 HX.out).2.2.1, (cells5 HX.out).2.2.2.1, (cells5 HX.out).2.2.2.2, (cells3 HY.out).1, (cells3 HY.out).2.1, (cells3 HY.out).2.2⟩ (fun hHeld => ?_)
      obtain ⟨wB, hwB⟩ : ∃ W, W = wA.drew := ⟨_, rfl⟩
      rw [← hwB] at hHeld
      rw [← hwB]
      have HBB := Lib.hid (by rw [hwB]; exact s_drew HB.out : Below w.heap.size w wB)
      have HXB := Lib.hid (by rw [hwB]; exact HX.out : wB.heap[w.heap.size]? = some (.cells #[.string xs, .int .i64 xc, .int .i64 xf, .int .i64 xu, .int .i64 xx] 26 (0, 0)))
      have HYB := Lib.hid (by rw [hwB]; exact HY.out : wB.heap[w.heap.size + 1]? = some (.cells #[.string sa, .int .i64 ac, .int .i64 ad] 28 (0, 0)))
      have HOC := Lib.hid (olds_on hC HBB.out (C := #[.string xs, .int .i64 xc, .int .i64 xf, .int .i64 xu, .int .i64 xx]))
      have HNW := Lib.hid (fun j u hu => fresh_cells wB #[.string xs, .int .i64 xc, .int .i64 xf, .int .i64 xu, .int .i64 xx] 26 j u hu : ∀ j u, (cs26 ⟨xs, xc, ⟨xf, xu, xx⟩⟩)[j]? = some u → (wB.alloc (.cells #[.string xs, .int .i64 xc, .int .i64 xf, .int .i64 xu, .int .i64 xx] 26)).cell? (Addr.add ⟨wB.heap.size, 0, none⟩ j) = some u)
      clear hwB
      refine pure_ (i := 0) (N := some 14) (v := ?_) (a' := ?_) #[true, false, false, false, false, false, false, false, false, false, false, false, false, false, false, false, false, false, false, false, false, false, false, false, false, false] rfl rfl (by kernel_rfl) (fun _ _ _ h => h) (Or.inl ⟨by rfl, ?_⟩) ?_ ?_
      rotate_left
      · intro w'
        go_simp
        with_reducible rfl
      rotate_left
      · simp only [Act.put, List.setIfInBounds_toArray, List.set_cons_zero, List.set_cons_succ, i64_w, i32_w]
        rfl
      refine pure_ (i := 1) (N := some 15) (v := ?_) (a' := ?_) #[true, true, false, false, false, false, false, false, false, false, false, false, false, false, false, false, false, false, false, false, false, false, false, false, false, false] rfl rfl (by kernel_rfl) (fun _ _ _ h => h) (Or.inl ⟨by rfl, ?_⟩) ?_ ?_
      rotate_left
      · intro w'
        go_simp
        with_reducible rfl
      rotate_left
      · simp only [Act.put, List.setIfInBounds_toArray, List.set_cons_zero, List.set_cons_succ, i64_w, i32_w]
        rfl
      refine pure_ (i := 2) (N := some 16) (v := ?_) (a' := ?_) #[true, true, true, false, false, false, false, false, false, false, false, false, false, false, false, false, false, false, false, false, false, false, false, false, false, false] rfl rfl (by kernel_rfl) (fun _ _ _ h => h) (Or.inl ⟨by rfl, ?_⟩) ?_ ?_
      rotate_left
      · intro w'
        go_simp
        with_reducible rfl
      rotate_left
      · simp only [Act.put, List.setIfInBounds_toArray, List.set_cons_zero, List.set_cons_succ, i64_w, i32_w]
        rfl
      refine pure_ (i := 3) (N := some 17) (v := ?_) (a' := ?_) #[true, true, true, true, false, false, false, false, false, false, false, false, false, false, false, false, false, false, false, false, false, false, false, false, false, false] rfl rfl (by kernel_rfl) (fun _ _ _ h => h) (Or.inl ⟨by rfl, ?_⟩) ?_ ?_
      rotate_left
      · intro w'
        go_simp
        with_reducible rfl
      rotate_left
      · simp only [Act.put, List.setIfInBounds_toArray, List.set_cons_zero, List.set_cons_succ, i64_w, i32_w]
        rfl
      refine pure_ (i := 4) (N := some 18) (v := ?_) (a' := ?_) #[true, true, true, true, true, false, false, false, false, false, false, false, false, false, false, false, false, false, false, false, false, false, false, false, false, false] rfl rfl (by kernel_rfl) (fun _ _ _ h => h) (Or.inl ⟨by rfl, ?_⟩) ?_ ?_
      rotate_left
      · intro w'
        go_simp
        with_reducible rfl
      rotate_left
      · simp only [Act.put, List.setIfInBounds_toArray, List.set_cons_zero, List.set_cons_succ, i64_w, i32_w]
        rfl
      refine pure_ (i := 5) (N := some 19) (v := ?_) (a' := ?_) #[true, true, true, true, true, true, false, false, false, false, false, false, false, false, false, false, false, false, false, false, false, false, false, false, false, false] rfl rfl (by kernel_rfl) (fun _ _ _ h => h) (Or.inl ⟨by rfl, ?_⟩) ?_ ?_
      rotate_left
      · intro w'
        go_simp
        with_reducible rfl
      rotate_left
      · simp only [Act.put, List.setIfInBounds_toArray, List.set_cons_zero, List.set_cons_succ, i64_w, i32_w]
        rfl
      refine take_ (i := 6) (N := some 20) (v := ?_) (a' := ?_) #[true, true, true, true, true, true, true, false, false, false, false, false, false, false, false, false, false, false, false, false, false, false, false, false, false, false] rfl rfl (by kernel_rfl) (fun _ _ _ h => h) (Or.inl ⟨by rfl, ?_⟩) hHeld ?_ ?_
      rotate_left
      · rintro w' ⟨s0, s1, s2, s3, s4, s5, s6, s7⟩
        go_simp
        with_reducible rfl
      rotate_left
      · simp only [Act.put, List.setIfInBounds_toArray, List.set_cons_zero, List.set_cons_succ, i64_w, i32_w]
        rfl
      refine take_ (i := 9) (N := some 23) (v := ?_) (a' := ?_) #[true, true, true, true, true, true, true, false, false, true, false, false, false, false, false, false, false, false, false, false, false, false, false, false, false, false] rfl rfl (by kernel_rfl) (fun _ _ _ h => h) (Or.inl ⟨by rfl, ?_⟩) hHeld ?_ ?_
      rotate_left
      · rintro w' ⟨s0, s1, s2, s3, s4, s5, s6, s7⟩
        go_simp
        with_reducible rfl
      rotate_left
      · simp only [Act.put, List.setIfInBounds_toArray, List.set_cons_zero, List.set_cons_succ, i64_w, i32_w]
        rfl
      refine one_ (i := 7) (N := some 21) #[true, true, true, true, true, true, true, true, false, true, false, false, false, false, false, false, false, false, false, false, false, false, false, false, false, false] rfl rfl (by kernel_rfl) (by decide) (fun K hK => ?_)
      refine value_ (w1 := ?_) (v := ?_) (by rfl) rfl ?_ ?_
      rotate_left 2
      · go_simp
        constructor
        · rfl
        · rfl
      refine hK.out _ _ ⟨(cells5 (block_alloc HXB.out _)).1, (cells5 (block_alloc HXB.out _)).2.1, (cells5 (block_alloc HXB.out _)).2.2.1, (cells5 (block_alloc HXB.out _)).2.2.2.1, (cells5 (block_alloc HXB.out _)).2.2.2.2, (cells3 (block_alloc HYB.out _)).1, (cells3 (block_alloc HYB.out _)).2.1, (cells3 (block_alloc HYB.out _)).2.2⟩ (fun hHeld => ?_)
      clear hK K
      refine norm_ (a' := ?_) ?_ ?_
      rotate_left
      · show Act.put _ (some 21) _ = _
        simp only [Act.put, List.setIfInBounds_toArray, List.set_cons_zero, List.set_cons_succ, i64_w, i32_w]
        rfl
      refine one_ (i := 8) (N := some 22) #[true, true, true, true, true, true, true, true, true, true, false, false, false, false, false, false, false, false, false, false, false, false, false, false, false, false] rfl rfl (by kernel_rfl) (by decide) (fun K hK => ?_)
      refine step_append_grows rfl (.tmp 19) (.tmp 21) 22 rfl 26 i0 _ 5 48 Try.underlying22 hi0 hz0 hzs hzb rfl (by decide) A0 l0.length l0.length olds (by simp [Act.eval, Act.put]) hnil HOL.out.1 HOC.out ⟨wB.heap.size, 0, none⟩ 1 1 (cs26 ⟨xs, xc, ⟨xf, xu, xx⟩⟩) (by simp [Act.eval, Act.put]) rfl HNW.out one26 (by omega) (by unfold maxLen; omega) hl ?_
      intro v1 w1 hown hgr
      obtain ⟨HB1', HX1', HY1', A1, c1, rfl, hle, hrow⟩ := appended HBB.out HXB.out HYB.out HOL.out hown hgr
      have HB1 := Lib.hid HB1'
      have HX1 := Lib.hid HX1'
      have HY1 := Lib.hid HY1'
      have HRW := Lib.hid hrow
      have HLE := Lib.hid hle
      clear HB1' HX1' HY1' hrow hle hown hgr
      refine hK.out _ _ ⟨(cells5 HX1.out).1, (cells5 HX1.out).2.1, (cells5 HX1.out).2.2.1, (cells5 HX1.out).2.2.2.1, (cells5 HX1.out).2.2.2.2, (cells3 HY1.out).1, (cells3 HY1.out).2.1, (cells3 HY1.out).2.2⟩ (fun hHeld => ?_)
      clear hK K
      refine norm_ (a' := ?_) ?_ ?_
      rotate_left
      · show Act.put _ (some 22) _ = _
        simp only [Act.put, List.setIfInBounds_toArray, List.set_cons_zero, List.set_cons_succ, i64_w, i32_w]
        rfl
      refine one_ (i := 10) (N := some 24) #[true, true, true, true, true, true, true, true, true, true, true, false, false, false, false, false, false, false, false, false, false, false, false, false, false, false] rfl rfl (by kernel_rfl) (by decide) (fun K hK => ?_)
      refine goes_ Try.func11 (by kernel_rfl) rfl #[.slice A1 (l0.length + 1) c1, .agg #[.string sa, .int .i64 ac, .int .i64 ad]] (by rfl) rfl rfl (by simp only [List.map_toArray, List.map_cons, List.map_nil]; rfl) ?_
      with_reducible refine (HLT.out A1 c1 w1 HRW.out HLE.out).mono ?_
      rintro e w2 ⟨rfl, hb⟩
      refine ⟨_, rfl, ?_⟩
      have HB2 := Lib.hid (s_trans HB1.out hb)
      have HX2 := Lib.hid (block_on hb HX1.out)
      have HY2 := Lib.hid (block_on hb HY1.out)
      clear hb
      refine hK.out _ _ ⟨(cells5 HX2.out).1, (cells5 HX2.out).2.1, (cells5 HX2.out).2.2.1, (cells5 HX2.out).2.2.2.1, (cells5 HX2.out).2.2.2.2, (cells3 HY2.out).1, (cells3 HY2.out).2.1, (cells3 HY2.out).2.2⟩ (fun hHeld => ?_)
      clear hK K
      refine norm_ (a' := ?_) ?_ ?_
      rotate_left
      · show Act.put _ (some 24) _ = _
        simp only [Act.put, List.setIfInBounds_toArray, List.set_cons_zero, List.set_cons_succ, i64_w, i32_w]
        rfl
      refine pure_ (i := 11) (N := some 25) (v := ?_) (a' := ?_) #[true, true, true, true, true, true, true, true, true, true, true, true, false, false, false, false, false, false, false, false, false, false, false, false, false, false] rfl rfl (by kernel_rfl) (fun _ _ _ h => h) (Or.inl ⟨by rfl, ?_⟩) ?_ ?_
      rotate_left
      · intro w'
        go_simp
        with_reducible rfl
      rotate_left
      · simp only [Act.put, List.setIfInBounds_toArray, List.set_cons_zero, List.set_cons_succ, i64_w, i32_w]
        rfl
      refine pure_ (i := 12) (N := some 26) (v := ?_) (a' := ?_) #[true, true, true, true, true, true, true, true, true, true, true, true, true, false, false, false, false, false, false, false, false, false, false, false, false, false] rfl rfl (by kernel_rfl) (fun _ _ _ h => h) (Or.inl ⟨by rfl, ?_⟩) ?_ ?_
      rotate_left
      · intro w'
        go_simp
        with_reducible rfl
      rotate_left
      · simp only [Act.put, List.setIfInBounds_toArray, List.set_cons_zero, List.set_cons_succ, i64_w, i32_w]
        rfl
      refine pure_ (i := 13) (N := some 27) (v := undef) (a' := ?_) #[true, true, true, true, true, true, true, true, true, true, true, true, true, true, false, false, false, false, false, false, false, false, false, false, false, false] rfl rfl (by kernel_rfl) (fun _ _ _ h => h) (Or.inr ⟨by rfl, rfl⟩) ?_ ?_
      rotate_left
      · simp only [Act.put, List.setIfInBounds_toArray, List.set_cons_zero, List.set_cons_succ, i64_w, i32_w]
        rfl
      refine pure_ (i := 14) (N := some 28) (v := undef) (a' := ?_) #[true, true, true, true, true, true, true, true, true, true, true, true, true, true, true, false, false, false, false, false, false, false, false, false, false, false] rfl rfl (by kernel_rfl) (fun _ _ _ h => h) (Or.inr ⟨by rfl, rfl⟩) ?_ ?_
      rotate_left
      · simp only [Act.put, List.setIfInBounds_toArray, List.set_cons_zero, List.set_cons_succ, i64_w, i32_w]
        rfl
      refine pure_ (i := 15) (N := some 29) (v := undef) (a' := ?_) #[true, true, true, true, true, true, true, true, true, true, true, true, true, true, true, true, false, false, false, false, false, false, false, false, false, false] rfl rfl (by kernel_rfl) (fun _ _ _ h => h) (Or.inr ⟨by rfl, rfl⟩) ?_ ?_
      rotate_left
      · simp only [Act.put, List.setIfInBounds_toArray, List.set_cons_zero, List.set_cons_succ, i64_w, i32_w]
        rfl
      refine pure_ (i := 16) (N := some 30) (v := undef) (a' := ?_) #[true, true, true, true, true, true, true, true, true, true, true, true, true, true, true, true, true, false, false, false, false, false, false, false, false, false] rfl rfl (by kernel_rfl) (fun _ _ _ h => h) (Or.inr ⟨by rfl, rfl⟩) ?_ ?_
      rotate_left
      · simp only [Act.put, List.setIfInBounds_toArray, List.set_cons_zero, List.set_cons_succ, i64_w, i32_w]
        rfl
      refine pure_ (i := 17) (N := some 31) (v := undef) (a' := ?_) #[true, true, true, true, true, true, true, true, true, true, true, true, true, true, true, true, true, true, false, false, false, false, false, false, false, false] rfl rfl (by kernel_rfl) (fun _ _ _ h => h) (Or.inr ⟨by rfl, rfl⟩) ?_ ?_
      rotate_left
      · simp only [Act.put, List.setIfInBounds_toArray, List.set_cons_zero, List.set_cons_succ, i64_w, i32_w]
        rfl
      refine pure_ (i := 18) (N := some 32) (v := undef) (a' := ?_) #[true, true, true, true, true, true, true, true, true, true, true, true, true, true, true, true, true, true, true, false, false, false, false, false, false, false] rfl rfl (by kernel_rfl) (fun _ _ _ h => h) (Or.inr ⟨by rfl, rfl⟩) ?_ ?_
      rotate_left
      · simp only [Act.put, List.setIfInBounds_toArray, List.set_cons_zero, List.set_cons_succ, i64_w, i32_w]
        rfl
      refine pure_ (i := 19) (N := some 33) (v := undef) (a' := ?_) #[true, true, true, true, true, true, true, true, true, true, true, true, true, true, true, true, true, true, true, true, false, false, false, false, false, false] rfl rfl (by kernel_rfl) (fun _ _ _ h => h) (Or.inr ⟨by rfl, rfl⟩) ?_ ?_
      rotate_left
      · simp only [Act.put, List.setIfInBounds_toArray, List.set_cons_zero, List.set_cons_succ, i64_w, i32_w]
        rfl
      refine pure_ (i := 20) (N := some 34) (v := undef) (a' := ?_) #[true, true, true, true, true, true, true, true, true, true, true, true, true, true, true, true, true, true, true, true, true, false, false, false, false, false] rfl rfl (by kernel_rfl) (fun _ _ _ h => h) (Or.inr ⟨by rfl, rfl⟩) ?_ ?_
      rotate_left
      · simp only [Act.put, List.setIfInBounds_toArray, List.set_cons_zero, List.set_cons_succ, i64_w, i32_w]
        rfl
      refine pure_ (i := 21) (N := some 35) (v := undef) (a' := ?_) #[true, true, true, true, true, true, true, true, true, true, true, true, true, true, true, true, true, true, true, true, true, true, false, false, false, false] rfl rfl (by kernel_rfl) (fun _ _ _ h => h) (Or.inr ⟨by rfl, rfl⟩) ?_ ?_
      rotate_left
      · simp only [Act.put, List.setIfInBounds_toArray, List.set_cons_zero, List.set_cons_succ, i64_w, i32_w]
        rfl
      refine pure_ (i := 22) (N := some 36) (v := undef) (a' := ?_) #[true, true, true, true, true, true, true, true, true, true, true, true, true, true, true, true, true, true, true, true, true, true, true, false, false, false] rfl rfl (by kernel_rfl) (fun _ _ _ h => h) (Or.inr ⟨by rfl, rfl⟩) ?_ ?_
      rotate_left
      · simp only [Act.put, List.setIfInBounds_toArray, List.set_cons_zero, List.set_cons_succ, i64_w, i32_w]
        rfl
      refine pure_ (i := 23) (N := some 37) (v := undef) (a' := ?_) #[true, true, true, true, true, true, true, true, true, true, true, true, true, true, true, true, true, true, true, true, true, true, true, true, false, false] rfl rfl (by kernel_rfl) (fun _ _ _ h => h) (Or.inr ⟨by rfl, rfl⟩) ?_ ?_
      rotate_left
      · simp only [Act.put, List.setIfInBounds_toArray, List.set_cons_zero, List.set_cons_succ, i64_w, i32_w]
        rfl
      refine pure_ (i := 24) (N := some 38) (v := undef) (a' := ?_) #[true, true, true, true, true, true, true, true, true, true, true, true, true, true, true, true, true, true, true, true, true, true, true, true, true, false] rfl rfl (by kernel_rfl) (fun _ _ _ h => h) (Or.inr ⟨by rfl, rfl⟩) ?_ ?_
      rotate_left
      · simp only [Act.put, List.setIfInBounds_toArray, List.set_cons_zero, List.set_cons_succ, i64_w, i32_w]
        rfl
      refine pure_ (i := 25) (N := some 39) (v := ?_) (a' := ?_) #[true, true, true, true, true, true, true, true, true, true, true, true, true, true, true, true, true, true, true, true, true, true, true, true, true, true] rfl rfl (by kernel_rfl) (fun _ _ _ h => h) (Or.inl ⟨by rfl, ?_⟩) ?_ ?_
      rotate_left
      · intro w'
        go_simp
        with_reducible rfl
      rotate_left
      · simp only [Act.put, List.setIfInBounds_toArray, List.set_cons_zero, List.set_cons_succ, i64_w, i32_w]
        rfl
      refine done_ (by kernel_rfl) ?_
      go_wp2
      go_meet
      case rel => exact ⟨true, rfl, fun e => (by cases e), HB2, HX2, HY2⟩
    · have hn60 : l0.length ≤ 60 := by have := hbl rfl; omega
      by_cases hss : xs = sa
      · have h1 : (xs.toList == sa.toList) = true := by rw [hss]; simp
        clear hss
        refine start_ (n := 26) (S := fun w' => w'.cell? ⟨w.heap.size, 0, none⟩ = some (.string xs) ∧ w'.cell? ⟨w.heap.size, 1, none⟩ = some (.int .i64 xc) ∧ w'.cell? ⟨w.heap.size, 2, none⟩ = some (.int .i64 xf) ∧ w'.cell? ⟨w.heap.size, 3, none⟩ = some (.int .i64 xu) ∧ w'.cell? ⟨w.heap.size, 4, none⟩ = some (.int .i64 xx) ∧ w'.cell? ⟨w.heap.size + 1, 0, none⟩ = some (.string sa) ∧ w'.cell? ⟨w.heap.size + 1, 1, none⟩ = some (.int .i64 ac) ∧ w'.cell? ⟨w.heap.size + 1, 2, none⟩ = some (.int .i64 ad)) (ds := []) #[false, false, false, false, false, false, false, false, false, false, false, false, false, false, false, false, false, false, false, false, false, false, false, false, false, false] (by kernel_rfl) rfl rfl ⟨(cells5 HX.out).1, (cells5 HX.out).2.1, (cells5 HX.out).2.2.1, (cells5 HX.out).2.2.2.1, (cells5 HX.out).2.2.2.2, (cells3 HY.out).1, (cells3 HY.out).2.1, (cells3 HY.out).2.2⟩ (fun hHeld => ?_)
        obtain ⟨wB, hwB⟩ : ∃ W, W = wA.drew := ⟨_, rfl⟩
        rw [← hwB] at hHeld
        rw [← hwB]
        have HBB := Lib.hid (by rw [hwB]; exact s_drew HB.out : Below w.heap.size w wB)
        have HXB := Lib.hid (by rw [hwB]; exact HX.out : wB.heap[w.heap.size]? = some (.cells #[.string xs, .int .i64 xc, .int .i64 xf, .int .i64 xu, .int .i64 xx] 26 (0, 0)))
        have HYB := Lib.hid (by rw [hwB]; exact HY.out : wB.heap[w.heap.size + 1]? = some (.cells #[.string sa, .int .i64 ac, .int .i64 ad] 28 (0, 0)))
        have HOC := Lib.hid (olds_on hC HBB.out (C := #[.string xs, .int .i64 xc, .int .i64 xf, .int .i64 xu, .int .i64 xx]))
        have HNW := Lib.hid (fun j u hu => fresh_cells wB #[.string xs, .int .i64 xc, .int .i64 xf, .int .i64 xu, .int .i64 xx] 26 j u hu : ∀ j u, (cs26 ⟨xs, xc, ⟨xf, xu, xx⟩⟩)[j]? = some u → (wB.alloc (.cells #[.string xs, .int .i64 xc, .int .i64 xf, .int .i64 xu, .int .i64 xx] 26)).cell? (Addr.add ⟨wB.heap.size, 0, none⟩ j) = some u)
        clear hwB
        refine pure_ (i := 0) (N := some 14) (v := ?_) (a' := ?_) #[true, false, false, false, false, false, false, false, false, false, false, false, false, false, false, false, false, false, false, false, false, false, false, false, false, false] rfl rfl (by kernel_rfl) (fun _ _ _ h => h) (Or.inl ⟨by rfl, ?_⟩) ?_ ?_
        rotate_left
        · intro w'
          go_simp
          with_reducible rfl
        rotate_left
        · simp only [Act.put, List.setIfInBounds_toArray, List.set_cons_zero, List.set_cons_succ, i64_w, i32_w]
          rfl
        refine pure_ (i := 1) (N := some 15) (v := ?_) (a' := ?_) #[true, true, false, false, false, false, false, false, false, false, false, false, false, false, false, false, false, false, false, false, false, false, false, false, false, false] rfl rfl (by kernel_rfl) (fun _ _ _ h => h) (Or.inl ⟨by rfl, ?_⟩) ?_ ?_
        rotate_left
        · intro w'
          go_simp
          with_reducible rfl
        rotate_left
        · simp only [Act.put, List.setIfInBounds_toArray, List.set_cons_zero, List.set_cons_succ, i64_w, i32_w]
          rfl
        refine pure_ (i := 2) (N := some 16) (v := ?_) (a' := ?_) #[true, true, true, false, false, false, false, false, false, false, false, false, false, false, false, false, false, false, false, false, false, false, false, false, false, false] rfl rfl (by kernel_rfl) (fun _ _ _ h => h) (Or.inl ⟨by rfl, ?_⟩) ?_ ?_
        rotate_left
        · intro w'
          go_simp
          with_reducible rfl
        rotate_left
        · simp only [Act.put, List.setIfInBounds_toArray, List.set_cons_zero, List.set_cons_succ, i64_w, i32_w]
          rfl
        refine pure_ (i := 3) (N := some 17) (v := ?_) (a' := ?_) #[true, true, true, true, false, false, false, false, false, false, false, false, false, false, false, false, false, false, false, false, false, false, false, false, false, false] rfl rfl (by kernel_rfl) (fun _ _ _ h => h) (Or.inl ⟨by rfl, ?_⟩) ?_ ?_
        rotate_left
        · intro w'
          go_simp
          with_reducible rfl
        rotate_left
        · simp only [Act.put, List.setIfInBounds_toArray, List.set_cons_zero, List.set_cons_succ, i64_w, i32_w]
          rfl
        refine pure_ (i := 4) (N := some 18) (v := ?_) (a' := ?_) #[true, true, true, true, true, false, false, false, false, false, false, false, false, false, false, false, false, false, false, false, false, false, false, false, false, false] rfl rfl (by kernel_rfl) (fun _ _ _ h => h) (Or.inl ⟨by rfl, ?_⟩) ?_ ?_
        rotate_left
        · intro w'
          go_simp
          with_reducible rfl
        rotate_left
        · simp only [Act.put, List.setIfInBounds_toArray, List.set_cons_zero, List.set_cons_succ, i64_w, i32_w]
          rfl
        refine pure_ (i := 5) (N := some 19) (v := ?_) (a' := ?_) #[true, true, true, true, true, true, false, false, false, false, false, false, false, false, false, false, false, false, false, false, false, false, false, false, false, false] rfl rfl (by kernel_rfl) (fun _ _ _ h => h) (Or.inl ⟨by rfl, ?_⟩) ?_ ?_
        rotate_left
        · intro w'
          go_simp
          with_reducible rfl
        rotate_left
        · simp only [Act.put, List.setIfInBounds_toArray, List.set_cons_zero, List.set_cons_succ, i64_w, i32_w]
          rfl
        refine take_ (i := 6) (N := some 20) (v := ?_) (a' := ?_) #[true, true, true, true, true, true, true, false, false, false, false, false, false, false, false, false, false, false, false, false, false, false, false, false, false, false] rfl rfl (by kernel_rfl) (fun _ _ _ h => h) (Or.inl ⟨by rfl, ?_⟩) hHeld ?_ ?_
        rotate_left
        · rintro w' ⟨s0, s1, s2, s3, s4, s5, s6, s7⟩
          go_simp
          with_reducible rfl
        rotate_left
        · simp only [Act.put, List.setIfInBounds_toArray, List.set_cons_zero, List.set_cons_succ, i64_w, i32_w]
          rfl
        refine take_ (i := 9) (N := some 23) (v := ?_) (a' := ?_) #[true, true, true, true, true, true, true, false, false, true, false, false, false, false, false, false, false, false, false, false, false, false, false, false, false, false] rfl rfl (by kernel_rfl) (fun _ _ _ h => h) (Or.inl ⟨by rfl, ?_⟩) hHeld ?_ ?_
        rotate_left
        · rintro w' ⟨s0, s1, s2, s3, s4, s5, s6, s7⟩
          go_simp
          with_reducible rfl
        rotate_left
        · simp only [Act.put, List.setIfInBounds_toArray, List.set_cons_zero, List.set_cons_succ, i64_w, i32_w]
          rfl
        refine one_ (i := 7) (N := some 21) #[true, true, true, true, true, true, true, true, false, true, false, false, false, false, false, false, false, false, false, false, false, false, false, false, false, false] rfl rfl (by kernel_rfl) (by decide) (fun K hK => ?_)
        refine value_ (w1 := ?_) (v := ?_) (by rfl) rfl ?_ ?_
        rotate_left 2
        · go_simp
          constructor
          · rfl
          · rfl
        refine hK.out _ _ ⟨(cells5 (block_alloc HXB.out _)).1, (cells5 (block_alloc HXB.out _)).2.1, (cells5 (block_alloc HXB.out _)).2.2.1, (cells5 (block_alloc HXB.out _)).2.2.2.1, (cells5 (block_alloc HXB.out _)).2.2.2.2, (cells3 (block_alloc HYB.out _)).1, (cells3 (block_alloc HYB.out _)).2.1, (cells3 (block_alloc HYB.out _)).2.2⟩ (fun hHeld => ?_)
        clear hK K
        refine norm_ (a' := ?_) ?_ ?_
        rotate_left
        · show Act.put _ (some 21) _ = _
          simp only [Act.put, List.setIfInBounds_toArray, List.set_cons_zero, List.set_cons_succ, i64_w, i32_w]
          rfl
        refine one_ (i := 8) (N := some 22) #[true, true, true, true, true, true, true, true, true, true, false, false, false, false, false, false, false, false, false, false, false, false, false, false, false, false] rfl rfl (by kernel_rfl) (by decide) (fun K hK => ?_)
        refine step_append_grows rfl (.tmp 19) (.tmp 21) 22 rfl 26 i0 _ 5 48 Try.underlying22 hi0 hz0 hzs hzb rfl (by decide) A0 l0.length l0.length olds (by simp [Act.eval, Act.put]) hnil HOL.out.1 HOC.out ⟨wB.heap.size, 0, none⟩ 1 1 (cs26 ⟨xs, xc, ⟨xf, xu, xx⟩⟩) (by simp [Act.eval, Act.put]) rfl HNW.out one26 (by omega) (by unfold maxLen; omega) hl ?_
        intro v1 w1 hown hgr
        obtain ⟨HB1', HX1', HY1', A1, c1, rfl, hle, hrow⟩ := appended HBB.out HXB.out HYB.out HOL.out hown hgr
        have HB1 := Lib.hid HB1'
        have HX1 := Lib.hid HX1'
        have HY1 := Lib.hid HY1'
        have HRW := Lib.hid hrow
        have HLE := Lib.hid hle
        clear HB1' HX1' HY1' hrow hle hown hgr
        refine hK.out _ _ ⟨(cells5 HX1.out).1, (cells5 HX1.out).2.1, (cells5 HX1.out).2.2.1, (cells5 HX1.out).2.2.2.1, (cells5 HX1.out).2.2.2.2, (cells3 HY1.out).1, (cells3 HY1.out).2.1, (cells3 HY1.out).2.2⟩ (fun hHeld => ?_)
        clear hK K
        refine norm_ (a' := ?_) ?_ ?_
        rotate_left
        · show Act.put _ (some 22) _ = _
          simp only [Act.put, List.setIfInBounds_toArray, List.set_cons_zero, List.set_cons_succ, i64_w, i32_w]
          rfl
        refine one_ (i := 10) (N := some 24) #[true, true, true, true, true, true, true, true, true, true, true, false, false, false, false, false, false, false, false, false, false, false, false, false, false, false] rfl rfl (by kernel_rfl) (by decide) (fun K hK => ?_)
        refine goes_ Try.func11 (by kernel_rfl) rfl #[.slice A1 (l0.length + 1) c1, .agg #[.string sa, .int .i64 ac, .int .i64 ad]] (by rfl) rfl rfl (by simp only [List.map_toArray, List.map_cons, List.map_nil]; rfl) ?_
        with_reducible refine (HLT.out A1 c1 w1 HRW.out HLE.out).mono ?_
        rintro e w2 ⟨rfl, hb⟩
        refine ⟨_, rfl, ?_⟩
        have HB2 := Lib.hid (s_trans HB1.out hb)
        have HX2 := Lib.hid (block_on hb HX1.out)
        have HY2 := Lib.hid (block_on hb HY1.out)
        clear hb
        refine hK.out _ _ ⟨(cells5 HX2.out).1, (cells5 HX2.out).2.1, (cells5 HX2.out).2.2.1, (cells5 HX2.out).2.2.2.1, (cells5 HX2.out).2.2.2.2, (cells3 HY2.out).1, (cells3 HY2.out).2.1, (cells3 HY2.out).2.2⟩ (fun hHeld => ?_)
        clear hK K
        refine norm_ (a' := ?_) ?_ ?_
        rotate_left
        · show Act.put _ (some 24) _ = _
          simp only [Act.put, List.setIfInBounds_toArray, List.set_cons_zero, List.set_cons_succ, i64_w, i32_w]
          rfl
        refine pure_ (i := 11) (N := some 25) (v := ?_) (a' := ?_) #[true, true, true, true, true, true, true, true, true, true, true, true, false, false, false, false, false, false, false, false, false, false, false, false, false, false] rfl rfl (by kernel_rfl) (fun _ _ _ h => h) (Or.inl ⟨by rfl, ?_⟩) ?_ ?_
        rotate_left
        · intro w'
          go_simp
          with_reducible rfl
        rotate_left
        · simp only [Act.put, List.setIfInBounds_toArray, List.set_cons_zero, List.set_cons_succ, i64_w, i32_w]
          rfl
        refine pure_ (i := 12) (N := some 26) (v := ?_) (a' := ?_) #[true, true, true, true, true, true, true, true, true, true, true, true, true, false, false, false, false, false, false, false, false, false, false, false, false, false] rfl rfl (by kernel_rfl) (fun _ _ _ h => h) (Or.inl ⟨by rfl, ?_⟩) ?_ ?_
        rotate_left
        · intro w'
          go_simp
          with_reducible rfl
        rotate_left
        · simp only [Act.put, List.setIfInBounds_toArray, List.set_cons_zero, List.set_cons_succ, i64_w, i32_w]
          rfl
        refine pure_ (i := 13) (N := some 27) (v := ?_) (a' := ?_) #[true, true, true, true, true, true, true, true, true, true, true, true, true, true, false, false, false, false, false, false, false, false, false, false, false, false] rfl rfl (by kernel_rfl) (fun _ _ _ h => h) (Or.inl ⟨by rfl, ?_⟩) ?_ ?_
        rotate_left
        · intro w'
          go_simp
          with_reducible rfl
        rotate_left
        · simp only [Act.put, List.setIfInBounds_toArray, List.set_cons_zero, List.set_cons_succ, i64_w, i32_w]
          rfl
        refine pure_ (i := 15) (N := some 29) (v := ?_) (a' := ?_) #[true, true, true, true, true, true, true, true, true, true, true, true, true, true, false, true, false, false, false, false, false, false, false, false, false, false] rfl rfl (by kernel_rfl) (fun _ _ _ h => h) (Or.inl ⟨by rfl, ?_⟩) ?_ ?_
        rotate_left
        · intro w'
          go_simp
          with_reducible rfl
        rotate_left
        · simp only [Act.put, List.setIfInBounds_toArray, List.set_cons_zero, List.set_cons_succ, i64_w, i32_w]
          rfl
        refine take_ (i := 14) (N := some 28) (v := ?_) (a' := ?_) #[true, true, true, true, true, true, true, true, true, true, true, true, true, true, true, true, false, false, false, false, false, false, false, false, false, false] rfl rfl (by kernel_rfl) (fun _ _ _ h => h) (Or.inl ⟨by rfl, ?_⟩) hHeld ?_ ?_
        rotate_left
        · rintro w' ⟨s0, s1, s2, s3, s4, s5, s6, s7⟩
          go_simp
          with_reducible rfl
        rotate_left
        · simp only [Act.put, List.setIfInBounds_toArray, List.set_cons_zero, List.set_cons_succ, i64_w, i32_w]
          rfl
        refine take_ (i := 16) (N := some 30) (v := ?_) (a' := ?_) #[true, true, true, true, true, true, true, true, true, true, true, true, true, true, true, true, true, false, false, false, false, false, false, false, false, false] rfl rfl (by kernel_rfl) (fun _ _ _ h => h) (Or.inl ⟨by rfl, ?_⟩) hHeld ?_ ?_
        rotate_left
        · rintro w' ⟨s0, s1, s2, s3, s4, s5, s6, s7⟩
          go_simp
          with_reducible rfl
        rotate_left
        · simp only [Act.put, List.setIfInBounds_toArray, List.set_cons_zero, List.set_cons_succ, i64_w, i32_w]
          rfl
        refine pure_ (i := 17) (N := some 31) (v := ?_) (a' := ?_) #[true, true, true, true, true, true, true, true, true, true, true, true, true, true, true, true, true, true, false, false, false, false, false, false, false, false] rfl rfl (by kernel_rfl) (fun _ _ _ h => h) (Or.inl ⟨by rfl, ?_⟩) ?_ ?_
        rotate_left
        · intro w'
          go_simp
          with_reducible rfl
        rotate_left
        · simp only [Act.put, List.setIfInBounds_toArray, List.set_cons_zero, List.set_cons_succ, i64_w, i32_w]
          rfl
        refine pure_ (i := 18) (N := some 32) (v := ?_) (a' := ?_) #[true, true, true, true, true, true, true, true, true, true, true, true, true, true, true, true, true, true, true, false, false, false, false, false, false, false] rfl rfl (by kernel_rfl) (fun _ _ _ h => h) (Or.inl ⟨by rfl, ?_⟩) ?_ ?_
        rotate_left
        · intro w'
          go_simp
          with_reducible rfl
        rotate_left
        · simp only [Act.put, List.setIfInBounds_toArray, List.set_cons_zero, List.set_cons_succ, i64_w, i32_w]
          rfl
        refine pure_ (i := 19) (N := some 33) (v := ?_) (a' := ?_) #[true, true, true, true, true, true, true, true, true, true, true, true, true, true, true, true, true, true, true, true, false, false, false, false, false, false] rfl rfl (by kernel_rfl) (fun _ _ _ h => h) (Or.inl ⟨by rfl, ?_⟩) ?_ ?_
        rotate_left
        · intro w'
          go_simp
          with_reducible rfl
        rotate_left
        · simp only [Act.put, List.setIfInBounds_toArray, List.set_cons_zero, List.set_cons_succ, i64_w, i32_w]
          rfl
        refine pure_ (i := 21) (N := some 35) (v := ?_) (a' := ?_) #[true, true, true, true, true, true, true, true, true, true, true, true, true, true, true, true, true, true, true, true, false, true, false, false, false, false] rfl rfl (by kernel_rfl) (fun _ _ _ h => h) (Or.inl ⟨by rfl, ?_⟩) ?_ ?_
        rotate_left
        · intro w'
          go_simp
          with_reducible rfl
        rotate_left
        · simp only [Act.put, List.setIfInBounds_toArray, List.set_cons_zero, List.set_cons_succ, i64_w, i32_w]
          rfl
        refine take_ (i := 20) (N := some 34) (v := ?_) (a' := ?_) #[true, true, true, true, true, true, true, true, true, true, true, true, true, true, true, true, true, true, true, true, true, true, false, false, false, false] rfl rfl (by kernel_rfl) (fun _ _ _ h => h) (Or.inl ⟨by rfl, ?_⟩) hHeld ?_ ?_
        rotate_left
        · rintro w' ⟨s0, s1, s2, s3, s4, s5, s6, s7⟩
          go_simp
          with_reducible rfl
        rotate_left
        · simp only [Act.put, List.setIfInBounds_toArray, List.set_cons_zero, List.set_cons_succ, i64_w, i32_w]
          rfl
        refine take_ (i := 22) (N := some 36) (v := ?_) (a' := ?_) #[true, true, true, true, true, true, true, true, true, true, true, true, true, true, true, true, true, true, true, true, true, true, true, false, false, false] rfl rfl (by kernel_rfl) (fun _ _ _ h => h) (Or.inl ⟨by rfl, ?_⟩) hHeld ?_ ?_
        rotate_left
        · rintro w' ⟨s0, s1, s2, s3, s4, s5, s6, s7⟩
          go_simp
          with_reducible rfl
        rotate_left
        · simp only [Act.put, List.setIfInBounds_toArray, List.set_cons_zero, List.set_cons_succ, i64_w, i32_w]
          rfl
        refine pure_ (i := 23) (N := some 37) (v := ?_) (a' := ?_) #[true, true, true, true, true, true, true, true, true, true, true, true, true, true, true, true, true, true, true, true, true, true, true, true, false, false] rfl rfl (by kernel_rfl) (fun _ _ _ h => h) (Or.inl ⟨by rfl, ?_⟩) ?_ ?_
        rotate_left
        · intro w'
          go_simp
          with_reducible rfl
        rotate_left
        · simp only [Act.put, List.setIfInBounds_toArray, List.set_cons_zero, List.set_cons_succ, i64_w, i32_w]
          rfl
        refine pure_ (i := 24) (N := some 38) (v := ?_) (a' := ?_) #[true, true, true, true, true, true, true, true, true, true, true, true, true, true, true, true, true, true, true, true, true, true, true, true, true, false] rfl rfl (by kernel_rfl) (fun _ _ _ h => h) (Or.inl ⟨by rfl, ?_⟩) ?_ ?_
        rotate_left
        · intro w'
          go_simp
          with_reducible rfl
        rotate_left
        · simp only [Act.put, List.setIfInBounds_toArray, List.set_cons_zero, List.set_cons_succ, i64_w, i32_w]
          rfl
        refine pure_ (i := 25) (N := some 39) (v := ?_) (a' := ?_) #[true, true, true, true, true, true, true, true, true, true, true, true, true, true, true, true, true, true, true, true, true, true, true, true, true, true] rfl rfl (by kernel_rfl) (fun _ _ _ h => h) (Or.inl ⟨by rfl, ?_⟩) ?_ ?_
        rotate_left
        · intro w'
          go_simp
          with_reducible rfl
        rotate_left
        · simp only [Act.put, List.setIfInBounds_toArray, List.set_cons_zero, List.set_cons_succ, i64_w, i32_w]
          rfl
        refine done_ (by kernel_rfl) ?_
        go_wp2
        go_meet
        case rel => exact ⟨(xc == ac), rfl, fun e => ⟨hn60, fun h => by have := h.2; simp [this] at e⟩, HB2, HX2, HY2⟩
      · have h1 : (xs.toList == sa.toList) = false := beq_eq_false_iff_ne.2 (fun e => hss (ba_ext e))
        have HSS := Lib.hid hss
        clear hss
        refine start_ (n := 26) (S := fun w' => w'.cell? ⟨w.heap.size, 0, none⟩ = some (.string xs) ∧ w'.cell? ⟨w.heap.size, 1, none⟩ = some (.int .i64 xc) ∧ w'.cell? ⟨w.heap.size, 2, none⟩ = some (.int .i64 xf) ∧ w'.cell? ⟨w.heap.size, 3, none⟩ = some (.int .i64 xu) ∧ w'.cell? ⟨w.heap.size, 4, none⟩ = some (.int .i64 xx) ∧ w'.cell? ⟨w.heap.size + 1, 0, none⟩ = some (.string sa) ∧ w'.cell? ⟨w.heap.size + 1, 1, none⟩ = some (.int .i64 ac) ∧ w'.cell? ⟨w.heap.size + 1, 2, none⟩ = some (.int .i64 ad)) (ds := []) #[false, false, false, false, false, false, false, false, false, false, false, false, false, false, false, false, false, false, false, false, false, false, false, false, false, false] (by kernel_rfl) rfl rfl ⟨(cells5 HX.out).1, (cells5 HX.out).2.1, (cells5 HX.out).2.2.1, (cells5 HX.out).2.2.2.1, (cells5 HX.out).2.2.2.2, (cells3 HY.out).1, (cells3 HY.out).2.1, (cells3 HY.out).2.2⟩ (fun hHeld => ?_)
        obtain ⟨wB, hwB⟩ : ∃ W, W = wA.drew := ⟨_, rfl⟩
        rw [← hwB] at hHeld
        rw [← hwB]
        have HBB := Lib.hid (by rw [hwB]; exact s_drew HB.out : Below w.heap.size w wB)
        have HXB := Lib.hid (by rw [hwB]; exact HX.out : wB.heap[w.heap.size]? = some (.cells #[.string xs, .int .i64 xc, .int .i64 xf, .int .i64 xu, .int .i64 xx] 26 (0, 0)))
        have HYB := Lib.hid (by rw [hwB]; exact HY.out : wB.heap[w.heap.size + 1]? = some (.cells #[.string sa, .int .i64 ac, .int .i64 ad] 28 (0, 0)))
        have HOC := Lib.hid (olds_on hC HBB.out (C := #[.string xs, .int .i64 xc, .int .i64 xf, .int .i64 xu, .int .i64 xx]))
        have HNW := Lib.hid (fun j u hu => fresh_cells wB #[.string xs, .int .i64 xc, .int .i64 xf, .int .i64 xu, .int .i64 xx] 26 j u hu : ∀ j u, (cs26 ⟨xs, xc, ⟨xf, xu, xx⟩⟩)[j]? = some u → (wB.alloc (.cells #[.string xs, .int .i64 xc, .int .i64 xf, .int .i64 xu, .int .i64 xx] 26)).cell? (Addr.add ⟨wB.heap.size, 0, none⟩ j) = some u)
        clear hwB
        refine pure_ (i := 0) (N := some 14) (v := ?_) (a' := ?_) #[true, false, false, false, false, false, false, false, false, false, false, false, false, false, false, false, false, false, false, false, false, false, false, false, false, false] rfl rfl (by kernel_rfl) (fun _ _ _ h => h) (Or.inl ⟨by rfl, ?_⟩) ?_ ?_
        rotate_left
        · intro w'
          go_simp
          with_reducible rfl
        rotate_left
        · simp only [Act.put, List.setIfInBounds_toArray, List.set_cons_zero, List.set_cons_succ, i64_w, i32_w]
          rfl
        refine pure_ (i := 1) (N := some 15) (v := ?_) (a' := ?_) #[true, true, false, false, false, false, false, false, false, false, false, false, false, false, false, false, false, false, false, false, false, false, false, false, false, false] rfl rfl (by kernel_rfl) (fun _ _ _ h => h) (Or.inl ⟨by rfl, ?_⟩) ?_ ?_
        rotate_left
        · intro w'
          go_simp
          with_reducible rfl
        rotate_left
        · simp only [Act.put, List.setIfInBounds_toArray, List.set_cons_zero, List.set_cons_succ, i64_w, i32_w]
          rfl
        refine pure_ (i := 2) (N := some 16) (v := ?_) (a' := ?_) #[true, true, true, false, false, false, false, false, false, false, false, false, false, false, false, false, false, false, false, false, false, false, false, false, false, false] rfl rfl (by kernel_rfl) (fun _ _ _ h => h) (Or.inl ⟨by rfl, ?_⟩) ?_ ?_
        rotate_left
        · intro w'
          go_simp
          with_reducible rfl
        rotate_left
        · simp only [Act.put, List.setIfInBounds_toArray, List.set_cons_zero, List.set_cons_succ, i64_w, i32_w]
          rfl
        refine pure_ (i := 3) (N := some 17) (v := ?_) (a' := ?_) #[true, true, true, true, false, false, false, false, false, false, false, false, false, false, false, false, false, false, false, false, false, false, false, false, false, false] rfl rfl (by kernel_rfl) (fun _ _ _ h => h) (Or.inl ⟨by rfl, ?_⟩) ?_ ?_
        rotate_left
        · intro w'
          go_simp
          with_reducible rfl
        rotate_left
        · simp only [Act.put, List.setIfInBounds_toArray, List.set_cons_zero, List.set_cons_succ, i64_w, i32_w]
          rfl
        refine pure_ (i := 4) (N := some 18) (v := ?_) (a' := ?_) #[true, true, true, true, true, false, false, false, false, false, false, false, false, false, false, false, false, false, false, false, false, false, false, false, false, false] rfl rfl (by kernel_rfl) (fun _ _ _ h => h) (Or.inl ⟨by rfl, ?_⟩) ?_ ?_
        rotate_left
        · intro w'
          go_simp
          with_reducible rfl
        rotate_left
        · simp only [Act.put, List.setIfInBounds_toArray, List.set_cons_zero, List.set_cons_succ, i64_w, i32_w]
          rfl
        refine pure_ (i := 5) (N := some 19) (v := ?_) (a' := ?_) #[true, true, true, true, true, true, false, false, false, false, false, false, false, false, false, false, false, false, false, false, false, false, false, false, false, false] rfl rfl (by kernel_rfl) (fun _ _ _ h => h) (Or.inl ⟨by rfl, ?_⟩) ?_ ?_
        rotate_left
        · intro w'
          go_simp
          with_reducible rfl
        rotate_left
        · simp only [Act.put, List.setIfInBounds_toArray, List.set_cons_zero, List.set_cons_succ, i64_w, i32_w]
          rfl
        refine take_ (i := 6) (N := some 20) (v := ?_) (a' := ?_) #[true, true, true, true, true, true, true, false, false, false, false, false, false, false, false, false, false, false, false, false, false, false, false, false, false, false] rfl rfl (by kernel_rfl) (fun _ _ _ h => h) (Or.inl ⟨by rfl, ?_⟩) hHeld ?_ ?_
        rotate_left
        · rintro w' ⟨s0, s1, s2, s3, s4, s5, s6, s7⟩
          go_simp
          with_reducible rfl
        rotate_left
        · simp only [Act.put, List.setIfInBounds_toArray, List.set_cons_zero, List.set_cons_succ, i64_w, i32_w]
          rfl
        refine take_ (i := 9) (N := some 23) (v := ?_) (a' := ?_) #[true, true, true, true, true, true, true, false, false, true, false, false, false, false, false, false, false, false, false, false, false, false, false, false, false, false] rfl rfl (by kernel_rfl) (fun _ _ _ h => h) (Or.inl ⟨by rfl, ?_⟩) hHeld ?_ ?_
        rotate_left
        · rintro w' ⟨s0, s1, s2, s3, s4, s5, s6, s7⟩
          go_simp
          with_reducible rfl
        rotate_left
        · simp only [Act.put, List.setIfInBounds_toArray, List.set_cons_zero, List.set_cons_succ, i64_w, i32_w]
          rfl
        refine one_ (i := 7) (N := some 21) #[true, true, true, true, true, true, true, true, false, true, false, false, false, false, false, false, false, false, false, false, false, false, false, false, false, false] rfl rfl (by kernel_rfl) (by decide) (fun K hK => ?_)
        refine value_ (w1 := ?_) (v := ?_) (by rfl) rfl ?_ ?_
        rotate_left 2
        · go_simp
          constructor
          · rfl
          · rfl
        refine hK.out _ _ ⟨(cells5 (block_alloc HXB.out _)).1, (cells5 (block_alloc HXB.out _)).2.1, (cells5 (block_alloc HXB.out _)).2.2.1, (cells5 (block_alloc HXB.out _)).2.2.2.1, (cells5 (block_alloc HXB.out _)).2.2.2.2, (cells3 (block_alloc HYB.out _)).1, (cells3 (block_alloc HYB.out _)).2.1, (cells3 (block_alloc HYB.out _)).2.2⟩ (fun hHeld => ?_)
        clear hK K
        refine norm_ (a' := ?_) ?_ ?_
        rotate_left
        · show Act.put _ (some 21) _ = _
          simp only [Act.put, List.setIfInBounds_toArray, List.set_cons_zero, List.set_cons_succ, i64_w, i32_w]
          rfl
        refine one_ (i := 8) (N := some 22) #[true, true, true, true, true, true, true, true, true, true, false, false, false, false, false, false, false, false, false, false, false, false, false, false, false, false] rfl rfl (by kernel_rfl) (by decide) (fun K hK => ?_)
        refine step_append_grows rfl (.tmp 19) (.tmp 21) 22 rfl 26 i0 _ 5 48 Try.underlying22 hi0 hz0 hzs hzb rfl (by decide) A0 l0.length l0.length olds (by simp [Act.eval, Act.put]) hnil HOL.out.1 HOC.out ⟨wB.heap.size, 0, none⟩ 1 1 (cs26 ⟨xs, xc, ⟨xf, xu, xx⟩⟩) (by simp [Act.eval, Act.put]) rfl HNW.out one26 (by omega) (by unfold maxLen; omega) hl ?_
        intro v1 w1 hown hgr
        obtain ⟨HB1', HX1', HY1', A1, c1, rfl, hle, hrow⟩ := appended HBB.out HXB.out HYB.out HOL.out hown hgr
        have HB1 := Lib.hid HB1'
        have HX1 := Lib.hid HX1'
        have HY1 := Lib.hid HY1'
        have HRW := Lib.hid hrow
        have HLE := Lib.hid hle
        clear HB1' HX1' HY1' hrow hle hown hgr
        refine hK.out _ _ ⟨(cells5 HX1.out).1, (cells5 HX1.out).2.1, (cells5 HX1.out).2.2.1, (cells5 HX1.out).2.2.2.1, (cells5 HX1.out).2.2.2.2, (cells3 HY1.out).1, (cells3 HY1.out).2.1, (cells3 HY1.out).2.2⟩ (fun hHeld => ?_)
        clear hK K
        refine norm_ (a' := ?_) ?_ ?_
        rotate_left
        · show Act.put _ (some 22) _ = _
          simp only [Act.put, List.setIfInBounds_toArray, List.set_cons_zero, List.set_cons_succ, i64_w, i32_w]
          rfl
        refine one_ (i := 10) (N := some 24) #[true, true, true, true, true, true, true, true, true, true, true, false, false, false, false, false, false, false, false, false, false, false, false, false, false, false] rfl rfl (by kernel_rfl) (by decide) (fun K hK => ?_)
        refine goes_ Try.func11 (by kernel_rfl) rfl #[.slice A1 (l0.length + 1) c1, .agg #[.string sa, .int .i64 ac, .int .i64 ad]] (by rfl) rfl rfl (by simp only [List.map_toArray, List.map_cons, List.map_nil]; rfl) ?_
        with_reducible refine (HLT.out A1 c1 w1 HRW.out HLE.out).mono ?_
        rintro e w2 ⟨rfl, hb⟩
        refine ⟨_, rfl, ?_⟩
        have HB2 := Lib.hid (s_trans HB1.out hb)
        have HX2 := Lib.hid (block_on hb HX1.out)
        have HY2 := Lib.hid (block_on hb HY1.out)
        clear hb
        refine hK.out _ _ ⟨(cells5 HX2.out).1, (cells5 HX2.out).2.1, (cells5 HX2.out).2.2.1, (cells5 HX2.out).2.2.2.1, (cells5 HX2.out).2.2.2.2, (cells3 HY2.out).1, (cells3 HY2.out).2.1, (cells3 HY2.out).2.2⟩ (fun hHeld => ?_)
        clear hK K
        refine norm_ (a' := ?_) ?_ ?_
        rotate_left
        · show Act.put _ (some 24) _ = _
          simp only [Act.put, List.setIfInBounds_toArray, List.set_cons_zero, List.set_cons_succ, i64_w, i32_w]
          rfl
        refine pure_ (i := 11) (N := some 25) (v := ?_) (a' := ?_) #[true, true, true, true, true, true, true, true, true, true, true, true, false, false, false, false, false, false, false, false, false, false, false, false, false, false] rfl rfl (by kernel_rfl) (fun _ _ _ h => h) (Or.inl ⟨by rfl, ?_⟩) ?_ ?_
        rotate_left
        · intro w'
          go_simp
          with_reducible rfl
        rotate_left
        · simp only [Act.put, List.setIfInBounds_toArray, List.set_cons_zero, List.set_cons_succ, i64_w, i32_w]
          rfl
        refine pure_ (i := 12) (N := some 26) (v := ?_) (a' := ?_) #[true, true, true, true, true, true, true, true, true, true, true, true, true, false, false, false, false, false, false, false, false, false, false, false, false, false] rfl rfl (by kernel_rfl) (fun _ _ _ h => h) (Or.inl ⟨by rfl, ?_⟩) ?_ ?_
        rotate_left
        · intro w'
          go_simp
          with_reducible rfl
        rotate_left
        · simp only [Act.put, List.setIfInBounds_toArray, List.set_cons_zero, List.set_cons_succ, i64_w, i32_w]
          rfl
        refine pure_ (i := 13) (N := some 27) (v := ?_) (a' := ?_) #[true, true, true, true, true, true, true, true, true, true, true, true, true, true, false, false, false, false, false, false, false, false, false, false, false, false] rfl rfl (by kernel_rfl) (fun _ _ _ h => h) (Or.inl ⟨by rfl, ?_⟩) ?_ ?_
        rotate_left
        · intro w'
          go_simp
          with_reducible rfl
        rotate_left
        · simp only [Act.put, List.setIfInBounds_toArray, List.set_cons_zero, List.set_cons_succ, i64_w, i32_w]
          rfl
        refine pure_ (i := 15) (N := some 29) (v := ?_) (a' := ?_) #[true, true, true, true, true, true, true, true, true, true, true, true, true, true, false, true, false, false, false, false, false, false, false, false, false, false] rfl rfl (by kernel_rfl) (fun _ _ _ h => h) (Or.inl ⟨by rfl, ?_⟩) ?_ ?_
        rotate_left
        · intro w'
          go_simp
          with_reducible rfl
        rotate_left
        · simp only [Act.put, List.setIfInBounds_toArray, List.set_cons_zero, List.set_cons_succ, i64_w, i32_w]
          rfl
        refine take_ (i := 14) (N := some 28) (v := ?_) (a' := ?_) #[true, true, true, true, true, true, true, true, true, true, true, true, true, true, true, true, false, false, false, false, false, false, false, false, false, false] rfl rfl (by kernel_rfl) (fun _ _ _ h => h) (Or.inl ⟨by rfl, ?_⟩) hHeld ?_ ?_
        rotate_left
        · rintro w' ⟨s0, s1, s2, s3, s4, s5, s6, s7⟩
          go_simp
          with_reducible rfl
        rotate_left
        · simp only [Act.put, List.setIfInBounds_toArray, List.set_cons_zero, List.set_cons_succ, i64_w, i32_w]
          rfl
        refine take_ (i := 16) (N := some 30) (v := ?_) (a' := ?_) #[true, true, true, true, true, true, true, true, true, true, true, true, true, true, true, true, true, false, false, false, false, false, false, false, false, false] rfl rfl (by kernel_rfl) (fun _ _ _ h => h) (Or.inl ⟨by rfl, ?_⟩) hHeld ?_ ?_
        rotate_left
        · rintro w' ⟨s0, s1, s2, s3, s4, s5, s6, s7⟩
          go_simp
          with_reducible rfl
        rotate_left
        · simp only [Act.put, List.setIfInBounds_toArray, List.set_cons_zero, List.set_cons_succ, i64_w, i32_w]
          rfl
        refine pure_ (i := 17) (N := some 31) (v := ?_) (a' := ?_) #[true, true, true, true, true, true, true, true, true, true, true, true, true, true, true, true, true, true, false, false, false, false, false, false, false, false] rfl rfl (by kernel_rfl) (fun _ _ _ h => h) (Or.inl ⟨by rfl, ?_⟩) ?_ ?_
        rotate_left
        · intro w'
          go_simp
          with_reducible rfl
        rotate_left
        · simp only [Act.put, List.setIfInBounds_toArray, List.set_cons_zero, List.set_cons_succ, i64_w, i32_w]
          rfl
        refine pure_ (i := 18) (N := some 32) (v := ?_) (a' := ?_) #[true, true, true, true, true, true, true, true, true, true, true, true, true, true, true, true, true, true, true, false, false, false, false, false, false, false] rfl rfl (by kernel_rfl) (fun _ _ _ h => h) (Or.inl ⟨by rfl, ?_⟩) ?_ ?_
        rotate_left
        · intro w'
          go_simp
          with_reducible rfl
        rotate_left
        · simp only [Act.put, List.setIfInBounds_toArray, List.set_cons_zero, List.set_cons_succ, i64_w, i32_w]
          rfl
        refine pure_ (i := 19) (N := some 33) (v := undef) (a' := ?_) #[true, true, true, true, true, true, true, true, true, true, true, true, true, true, true, true, true, true, true, true, false, false, false, false, false, false] rfl rfl (by kernel_rfl) (fun _ _ _ h => h) (Or.inr ⟨by rfl, rfl⟩) ?_ ?_
        rotate_left
        · simp only [Act.put, List.setIfInBounds_toArray, List.set_cons_zero, List.set_cons_succ, i64_w, i32_w]
          rfl
        refine pure_ (i := 20) (N := some 34) (v := undef) (a' := ?_) #[true, true, true, true, true, true, true, true, true, true, true, true, true, true, true, true, true, true, true, true, true, false, false, false, false, false] rfl rfl (by kernel_rfl) (fun _ _ _ h => h) (Or.inr ⟨by rfl, rfl⟩) ?_ ?_
        rotate_left
        · simp only [Act.put, List.setIfInBounds_toArray, List.set_cons_zero, List.set_cons_succ, i64_w, i32_w]
          rfl
        refine pure_ (i := 21) (N := some 35) (v := undef) (a' := ?_) #[true, true, true, true, true, true, true, true, true, true, true, true, true, true, true, true, true, true, true, true, true, true, false, false, false, false] rfl rfl (by kernel_rfl) (fun _ _ _ h => h) (Or.inr ⟨by rfl, rfl⟩) ?_ ?_
        rotate_left
        · simp only [Act.put, List.setIfInBounds_toArray, List.set_cons_zero, List.set_cons_succ, i64_w, i32_w]
          rfl
        refine pure_ (i := 22) (N := some 36) (v := undef) (a' := ?_) #[true, true, true, true, true, true, true, true, true, true, true, true, true, true, true, true, true, true, true, true, true, true, true, false, false, false] rfl rfl (by kernel_rfl) (fun _ _ _ h => h) (Or.inr ⟨by rfl, rfl⟩) ?_ ?_
        rotate_left
        · simp only [Act.put, List.setIfInBounds_toArray, List.set_cons_zero, List.set_cons_succ, i64_w, i32_w]
          rfl
        refine pure_ (i := 23) (N := some 37) (v := undef) (a' := ?_) #[true, true, true, true, true, true, true, true, true, true, true, true, true, true, true, true, true, true, true, true, true, true, true, true, false, false] rfl rfl (by kernel_rfl) (fun _ _ _ h => h) (Or.inr ⟨by rfl, rfl⟩) ?_ ?_
        rotate_left
        · simp only [Act.put, List.setIfInBounds_toArray, List.set_cons_zero, List.set_cons_succ, i64_w, i32_w]
          rfl
        refine pure_ (i := 24) (N := some 38) (v := ?_) (a' := ?_) #[true, true, true, true, true, true, true, true, true, true, true, true, true, true, true, true, true, true, true, true, true, true, true, true, true, false] rfl rfl (by kernel_rfl) (fun _ _ _ h => h) (Or.inl ⟨by rfl, ?_⟩) ?_ ?_
        rotate_left
        · intro w'
          go_simp
          with_reducible rfl
        rotate_left
        · simp only [Act.put, List.setIfInBounds_toArray, List.set_cons_zero, List.set_cons_succ, i64_w, i32_w]
          rfl
        refine pure_ (i := 25) (N := some 39) (v := ?_) (a' := ?_) #[true, true, true, true, true, true, true, true, true, true, true, true, true, true, true, true, true, true, true, true, true, true, true, true, true, true] rfl rfl (by kernel_rfl) (fun _ _ _ h => h) (Or.inl ⟨by rfl, ?_⟩) ?_ ?_
        rotate_left
        · intro w'
          go_simp
          with_reducible rfl
        rotate_left
        · simp only [Act.put, List.setIfInBounds_toArray, List.set_cons_zero, List.set_cons_succ, i64_w, i32_w]
          rfl
        refine done_ (by kernel_rfl) ?_
        go_wp2
        go_meet
        case rel => exact ⟨false, rfl, fun e => ⟨hn60, fun h => HSS.out h.1⟩, HB2, HX2, HY2⟩
  case rest =>
    obtain ⟨b, rfl, HQ, HBc, HXc, HYc⟩ := hcut
    have HN := Lib.hid (new_any wc)
    cases b
    · obtain ⟨hn60, hne⟩ := HQ.out rfl
      go_wp2_with (go_at_call 13; refine HN.out.mono ?_; rintro e w1 ⟨rfl, hr, hb⟩; have HR1 := Lib.hid hr; have HB1 := Lib.hid (b_trans HBc.out (b_less hb HBc.out.size)); have HS1 := Lib.hid hb.size; have HX1 := Lib.hid (block_on hb HXc.out); have HY1 := Lib.hid (block_on hb HYc.out); clear hr hb)
      go_loopw [46] (fun i wr => ∃ (k n : Nat) (M : Lit → Option (Nat × Value × List Held)), k ≤ l0.length ∧ i = .int .i64 k ∧ n ≤ k ∧ Hid (Rt wr wc.heap.size (wc.heap.size + 1) wc.heap.size n M) ∧ Hid (Below w.heap.size w wr) ∧ Hid (wc.heap.size ≤ wr.heap.size) ∧ Hid (wr.heap[w.heap.size]? = some (.cells #[.string xs, .int .i64 xc, .int .i64 xf, .int .i64 xu, .int .i64 xx] 26 (0, 0))) ∧ Hid (wr.heap[w.heap.size + 1]? = some (.cells #[.string sa, .int .i64 ac, .int .i64 ad] 28 (0, 0)))) (fun i _ => l0.length - (intOf i).toNat)
      case atStart => exact ⟨0, 0, _, Nat.zero_le _, rfl, Nat.le_refl _, HR1, HB1, HS1, HX1, HY1⟩
      case round =>
        obtain ⟨k, n, M, hk, rfl, hnk, HR, HBr, HS, HXr, HYr⟩ := hrel
        by_cases hkn : k = l0.length
        · subst hkn
          have hnm : n < maxLen := by unfold maxLen; omega
          have hka : keyL sa ac ≠ keyL xs xc := fun e => by
            obtain ⟨e1, e2⟩ := key_inj _ _ _ _ has hac hxs hxc e
            exact hne ⟨e1.symm, e2.symm⟩
          obtain ⟨x0, x1, x2, x3, x4⟩ := cells5 HXr.out
          obtain ⟨y0, y1, y2⟩ := cells3 HYr.out
          generalize hV : ofV (cont M (keyL sa ac)) sa ac ad = V
          generalize hE : ofE (cont M (keyL sa ac)) sa ac ad = E
          have HV := Lib.hid hV
          have HE := Lib.hid hE
          clear hs hV hE
          go_wp2_with (first
            | (go_at_call 15; with_reducible refine (of_any w3 _ _ _ _ M' HR3.out sa ac ad has hac).mono ?_; rintro e w4 ⟨rfl, hb⟩; have HB4 := Lib.hid (b_trans HB3.out (b_less hb HL3.out)); clear hb; rw [HC3.out, HV.out, HE.out])
            | (go_at_call 15; with_reducible refine (of_any wr _ _ _ _ M HR.out sa ac ad has hac).mono ?_; rintro e w2 ⟨rfl, hb⟩; obtain ⟨hr4, hb4, hs4⟩ := of_base HR.out hb HS.out; have HR2 := Lib.hid hr4; have HS2 := Lib.hid hs4; have HB2 := Lib.hid (b_trans HBr.out (b_less hb4 HBc.out.size)); obtain ⟨x0, x1, x2, x3, x4⟩ := cells5 (base_on hb4 HXr.out (by have := block_lt HXc.out; omega)); have HY2 := Lib.hid (base_on hb4 HYr.out (by have := block_lt HYc.out; omega)); clear hr4 hb4 hs4 hb; rw [HV.out, HE.out])
            | (go_at_call 14; refine (set_any w2 _ _ _ n M HR2.out HS2.out hnm xs xc xf xu xx hxs hxc).mono ?_; rintro e w3 ⟨rfl, ⟨M', hr, hsame, _⟩, hb⟩; have HR3 := Lib.hid hr; have HL3 := Lib.hid (by have := HBc.out.size; have := HS2.out; have := hb.size; omega : w.heap.size ≤ w3.heap.size); have HB3 := Lib.hid (b_trans HB2.out (b_less hb HBc.out.size)); obtain ⟨y0, y1, y2⟩ := cells3 (base_on hb HY2.out (by have := block_lt HYc.out; omega)); have HC3 := Lib.hid (by unfold cont; rw [hsame _ hka] : cont M' (keyL sa ac) = cont M (keyL sa ac)); clear hr hb hsame)
            | (go_at_call 12; refine (lives_any _).mono ?_; rintro e w5 ⟨rfl, hb⟩; have HB5 := Lib.hid (s_trans HB4.out hb); clear hb))
          go_ret
          exact ⟨rfl, HB5.out⟩
        · have hlt : k < l0.length := by omega
          obtain ⟨ad0, e0, q0, q1, q2, q3, q4⟩ := at_T26 (Kd.C_below HR0.out HBr.out) (k : Int) (by omega) (by omega)
          have hy : rd_T26 l0 (k : Int) = l0[k] := by unfold rd_T26; rw [Int.toNat_natCast, List.getD_eq_getElem?_getD, List.getElem?_eq_getElem hlt]; rfl
          obtain ⟨hy1, hy2⟩ := hs l0[k] (List.getElem_mem hlt)
          rw [hy] at q0 q1 q2 q3 q4
          rw [Int.toNat_natCast] at q0 q1 q2 q3 q4
          cases e0
          generalize l0[k] = y at *
          clear hs hy
          have hnm : n < maxLen := by unfold maxLen; omega
          go_wp2_with (go_at_call 14; refine (set_any _ wc.heap.size _ _ n M (HR.out.below (s_alloc (Below.refl _ _) _)) (by have := HS.out; simp; omega) hnm y.f0 y.f1 y.f2.f0 y.f2.f1 y.f2.f2 hy1 hy2).mono ?_; rintro e w2 ⟨rfl, ⟨M', hr, _, _⟩, hb⟩; have HR2 := Lib.hid hr; have HS2 := Lib.hid (by have := HS.out; have := hb.size; simp at this; omega : wc.heap.size ≤ w2.heap.size); have HB2 := Lib.hid (b_trans (s_alloc HBr.out _) (b_less hb HBc.out.size)); have HX2 := Lib.hid (base_on hb (block_alloc HXr.out _) (by have := block_lt HXc.out; omega)); have HY2 := Lib.hid (base_on hb (block_alloc HYr.out _) (by have := block_lt HYc.out; omega)); clear hr hb)
          go_roundw
          case rel => exact ⟨k + 1, n + 1, M', by omega, by first | rfl | simp, by omega, HR2, HB2, HS2, HX2, HY2⟩
          case measure => simp [intOf]; omega
    · go_wp2_with (go_at_call 12; refine (lives_any _).mono ?_; rintro e w5 ⟨rfl, hb⟩; have HB5 := Lib.hid (s_trans HBc.out hb); clear hb)
      go_ret
      exact ⟨rfl, HB5.out⟩
end Go.Proofs.Ytbjoegladcmibaa.Rt
