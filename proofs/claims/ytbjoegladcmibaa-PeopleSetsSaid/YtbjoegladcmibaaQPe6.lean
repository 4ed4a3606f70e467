/-
  octroilaw15.light: its contract.
-/
import Derived.Test.YtbjoegladcmibaaQPe5
import Derived.Test.YtbjoegladcmibaaQZPeopleSetsx0
import Derived.Test.YtbjoegladcmibaaQWall
import Derived.Deep.RegionLawGrows
import Derived.Deep.RegionHeld3
namespace Go.Proofs.Ytbjoegladcmibaa.Pe
set_option linter.unusedVariables false
set_option linter.unusedSimpArgs false
set_option linter.unnecessarySimpa false
open Go.RowKit Go.Maps Go.Proofs.YtbjoegladcmibaaK Go.Proofs.Ytbjoegladcmibaa.ZPeopleSets Go.Proofs.YtbjoegladcmibaaW.PrintWords Go.Proofs.YtbjoegladcmibaaW.PrintLast

theorem cells6 {w : World} {g : Nat} {a0 a1 a2 a3 a4 a5 : Value} {t : TypeId} (h : w.heap[g]? = some (.cells #[a0, a1, a2, a3, a4, a5] t (0, 0))) : w.cell? ⟨g, 0, none⟩ = some a0 ∧ w.cell? ⟨g, 1, none⟩ = some a1 ∧ w.cell? ⟨g, 2, none⟩ = some a2 ∧ w.cell? ⟨g, 3, none⟩ = some a3 ∧ w.cell? ⟨g, 4, none⟩ = some a4 ∧ w.cell? ⟨g, 5, none⟩ = some a5 := by refine ⟨?_, ?_, ?_, ?_, ?_, ?_⟩ <;> simp [World.cell?, h]
theorem info42 : (Try.prog.info? 42).map (fun i => (i.zero, i.size, i.bytes)) = some (some (.agg #[.int .i64 0, .string ByteArray.empty, .string ByteArray.empty, .int .i64 0, .int .i64 0, .int .i64 0]), 6, 64) := by kernel_rfl
theorem fresh_cells (w : World) (C : Array Value) (t : TypeId) (j : Nat) (u : Value) (h : C.toList[j]? = some u) : (w.alloc (.cells C t)).cell? (Addr.add ⟨w.heap.size, 0, none⟩ j) = some u := by
  have hb : (w.alloc (.cells C t)).heap[w.heap.size]? = some (.cells C t (0, 0)) := Array.getElem?_push_size
  have ha : (⟨w.heap.size, 0, none⟩ : Addr).add j = ⟨w.heap.size, j, none⟩ := by unfold Addr.add; split <;> simp_all
  rw [ha]
  show World.cell? (w.alloc (.cells C t)) _ = _
  simp only [World.cell?, hb]
  simpa using h
def cs42 (x : S42) : List Value := [.int .i64 x.f0, .string x.f1, .string x.f2, .int .i64 x.f3.f0, .int .i64 x.f3.f1, .int .i64 x.f3.f2]
theorem one42 {x : S42} : ∀ u ∈ cs42 x, u.oneCell' = true := by unfold cs42; simp [Value.oneCell']
theorem olds_of {w : World} {A : Option Addr} {l : List S42} (h : Kd.C k42 w A l.length l) : ∃ olds, Reps (fun (p : S42) c => k42.K w p c) 6 l olds ∧ ∀ b, A = some b → ∀ j u, olds[j]? = some u → w.cell? (b.add j) = some u := by
  cases A with
  | some b =>
    obtain ⟨inner, h1, h2⟩ := ReadsRow.inner_ h
    exact ⟨inner, h1, fun b' e => by cases e; exact h2⟩
  | none =>
    have hn : l.length = 0 := by
      rcases Nat.eq_zero_or_pos l.length with h0 | h0
      · exact h0
      · obtain ⟨ad, e, _⟩ := h.2.2 h0
        cases e
    obtain rfl := List.eq_nil_of_length_eq_zero hn
    exact ⟨[], Reps.none _ _, fun b' e => by cases e⟩
theorem olds_on {w wB : World} {A0 : Option Addr} {olds : List Value} {C : Array Value} (hC : ∀ b, A0 = some b → ∀ j u, olds[j]? = some u → w.cell? (b.add j) = some u) (hB : Below w.heap.size w wB) : ∀ b, A0 = some b → ∀ j u, olds[j]? = some u → (wB.alloc (.cells C 42)).cell? (b.add j) = some u := fun b e j u hu => by
  have h1 := hC b e j u hu
  exact ((hB.alloc hB.size _).cell (World.block_lt_of_cell? w _ h1)).trans h1
theorem appended {w wA w1 : World} {C : Array Value} {l : List S42} {x : S42} {olds : List Value} {v : Value} {x1 : Obj} {b1 : Nat} (hB : Below w.heap.size w wA) (hX : wA.heap[b1]? = some x1) (hO : Reps (fun (p : S42) c => k42.K w p c) 6 l olds)
    (hown : w1.ownsRow (wA.alloc (.cells C 42)).heap.size 42 6 v (l.length + 1) (olds ++ cs42 x)) (hg : (wA.alloc (.cells C 42)).grownBy w1 none) :
    Below w.heap.size w w1 ∧ w1.heap[b1]? = some x1 ∧ ∃ A c, v = .slice A (l.length + 1) c ∧ l.length + 1 ≤ c ∧ Kd.C k42 w1 A (l ++ [x]).length (l ++ [x]) := by
  have hb : Below (wA.alloc (.cells C 42)).heap.size (wA.alloc (.cells C 42)) w1 := ⟨hg.os, hg.tape, hg.output, hg.size, fun k hk => hg.block k hk (by simp)⟩
  have hb1 : Below w.heap.size w w1 := s_trans (s_alloc hB _) hb
  have h1 : Reps (fun (p : S42) c => k42.K w1 p c) 6 (l ++ [x]) (olds ++ cs42 x) := (hO.imp_ (fun p c hp => k42.K_below hb1 hp)).snoc (k42_mk w1 x) rfl
  have h2 : OwnRow (fun (p : S42) c => k42.K w1 p c) 42 6 w1 (wA.alloc (.cells C 42)).heap.size v (l ++ [x]) := ⟨_, by rw [List.length_append]; exact hown, h1⟩
  obtain ⟨A, c, e1, e2, e3⟩ := h2.reads
  rw [List.length_append, List.length_singleton] at e1 e2
  exact ⟨hb1, block_on hb (block_alloc hX _), A, c, e1, e2, e3⟩
def okB (y : S42) : Bool := decide (y.f1.size ≤ 100) && decide (y.f2.size ≤ 100)
def lightB (l : List S42) (x : S42) : Bool := (l ++ [x]).all okB && decide (l.length ≤ 40)
theorem all_false {l : List S42} {k : Nat} (hk : k < l.length) (h : okB l[k] = false) : l.all okB = false := by
  rw [List.all_eq_false]
  exact ⟨l[k], List.getElem_mem hk, by rw [h]; decide⟩
theorem all_true {l : List S42} (h : ∀ j (hj : j < l.length), okB l[j] = true) : l.all okB = true := by
  rw [List.all_eq_true]
  intro y hy
  obtain ⟨j, hj, e⟩ := List.getElem_of_mem hy
  rw [← e]
  exact h j hj
theorem ret_b {a b : Bool} (h : a = b) : Ending.returned (.bool a) = .returned (.bool b) := by rw [h]
set_option maxRecDepth 100000 in
set_option maxHeartbeats 8000000 in
theorem light_any (w : World) (A0 : Option Addr) (c0 : Nat) (l0 : List S42) (xk : Int) (xc xn : ByteArray) (xf xu xx : Int) (hr0 : Kd.C k42 w A0 l0.length l0) (hc0 : l0.length ≤ c0) (hl : (l0.length + 1) * 64 ≤ 140737488355328) :
    Calls Try.prog 16 #[.slice A0 l0.length c0, .agg #[.int .i64 xk, .string xc, .string xn, .int .i64 xf, .int .i64 xu, .int .i64 xx]] w fun e w' => e = .returned (.bool (lightB l0 ⟨xk, xc, xn, ⟨xf, xu, xx⟩⟩)) ∧ Below w.heap.size w w' := by
  have HR0 := Lib.hid hr0
  obtain ⟨olds, hO, hC⟩ := olds_of hr0
  obtain ⟨i0, hi0, hz0, hzs, hzb⟩ := info_parts info42
  have hnil : A0 = none → l0.length = 0 ∧ l0.length = 0 := fun e => by
    subst e
    rcases Nat.eq_zero_or_pos l0.length with h0 | h0
    · exact ⟨h0, h0⟩
    · obtain ⟨ad, e, _⟩ := hr0.2.2 h0
      cases e
  have HOL := Lib.hid hO
  clear hr0 hO
  go_enter Try.func16, Try.ntmps16
  go_upto_region 1 with fail
  obtain ⟨wA, hwA⟩ : ∃ W : World, W = (w.alloc (Obj.cells #[.int .i64 xk, .string xc, .string xn, .int .i64 xf, .int .i64 xu, .int .i64 xx] 42)) := ⟨_, rfl⟩
  have hB : Below w.heap.size w wA := by rw [hwA]; exact s_alloc (Below.refl _ _) _
  have hX : wA.heap[w.heap.size]? = some (.cells #[.int .i64 xk, .string xc, .string xn, .int .i64 xf, .int .i64 xu, .int .i64 xx] 42 (0, 0)) := by rw [hwA]; exact Array.getElem?_push_size
  rw [← hwA]
  have HB := Lib.hid hB
  have HX := Lib.hid hX
  clear hwA hB hX
  refine start_ (n := 11) (S := fun w' => w'.cell? ⟨w.heap.size, 0, none⟩ = some (.int .i64 xk) ∧ w'.cell? ⟨w.heap.size, 1, none⟩ = some (.string xc) ∧ w'.cell? ⟨w.heap.size, 2, none⟩ = some (.string xn) ∧ w'.cell? ⟨w.heap.size, 3, none⟩ = some (.int .i64 xf) ∧ w'.cell? ⟨w.heap.size, 4, none⟩ = some (.int .i64 xu) ∧ w'.cell? ⟨w.heap.size, 5, none⟩ = some (.int .i64 xx)) (ds := []) #[false, false, false, false, false, false, false, false, false, false, false] (by kernel_rfl) rfl rfl ⟨(cells6 HX.out).1, (cells6 HX.out).2.1, (cells6 HX.out).2.2.1, (cells6 HX.out).2.2.2.1, (cells6 HX.out).2.2.2.2.1, (cells6 HX.out).2.2.2.2.2⟩ (fun hHeld => ?_)
  obtain ⟨wB, hwB⟩ : ∃ W, W = wA.drew := ⟨_, rfl⟩
  rw [← hwB] at hHeld
  rw [← hwB]
  have HBB := Lib.hid (by rw [hwB]; exact s_drew HB.out : Below w.heap.size w wB)
  have HXB := Lib.hid (by rw [hwB]; exact HX.out : wB.heap[w.heap.size]? = some (.cells #[.int .i64 xk, .string xc, .string xn, .int .i64 xf, .int .i64 xu, .int .i64 xx] 42 (0, 0)))
  have HOC := Lib.hid (olds_on hC HBB.out (C := #[.int .i64 xk, .string xc, .string xn, .int .i64 xf, .int .i64 xu, .int .i64 xx]))
  have HNW := Lib.hid (fun j u hu => fresh_cells wB #[.int .i64 xk, .string xc, .string xn, .int .i64 xf, .int .i64 xu, .int .i64 xx] 42 j u hu : ∀ j u, (cs42 ⟨xk, xc, xn, ⟨xf, xu, xx⟩⟩)[j]? = some u → (wB.alloc (.cells #[.int .i64 xk, .string xc, .string xn, .int .i64 xf, .int .i64 xu, .int .i64 xx] 42)).cell? (Addr.add ⟨wB.heap.size, 0, none⟩ j) = some u)
  clear hwB
  refine pure_ (i := 0) (N := some 7) (v := ?_) (a' := ?_) #[true, false, false, false, false, false, false, false, false, false, false] rfl rfl (by kernel_rfl) (fun _ _ _ h => h) (Or.inl ⟨by rfl, ?_⟩) ?_ ?_
  rotate_left
  · intro w'
    go_simp
    with_reducible rfl
  rotate_left
  · simp only [Act.put, List.setIfInBounds_toArray, List.set_cons_zero, List.set_cons_succ, i64_w, i32_w]
    rfl
  refine pure_ (i := 1) (N := some 8) (v := ?_) (a' := ?_) #[true, true, false, false, false, false, false, false, false, false, false] rfl rfl (by kernel_rfl) (fun _ _ _ h => h) (Or.inl ⟨by rfl, ?_⟩) ?_ ?_
  rotate_left
  · intro w'
    go_simp
    with_reducible rfl
  rotate_left
  · simp only [Act.put, List.setIfInBounds_toArray, List.set_cons_zero, List.set_cons_succ, i64_w, i32_w]
    rfl
  refine pure_ (i := 2) (N := some 9) (v := ?_) (a' := ?_) #[true, true, true, false, false, false, false, false, false, false, false] rfl rfl (by kernel_rfl) (fun _ _ _ h => h) (Or.inl ⟨by rfl, ?_⟩) ?_ ?_
  rotate_left
  · intro w'
    go_simp
    with_reducible rfl
  rotate_left
  · simp only [Act.put, List.setIfInBounds_toArray, List.set_cons_zero, List.set_cons_succ, i64_w, i32_w]
    rfl
  refine pure_ (i := 3) (N := some 10) (v := ?_) (a' := ?_) #[true, true, true, true, false, false, false, false, false, false, false] rfl rfl (by kernel_rfl) (fun _ _ _ h => h) (Or.inl ⟨by rfl, ?_⟩) ?_ ?_
  rotate_left
  · intro w'
    go_simp
    with_reducible rfl
  rotate_left
  · simp only [Act.put, List.setIfInBounds_toArray, List.set_cons_zero, List.set_cons_succ, i64_w, i32_w]
    rfl
  refine pure_ (i := 4) (N := some 11) (v := ?_) (a' := ?_) #[true, true, true, true, true, false, false, false, false, false, false] rfl rfl (by kernel_rfl) (fun _ _ _ h => h) (Or.inl ⟨by rfl, ?_⟩) ?_ ?_
  rotate_left
  · intro w'
    go_simp
    with_reducible rfl
  rotate_left
  · simp only [Act.put, List.setIfInBounds_toArray, List.set_cons_zero, List.set_cons_succ, i64_w, i32_w]
    rfl
  refine pure_ (i := 5) (N := some 12) (v := ?_) (a' := ?_) #[true, true, true, true, true, true, false, false, false, false, false] rfl rfl (by kernel_rfl) (fun _ _ _ h => h) (Or.inl ⟨by rfl, ?_⟩) ?_ ?_
  rotate_left
  · intro w'
    go_simp
    with_reducible rfl
  rotate_left
  · simp only [Act.put, List.setIfInBounds_toArray, List.set_cons_zero, List.set_cons_succ, i64_w, i32_w]
    rfl
  refine pure_ (i := 10) (N := some 17) (v := ?_) (a' := ?_) #[true, true, true, true, true, true, false, false, false, false, true] rfl rfl (by kernel_rfl) (fun _ _ _ h => h) (Or.inl ⟨by rfl, ?_⟩) ?_ ?_
  rotate_left
  · intro w'
    go_simp
    with_reducible rfl
  rotate_left
  · simp only [Act.put, List.setIfInBounds_toArray, List.set_cons_zero, List.set_cons_succ, i64_w, i32_w]
    rfl
  refine take_ (i := 6) (N := some 13) (v := ?_) (a' := ?_) #[true, true, true, true, true, true, true, false, false, false, true] rfl rfl (by kernel_rfl) (fun _ _ _ h => h) (Or.inl ⟨by rfl, ?_⟩) hHeld ?_ ?_
  rotate_left
  · rintro w' ⟨s0, s1, s2, s3, s4, s5⟩
    go_simp
    with_reducible rfl
  rotate_left
  · simp only [Act.put, List.setIfInBounds_toArray, List.set_cons_zero, List.set_cons_succ, i64_w, i32_w]
    rfl
  refine one_ (i := 7) (N := some 14) #[true, true, true, true, true, true, true, true, false, false, true] rfl rfl (by kernel_rfl) (by decide) (fun K hK => ?_)
  refine value_ (w1 := ?_) (v := ?_) (by rfl) rfl ?_ ?_
  rotate_left 2
  · go_simp
    constructor
    · rfl
    · rfl
  refine hK.out _ _ ⟨(cells6 (block_alloc HXB.out _)).1, (cells6 (block_alloc HXB.out _)).2.1, (cells6 (block_alloc HXB.out _)).2.2.1, (cells6 (block_alloc HXB.out _)).2.2.2.1, (cells6 (block_alloc HXB.out _)).2.2.2.2.1, (cells6 (block_alloc HXB.out _)).2.2.2.2.2⟩ (fun hHeld => ?_)
  clear hK K
  refine norm_ (a' := ?_) ?_ ?_
  rotate_left
  · show Act.put _ (some 14) _ = _
    simp only [Act.put, List.setIfInBounds_toArray, List.set_cons_zero, List.set_cons_succ, i64_w, i32_w]
    rfl
  refine one_ (i := 8) (N := some 15) #[true, true, true, true, true, true, true, true, true, false, true] rfl rfl (by kernel_rfl) (by decide) (fun K hK => ?_)
  refine step_append_grows rfl (.tmp 12) (.tmp 14) 40 rfl 42 i0 _ 6 64 Try.underlying40 hi0 hz0 hzs hzb rfl (by decide) A0 l0.length l0.length olds (by simp [Act.eval, Act.put]) hnil HOL.out.1 HOC.out ⟨wB.heap.size, 0, none⟩ 1 1 (cs42 ⟨xk, xc, xn, ⟨xf, xu, xx⟩⟩) (by simp [Act.eval, Act.put]) rfl HNW.out one42 (by omega) (by unfold maxLen; omega) hl ?_
  intro v1 w1 hown hgr
  obtain ⟨HB1', HX1', A1, c1, rfl, hle, hrow⟩ := appended HBB.out HXB.out HOL.out hown hgr
  have HB1 := Lib.hid HB1'
  have HX1 := Lib.hid HX1'
  have HRW := Lib.hid hrow
  have HLE := Lib.hid hle
  clear HB1' HX1' hrow hle hown hgr
  refine hK.out _ _ ⟨(cells6 HX1.out).1, (cells6 HX1.out).2.1, (cells6 HX1.out).2.2.1, (cells6 HX1.out).2.2.2.1, (cells6 HX1.out).2.2.2.2.1, (cells6 HX1.out).2.2.2.2.2⟩ (fun hHeld => ?_)
  clear hK K
  refine norm_ (a' := ?_) ?_ ?_
  rotate_left
  · show Act.put _ (some 15) _ = _
    simp only [Act.put, List.setIfInBounds_toArray, List.set_cons_zero, List.set_cons_succ, i64_w, i32_w]
    rfl
  refine pure_ (i := 9) (N := some 16) (v := ?_) (a' := ?_) #[true, true, true, true, true, true, true, true, true, true, true] rfl rfl (by kernel_rfl) (fun _ _ _ h => h) (Or.inl ⟨by rfl, ?_⟩) ?_ ?_
  rotate_left
  · intro w'
    go_simp
    with_reducible rfl
  rotate_left
  · simp only [Act.put, List.setIfInBounds_toArray, List.set_cons_zero, List.set_cons_succ, i64_w, i32_w]
    rfl
  refine done_ (by kernel_rfl) ?_

  obtain ⟨ll, hll⟩ : ∃ ll, ll = l0 ++ [(⟨xk, xc, xn, ⟨xf, xu, xx⟩⟩ : S42)] := ⟨_, rfl⟩
  have hlen : ll.length = l0.length + 1 := by rw [hll]; simp
  have hlb : lightB l0 ⟨xk, xc, xn, ⟨xf, xu, xx⟩⟩ = (ll.all okB && decide (l0.length ≤ 40)) := by unfold lightB; rw [hll]
  rw [← hll] at HRW
  have HLB := Lib.hid hlb
  have hsm : ll.length < 9223372036854775807 := by omega
  clear hlb hll hHeld hl
  go_wp2
  go_loopw [17] (fun i wr => ∃ k : Nat, i = .int .i64 k ∧ k ≤ ll.length ∧ Hid (∀ j (hj : j < ll.length), j < k → okB ll[j] = true) ∧ Hid (Below w1.heap.size w1 wr)) (fun i _ => ll.length - (intOf i).toNat)
  case atStart => exact ⟨0, rfl, Nat.zero_le _, fun j _ hj => absurd hj (Nat.not_lt_zero _), Below.refl _ _⟩
  case round =>
    obtain ⟨k, rfl, hk, HS, HBr⟩ := hrel
    by_cases hkn : k = l0.length + 1
    · subst hkn
      have hall := all_true (fun j hj => HS.out j hj (by omega))
      have HALL := Lib.hid hall
      clear hall
      by_cases h40 : l0.length ≤ 40
      · have d1 : decide ((l0.length : Int) ≤ 40) = true := decide_eq_true (by omega)
        go_wp2
        go_ret
        refine ⟨ret_b ?_, s_trans HB1.out HBr.out⟩
        rw [HLB.out, HALL.out, decide_eq_true h40]
        simp
      · have d1 : decide ((l0.length : Int) ≤ 40) = false := decide_eq_false (by omega)
        go_wp2
        go_ret
        refine ⟨ret_b ?_, s_trans HB1.out HBr.out⟩
        rw [HLB.out, HALL.out, decide_eq_false h40]
        simp
    · have hlt : k < ll.length := by omega
      obtain ⟨ad0, e0, q0, q1, q2, q3, q4, q5⟩ := at_T42 (Kd.C_below HRW.out HBr.out) (k : Int) (by omega) (by omega)
      have hy : rd_T42 ll (k : Int) = ll[k] := by unfold rd_T42; rw [Int.toNat_natCast, List.getD_eq_getElem?_getD, List.getElem?_eq_getElem hlt]; rfl
      rw [hy] at q0 q1 q2 q3 q4 q5
      rw [Int.toNat_natCast] at q0 q1 q2 q3 q4 q5
      cases e0
      have hne : okB ll[k] = false → ll.all okB = false := all_false hlt
      generalize hyy : ll[k] = y at *
      have HYY := Lib.hid hyy
      have HNE := Lib.hid hne
      clear hyy hy hne
      by_cases h1 : y.f1.size ≤ 100
      · have d1 : decide ((100 : Int) < (y.f1.size : Int)) = false := decide_eq_false (by omega)
        by_cases h2 : y.f2.size ≤ 100
        · have d2 : decide ((100 : Int) < (y.f2.size : Int)) = false := decide_eq_false (by omega)
          have hok : okB y = true := by unfold okB; rw [decide_eq_true h1, decide_eq_true h2]; rfl
          have HOK := Lib.hid hok
          clear hok
          go_wp2
          go_roundw
          case rel => exact ⟨k + 1, by go_num, by omega, fun j hj hjk => by
            by_cases e : j = k
            · subst e; rw [HYY.out]; exact HOK.out
            · exact HS.out j hj (by omega), HBr.out.alloc HBr.out.size _⟩
          case measure => simp [intOf]; omega
        · have d2 : decide ((100 : Int) < (y.f2.size : Int)) = true := decide_eq_true (by omega)
          have hok : okB y = false := by unfold okB; rw [decide_eq_false h2, Bool.and_false]
          have HA := Lib.hid (HNE.out hok)
          clear hok
          go_wp2
          go_ret
          refine ⟨ret_b ?_, s_trans HB1.out (s_alloc HBr.out _)⟩
          rw [HLB.out, HA.out, Bool.false_and]
      · have d1 : decide ((100 : Int) < (y.f1.size : Int)) = true := decide_eq_true (by omega)
        have hok : okB y = false := by unfold okB; rw [decide_eq_false h1, Bool.false_and]
        have HA := Lib.hid (HNE.out hok)
        clear hok
        go_wp2
        go_ret
        refine ⟨ret_b ?_, s_trans HB1.out (s_alloc HBr.out _)⟩
        rw [HLB.out, HA.out, Bool.false_and]
end Go.Proofs.Ytbjoegladcmibaa.Pe
