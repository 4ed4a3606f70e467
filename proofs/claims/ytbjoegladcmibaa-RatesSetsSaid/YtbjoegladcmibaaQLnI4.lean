import Derived.Test.YtbjoegladcmibaaQLnI3
import Derived.Laws.NewBlocks
namespace Go.Proofs.Ytbjoegladcmibaa.LnI
set_option linter.unusedVariables false
set_option linter.unusedSimpArgs false
set_option linter.unnecessarySimpa false
open Go.RowKit Go.Proofs.YtbjoegladcmibaaK Go.Proofs.Ytbjoegladcmibaa.Ln
theorem grow_list (R F X : List Value) (p q : Nat) (hF : R.take p = F.take p) (hp : p ≤ F.length) (hX : X.length = q) (hR : F.length + q ≤ R.length) :
    ∀ R2, R2 = R.take p ++ X ++ R.drop (p + X.length) → R2.length = R.length ∧ (R2.take (p + q) ++ F.drop p ++ R2.drop (p + q + (F.drop p).length)).length = R.length ∧ (R2.take (p + q) ++ F.drop p ++ R2.drop (p + q + (F.drop p).length)).take (F.length + q) = F.take p ++ X ++ F.drop p := by
  intro R2 e
  have h1 : R2.length = R.length := by rw [e]; simp only [List.length_append, List.length_take, List.length_drop]; omega
  have t1 : R2.take (p + q) = F.take p ++ X := by
    rw [e, List.take_left' (by simp only [List.length_append, List.length_take]; omega), hF]
  rw [t1]
  refine ⟨h1, ?_, ?_⟩
  · simp only [List.length_append, List.length_take, List.length_drop]; omega
  · rw [List.take_left' (by simp only [List.length_append, List.length_take, List.length_drop]; omega)]

set_option maxRecDepth 100000 in
set_option maxHeartbeats 4000000 in
/-- Ahead of some, without room: a new row. -/
theorem insert_grow (w : World) (base g cap : Nat) (cur : Array Value) (l : List Held) (hg : w.heap[g]? = some (.cells cur 147 (0, 0))) (hc : l.length = cap) (hcs : cur.size = cap * 3) (ht : cur.toList.take (l.length * 3) = flat l)
    (hbase : base ≤ w.heap.size) (hl : l.length ≤ 256) (i : Nat) (hi : i < l.length) (x : Held) (vb : Nat)
    (hvb : w.heap[vb]? = some (.cells (cellsH x).toArray 147 (0, 0))) (hne : vb ≠ g) :
    Calls Try.prog 93 #[.slice (some ⟨g, 0, none⟩) l.length cap, .int .i64 i, .slice (some ⟨vb, 0, none⟩) 1 1] w fun e w' => Ins w base (.slice (some ⟨g, 0, none⟩) l.length cap) (l.take i ++ x :: l.drop i) e w' := by
  obtain ⟨i0, hi0, hz0, hzs, hzb⟩ := info_parts infoH
  have hin : i ≤ l.length := by omega
  have hfn : (flat l).length = l.length * 3 := flat_len l
  have hsz : (Try.prog.info? 147).map (·.size) = some 3 := by rw [hi0]; simp [hzs]
  have hdl : ((flat l).drop (i * 3)).length = (l.length - i) * 3 := by rw [List.length_drop, hfn]; omega
  have hgw : g < w.heap.size := block_lt hg
  have hvw : vb < w.heap.size := block_lt hvb
  have hold : (Builtin.firstCells i0.size i (.slice (some ⟨g, 0, none⟩) i cap)).run Try.prog w.drew = .ok ((flat l).take (i * 3)).toArray w.drew := by
    rw [hzs]
    exact run_firstCells_some w.drew 3 i ⟨g, 0, none⟩ i cap ((flat l).take (i * 3)) (by rw [List.length_take, hfn]; omega) (fun j v hj => by
      have ha : (⟨g, 0, none⟩ : Addr).add j = ⟨g, j, none⟩ := by unfold Addr.add; split <;> simp_all
      rw [List.getElem?_take] at hj
      split at hj
      · rw [← ht, List.getElem?_take] at hj
        split at hj
        · rw [ha]
          show w.cell? _ = _
          simp [World.cell?, hg]
          simpa using hj
        · cases hj
      · cases hj)
  have hkk : (l.length : Int) + 1 - (i : Int) = ((l.length + 1 - i : Nat) : Int) := by omega
  have hik : i + (l.length + 1 - i) = l.length + 1 := by omega
  obtain ⟨G, hG⟩ : ∃ G, G = grownCap w (l.length + 1) cap 147 := ⟨_, rfl⟩
  have hGn : l.length + 1 ≤ G := by rw [hG]; exact grownCap_ge w _ _ _
  have hGm : G ≤ maxLen := by rw [hG]; exact grownCap_le_maxLen w _ _ _ (by unfold maxLen; omega)
  have hG63 : G ≤ 9223372036854775807 := by unfold maxLen at hGm; omega
  obtain ⟨ROW, hROW⟩ : ∃ ROW : Array Value, ROW = ((flat l).take (i * 3)).toArray ++ Builtin.zeroCells (Value.agg #[.int .i64 0, .int .i64 0, ev 0]).cells (l.length + 1 - i) ++ Builtin.zeroCells (Value.agg #[.int .i64 0, .int .i64 0, ev 0]).cells (G - (l.length + 1)) := ⟨_, rfl⟩
  have hrz : ∀ ty, (Builtin.append_ #[141, 3] ty #[.slice (some ⟨g, 0, none⟩) i cap, .int .i64 ((l.length : Int) + 1 - (i : Int))]).run Try.prog w =
      .ok (.slice (some ⟨w.heap.size, 0, none⟩) (l.length + 1) G) (w.drew.alloc (.cells ROW 147)) := fun ty => by
    have h := Lib.run_append_grow_zeros w 141 3 ty 147 i0 _ .i64 .i64 Try.underlying141 Try.underlying3 hi0 hz0 (some ⟨g, 0, none⟩) i cap ((flat l).take (i * 3)) hold (l.length + 1 - i) (by omega) (by omega) (by omega) (by omega) (by rw [hzb]; omega) (by rw [hzb, hik]; exact growslice_fits (by omega) (by omega))
    rw [hik, ← hG, ← hROW] at h
    rw [hkk]
    exact h
  have hRl : ROW.size = G * 3 := by
    have z3 : ((Value.agg #[.int .i64 0, .int .i64 0, ev 0]).cells).size = 3 := rfl
    rw [hROW]
    simp only [Array.size_append, List.size_toArray, List.length_take, hfn, size_zeroCells, z3]
    omega
  have hRt : ROW.toList.take (i * 3) = (flat l).take (i * 3) := by
    rw [hROW]
    simp only [Array.toList_append, List.append_assoc]
    rw [List.take_left' (by rw [List.length_take, hfn]; omega)]
  have hRlt : ROW.toList.length = G * 3 := by rw [Array.length_toList]; exact hRl
  obtain ⟨ROW2, hROW2⟩ : ∃ R : Array Value, R = (ROW.toList.take (i * 3) ++ cellsH x ++ ROW.toList.drop (i * 3 + (cellsH x).length)).toArray := ⟨_, rfl⟩
  have hgl := grow_list ROW.toList (flat l) (cellsH x) (i * 3) 3 hRt (by rw [hfn]; omega) rfl (by rw [hfn, hRlt]; omega) ROW2.toList (by rw [hROW2])
  obtain ⟨ROW3, hROW3⟩ : ∃ R : Array Value, R = (ROW2.toList.take ((i + 1) * 3) ++ (flat l).drop (i * 3) ++ ROW2.toList.drop ((i + 1) * 3 + ((flat l).drop (i * 3)).length)).toArray := ⟨_, rfl⟩
  obtain ⟨W1, hW1⟩ : ∃ W1, W1 = w.drew.alloc (.cells ROW 147) := ⟨_, rfl⟩
  have hN : W1.heap[w.heap.size]? = some (.cells ROW 147 (0, 0)) := by rw [hW1]; exact Array.getElem?_push_size
  have hO : ∀ k, k < w.heap.size → W1.heap[k]? = w.heap[k]? := fun k hk => by rw [hW1]; exact heap_alloc_old w.drew _ hk
  have hmin2 : Nat.min 1 (l.length + 1 - i) = 1 := by show min _ _ = _; omega
  have h2l : ROW2.size = G * 3 := by rw [← Array.length_toList (xs := ROW2), hgl.1, hRlt]
  have hcpA : ∀ W : World, (∀ k, W.heap[k]? = W1.heap[k]?) → ∀ ty dc, (Builtin.copy_ #[141, 141] ty #[.slice (some ⟨w.heap.size, i * 3, none⟩) (l.length + 1 - i) dc, .slice (some ⟨vb, 0, none⟩) 1 1]).run Try.prog W = .ok (goInt (Nat.min 1 (l.length + 1 - i))) (W.setRow w.heap.size ROW2) := fun W hW ty dc => by
    rw [hROW2]
    exact run_copy_rowk W _ _ ty _ w.heap.size (i * 3) _ dc ⟨vb, 0, none⟩ _ 1 ROW _ (cellsH x) 3 Try.underlying141 hsz ((hW _).trans hN) (by rw [hmin2]; rfl) (fun j u hu => by
      have ha : (⟨vb, 0, none⟩ : Addr).add j = ⟨vb, j, none⟩ := by unfold Addr.add; split <;> simp_all
      have hb : W.heap[vb]? = some (.cells (cellsH x).toArray 147 (0, 0)) := (hW vb).trans ((hO vb hvw).trans hvb)
      rw [ha]
      simp [World.cell?, hb]
      simpa using hu) (by rw [hRl]; simp only [cellsH, List.length_cons, List.length_nil]; omega) (one_cells x)
  have hmin1 : Nat.min (l.length - i) (l.length - i) = l.length - i := by show min _ _ = _; omega
  have hsrc : ∀ (j : Nat) (v : Value), ((flat l).drop (i * 3))[j]? = some v → w.cell? ((⟨g, i * 3, none⟩ : Addr).add j) = some v := fun j v hj => by
    have ha : (⟨g, i * 3, none⟩ : Addr).add j = ⟨g, i * 3 + j, none⟩ := by unfold Addr.add; split <;> simp_all
    rw [List.getElem?_drop, ← ht, List.getElem?_take] at hj
    split at hj
    · rw [ha]
      simp [World.cell?, hg]
      simpa using hj
    · cases hj
  have hcpB : ∀ W : World, (∀ k, W.heap[k]? = (W1.setRow w.heap.size ROW2).heap[k]?) → ∀ ty dc sc, (Builtin.copy_ #[141, 141] ty #[.slice (some ⟨w.heap.size, (i + 1) * 3, none⟩) (l.length - i) dc, .slice (some ⟨g, i * 3, none⟩) (l.length - i) sc]).run Try.prog W = .ok (goInt (Nat.min (l.length - i) (l.length - i))) (W.setRow w.heap.size ROW3) := fun W hW ty dc sc => by
    rw [hROW3]
    have hgW : ∀ k, k < w.heap.size → W.heap[k]? = w.heap[k]? := fun k hk => (hW k).trans ((setRow_other W1 w.heap.size k ROW2 (by omega)).trans (hO k hk))
    exact run_copy_rowk W _ _ ty _ w.heap.size ((i + 1) * 3) _ dc ⟨g, i * 3, none⟩ _ sc ROW2 _ ((flat l).drop (i * 3)) 3 Try.underlying141 hsz ((hW _).trans (setRow_heap W1 w.heap.size ROW ROW2 _ _ hN)) (by rw [hdl, hmin1]) (fun j v hj => by
      have hs := hsrc j v hj
      have ha : (⟨g, i * 3, none⟩ : Addr).add j = ⟨g, i * 3 + j, none⟩ := by unfold Addr.add; split <;> simp_all
      rw [ha] at hs ⊢
      rw [← hs]
      exact World.cell?_of_block (hgW g hgw)) (by rw [hdl, h2l]; omega) (fun v hv => one_flat l v (List.mem_of_mem_drop hv))
  subst hW1
  have mixed : Try.prog.follows Departure.mixedOrders = true := by kernel_rfl
  have hw1 : IntKind.i64.wrap ((i : Int) + 1) = (i : Int) + 1 := by rw [IntKind.wrap_i64]; omega
  have hb1 : (0 : Int) ≤ (i : Int) + 1 := by omega
  have htn : ((i : Int) + 1).toNat = i + 1 := by omega
  have hb3 : (i : Int) ≤ (l.length : Int) := by omega
  have hb3b : (i : Int) + 1 ≤ (l.length : Int) + 1 := by omega
  have hb3c : (i : Int) ≤ (l.length : Int) + 1 := by omega
  have hz3 : (cap : Int) < (l.length : Int) + 1 := by omega
  have hGi : ¬ (G = i) := by omega
  have hGi1 : ¬ (G = i + 1) := by omega
  have hci : ¬ (cap = i) := by omega
  have hlc : l.length ≤ cap := by omega
  have hE1 : ∀ k : Nat, ((w.alloc (.cells ROW 147)).drew).heap[k]? = (w.drew.alloc (.cells ROW 147)).heap[k]? := fun _ => rfl
  have hE2 : ∀ k : Nat, (((w.alloc (.cells ROW 147)).drew.setRow w.heap.size ROW2).drew).heap[k]? = ((w.drew.alloc (.cells ROW 147)).setRow w.heap.size ROW2).heap[k]? := fun _ => rfl
  have HGL := Lib.hid hgl
  have HR3 := Lib.hid hROW3
  have HR2 := Lib.hid hROW2
  have HN := Lib.hid hN
  have HRL := Lib.hid hRlt
  clear hROW hROW2 hROW3 hgl hkk hik hold hG hRl hRlt hRt hN hO hc hcs ht
  go_enter Try.func93, Try.ntmps93
  go_wp2_with (first
    | (at_builtin; refine Lib.wpList_append_run _ rfl _ _ _ _ rfl _ _ rfl rfl _ _ (hrz _) ?_)
    | (at_builtin; refine wpList_copy_k _ rfl _ _ 141 141 rfl _ _ rfl rfl (hcpA _ hE1 _ _) ?_))
  go_region_law_o (refine step_copy_k rfl _ _ 141 141 rfl (.slice (some ⟨w.heap.size, (i + 1) * 3, none⟩) (l.length - i) (G - (i + 1))) (.slice (some ⟨g, i * 3, none⟩) (l.length - i) (cap - i)) (by simp [Act.eval, Act.put]) (by simp [Act.eval, Act.put]) (hcpB _ hE2 3 (G - (i + 1)) (cap - i)) ?_)
  go_wp2
  go_ret
  have c3l : ROW3.toList = ROW2.toList.take ((i + 1) * 3) ++ (flat l).drop (i * 3) ++ ROW2.toList.drop ((i + 1) * 3 + ((flat l).drop (i * 3)).length) := by rw [HR3.out]
  rw [show (i + 1) * 3 = i * 3 + 3 by omega] at c3l
  have hN1 : ((w.alloc (.cells ROW 147)).drew).heap[w.heap.size]? = some (.cells ROW 147 (0, 0)) := HN.out
  have hN2 := setRow_heap _ w.heap.size ROW ROW2 _ _ hN1
  have hN3 := setRow_heap (((w.alloc (.cells ROW 147)).drew.setRow w.heap.size ROW2).drew) w.heap.size ROW2 ROW3 _ _ hN2
  have hfl : flat (l.take i ++ x :: l.drop i) = (flat l).take (i * 3) ++ cellsH x ++ (flat l).drop (i * 3) := by
    have e := flat_app (l.take i) (l.drop i)
    rw [List.take_append_drop] at e
    have el : (flat (l.take i)).length = i * 3 := by rw [flat_len, List.length_take]; omega
    rw [flat_app, flat, e, List.take_left' el, List.drop_left' el, List.append_assoc]
  have hln : (l.take i ++ x :: l.drop i).length = l.length + 1 := by simp only [List.length_append, List.length_take, List.length_cons, List.length_drop]; omega
  have h3l : ROW3.toList.length = ROW.toList.length := by rw [c3l]; exact HGL.out.2.1
  refine ⟨_, rfl, ⟨flat_len _, Or.inr ⟨w.heap.size, G, ROW3, by rw [hln]; rfl, hbase, hN3, by rw [hln]; exact hGn, hGm, ?_, ?_⟩⟩, ⟨rfl, rfl, rfl, by simp, fun k hk _ => ?_⟩, fun k hk => Or.inr ?_⟩
  · rw [← Array.length_toList (xs := ROW3), h3l]; exact HRL.out
  · have : (l.take i ++ x :: l.drop i).length * 3 = (flat l).length + 3 := by rw [hfn, hln]; omega
    rw [this, c3l, HGL.out.2.2, hfl]
  · have hkg : k ≠ w.heap.size := by omega
    rw [setRow_other _ _ _ _ hkg]
    show ((w.alloc (.cells ROW 147)).drew.setRow w.heap.size ROW2).heap[k]? = _
    rw [setRow_other _ _ _ _ hkg]
    exact heap_alloc_old w _ hk
  · have := Option.some.inj hk
    simp only at this
    omega
/-- slices.Insert of one element, as the line calls it. -/
theorem insert_any (w : World) (base : Nat) (v : Value) (l : List Held) (h : Row w base v l) (hbase : base ≤ w.heap.size) (hl : l.length ≤ 256) (i : Nat) (hi : i ≤ l.length) (x : Held) (vb : Nat)
    (hvb : w.heap[vb]? = some (.cells (cellsH x).toArray 147 (0, 0))) (hne : v.ownBlock ≠ some vb) :
    Calls Try.prog 93 #[v, .int .i64 i, .slice (some ⟨vb, 0, none⟩) 1 1] w fun e w' => Ins w base v (l.take i ++ x :: l.drop i) e w' := by
  by_cases he : i = l.length
  · subst he
    rw [List.take_length, List.drop_length]
    exact insert_end w base v l h hbase hl x vb hvb
  · rcases h.2 with ⟨_, h0⟩ | ⟨g, cap, cur, rfl, hbg, hg, hnc, hcm, hcs, ht⟩
    · omega
    · have hvg : vb ≠ g := fun e => hne (by rw [e]; rfl)
      by_cases hr : l.length + 1 ≤ cap
      · exact insert_shift w base g cap cur l hg hr hcm hcs ht hbg hl i (by omega) x vb hvb hvg
      · exact insert_grow w base g cap cur l hg (by omega) hcs ht hbase hl i (by omega) x vb hvb hvg
end Go.Proofs.Ytbjoegladcmibaa.LnI
