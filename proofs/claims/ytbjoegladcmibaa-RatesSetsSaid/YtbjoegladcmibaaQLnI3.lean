import Derived.Test.YtbjoegladcmibaaQLnI2
import Derived.Laws.CopyRow
import Derived.Laws.IdiomCopy
import Derived.Lib.Overlaps
import Derived.Lib.AppendZerosOnto
import Derived.Lib.JoinLaws
import Derived.Maps.AppendAt
import Derived.Shelf.RegionOpenPlain
namespace Go.Proofs.Ytbjoegladcmibaa.LnI
set_option linter.unusedVariables false
set_option linter.unusedSimpArgs false
set_option linter.unnecessarySimpa false
open Go.RowKit Go.Proofs.YtbjoegladcmibaaK Go.Proofs.Ytbjoegladcmibaa.Ln
section
variable {P : Program}
/-- 'copy' between two rows whose elements have k cells: by the block. -/
theorem run_copy_rowk (w : World) (dT sT ty elem : TypeId) (g o dLen dCap : Nat) (a : Addr) (sLen sCap : Nat) (cur : Array Value) (t : TypeId) (cs : List Value) (k : Nat)
    (hu : P.underlying dT = some (.slice elem)) (hs : (P.info? elem).map (·.size) = some k)
    (hg : w.heap[g]? = some (.cells cur t (0, 0))) (hn : cs.length = Nat.min sLen dLen * k)
    (hsrc : ∀ j v, cs[j]? = some v → w.cell? (a.add j) = some v) (hfit : o + cs.length ≤ cur.size) (h1 : ∀ v ∈ cs, v.oneCell' = true) :
    (Builtin.copy_ #[dT, sT] ty #[.slice (some ⟨g, o, none⟩) dLen dCap, .slice (some a) sLen sCap]).run P w =
      .ok (goInt (Nat.min sLen dLen)) (w.setRow g (cur.toList.take o ++ cs ++ cur.toList.drop (o + cs.length)).toArray) := by
  have hl := run_loadCells_list (P := P) w a cs hsrc
  have hst := run_storeCells_at P g o t cs 0 cur w hg (by simpa using hfit) h1
  cases hq : P.info? elem with
  | none => simp [hq] at hs
  | some i =>
    have hi : i.size = k := by simpa [hq] using hs
    simp [Builtin.copy_, run_underlying hu, Builtin.lenOf, Builtin.firstCells, sizeOf, typeInfo, hq, hi, ← hn, hl, hst]
theorem step_copy_k {ops : Array Oper} {o : Oper} {a : Act} {w : World} {K : Act → World → Prop} {Q : Exit → Act → World → Prop} {E : Prop}
    (hg : o.guard = none) (d x : Operand) (dT sT : TypeId) (hop : o.op = Op.call { callee := Callee.builtin Builtin.copy, args := #[d, x], argTypes := #[dT, sT] })
    (v u : Value) (hd : a.eval d = v) (hx : a.eval x = u) {v' : Value} {w' : World} (hr : (Builtin.copy_ #[dT, sT] o.type #[v, u]).run P w = .ok v' w') (hK : K (a.put o.dst v') w') :
    if Region.wanted o (yielded ops a.tmps) = true then Oper.wp P o a w K Q else E := by
  have hw : Region.wanted o (yielded ops a.tmps) = true := by simp [Region.wanted, hg]
  rw [if_pos hw]
  unfold Oper.wp
  simp [execOp, hop, resolve, invoke, builtin, hd, hx, hr, Result.andThen]
  exact hK
end
theorem one_cells (x : Held) : ∀ v ∈ cellsH x, v.oneCell' = true := by
  intro v hv
  simp only [cellsH, ev, List.mem_cons, List.not_mem_nil, or_false] at hv
  rcases hv with rfl | rfl | rfl <;> rfl
theorem one_flat : ∀ (l : List Held), ∀ v ∈ flat l, v.oneCell' = true
  | [], v, hv => by cases hv
  | h :: l, v, hv => by
    rw [flat] at hv
    rcases List.mem_append.1 hv with hv | hv
    · exact one_cells h v hv
    · exact one_flat l v hv
theorem infoH : (Try.prog.info? 147).map (fun i => (i.zero, i.size, i.bytes)) = some (some (.agg #[.int .i64 0, .int .i64 0, ev 0]), 3, 24) := by kernel_rfl
/-- What Insert leaves. -/
def Ins (w : World) (base : Nat) (v : Value) (l' : List Held) (e : Ending) (w' : World) : Prop :=
  ∃ v', e = .returned v' ∧ Row w' base v' l' ∧ w.grownBy w' v.ownBlock ∧ ∀ k, v'.ownBlock = some k → v.ownBlock = some k ∨ w.heap.size ≤ k

set_option maxRecDepth 100000 in
set_option maxHeartbeats 4000000 in
/-- At the end. -/
theorem insert_end (w : World) (base : Nat) (v : Value) (l : List Held) (h : Row w base v l) (hbase : base ≤ w.heap.size) (hl : l.length ≤ 256) (x : Held) (vb : Nat)
    (hvb : w.heap[vb]? = some (.cells (cellsH x).toArray 147 (0, 0))) :
    Calls Try.prog 93 #[v, .int .i64 l.length, .slice (some ⟨vb, 0, none⟩) 1 1] w fun e w' => Ins w base v (l ++ [x]) e w' := by
  obtain ⟨i0, hi0, hz0, hzs, hzb⟩ := info_parts infoH
  obtain ⟨ad, cap, rfl⟩ := h.slice
  have hnews : ∀ j u, (cellsH x)[j]? = some u → w.cell? ((⟨vb, 0, none⟩ : Addr).add j) = some u := fun j u hu => by
    have ha : (⟨vb, 0, none⟩ : Addr).add j = ⟨vb, j, none⟩ := by unfold Addr.add; split <;> simp_all
    rw [ha]
    simp [World.cell?, hvb]
    simpa using hu
  have H := Lib.hid h
  clear h
  go_enter Try.func93, Try.ntmps93
  go_wp2_with (at_builtin; refine wpList_append_own_at _ rfl _ _ 141 rfl base 147 i0 _ 3 24 Try.underlying141 hi0 hz0 hzs hzb rfl (by decide) _ _ _ rfl H.out ⟨vb, 0, none⟩ 1 1 (cellsH x) rfl rfl hnews (one_cells x) (by unfold maxLen; omega) (by omega) hbase ?_; intro v' w' hown hg _ hat; have hg2 : w.grownBy w' (Value.slice ad l.length cap).ownBlock := hg; have hat2 : v'.ownBlock = (Value.slice ad l.length cap).ownBlock ∨ v'.ownBlock = some w.heap.size := hat; clear hg hat)
  all_goals
    go_ret
    refine ⟨_, rfl, ?_, by cases ad <;> exact hg2, fun k hk => ?_⟩
    · unfold Row
      rw [flat_app, List.length_append, List.length_singleton]
      simpa [flat] using hown
    · have hk2 : v'.ownBlock = some k := hk
      rcases hat2 with h | h
      · exact Or.inl (Eq.trans (by cases ad <;> rfl) (h.symm.trans hk2))
      · exact Or.inr (by have := Option.some.inj (hk2.symm.trans h); omega)

theorem shift_list (C F X : List Value) (p q : Nat) (hF : C.take F.length = F) (hp : p ≤ F.length) (hX : X.length = q) (hC : F.length + q ≤ C.length) :
    ∀ C1, C1 = C.take (p + q) ++ F.drop p ++ C.drop (p + q + (F.drop p).length) → C1.length = C.length ∧ (C1.take p ++ X ++ C1.drop (p + X.length)).length = C.length ∧ (C1.take p ++ X ++ C1.drop (p + X.length)).take (F.length + q) = F.take p ++ X ++ F.drop p := by
  intro C1 e
  have hd : (F.drop p).length = F.length - p := List.length_drop
  have h1 : C1.length = C.length := by rw [e]; simp only [List.length_append, List.length_take, List.length_drop]; omega
  have t1 : C1.take p = F.take p := by
    rw [e, List.append_assoc, List.take_append_of_le_length (by rw [List.length_take]; omega), List.take_take, ← hF, List.take_take]
    congr 1
    omega
  have d1 : C1.drop (p + X.length) = F.drop p ++ C.drop (p + q + (F.drop p).length) := by
    rw [e, hX, List.append_assoc, List.drop_left' (by rw [List.length_take]; omega)]
  rw [t1, d1]
  refine ⟨h1, ?_, ?_⟩
  · simp only [List.length_append, List.length_take, List.length_drop]; omega
  · rw [← List.append_assoc, List.take_left' (by simp only [List.length_append, List.length_take, List.length_drop]; omega)]

set_option maxRecDepth 100000 in
set_option maxHeartbeats 4000000 in
/-- Ahead of some, with room: in place. -/
theorem insert_shift (w : World) (base g cap : Nat) (cur : Array Value) (l : List Held) (hg : w.heap[g]? = some (.cells cur 147 (0, 0))) (hc : l.length + 1 ≤ cap) (hcm : cap ≤ maxLen) (hcs : cur.size = cap * 3) (ht : cur.toList.take (l.length * 3) = flat l)
    (hbg : base ≤ g) (hl : l.length ≤ 256) (i : Nat) (hi : i < l.length) (x : Held) (vb : Nat)
    (hvb : w.heap[vb]? = some (.cells (cellsH x).toArray 147 (0, 0))) (hne : vb ≠ g) :
    Calls Try.prog 93 #[.slice (some ⟨g, 0, none⟩) l.length cap, .int .i64 i, .slice (some ⟨vb, 0, none⟩) 1 1] w fun e w' => Ins w base (.slice (some ⟨g, 0, none⟩) l.length cap) (l.take i ++ x :: l.drop i) e w' := by
  obtain ⟨i0, hi0, hz0, hzs, hzb⟩ := info_parts infoH
  have hin : i ≤ l.length := by omega
  have hfn : (flat l).length = l.length * 3 := flat_len l
  have hov : ∀ lb cb, (callFunc 118 #[.slice (some ⟨vb, 0, none⟩) 1 1, .slice (some ⟨g, (i + 1) * 3, none⟩) lb cb]).run Try.prog w = .ok (.value (.bool false)) w := fun lb cb => by
    rw [run_callFunc_extern Try.func118 (by kernel_rfl) (by kernel_rfl) (by kernel_rfl) (e := Extern.SlicesOverlaps.overlaps #[141, 141] #[4]) (by kernel_rfl),
      Lib.run_overlaps_apart w 141 4 147 Try.underlying141 3 Try.sizeOf147 ⟨vb, 0, none⟩ ⟨g, (i + 1) * 3, none⟩ 1 1 lb cb hne 147 147 3 cur.size (by simp [World.shape?, hvb, cellsH]) (by simp [World.shape?, hg]) (by omega) (blockFree hvb _) (blockFree hvb _)]
    rfl
  have hsz : (Try.prog.info? 147).map (·.size) = some 3 := by rw [hi0]; simp [hzs]
  have hdl : ((flat l).drop (i * 3)).length = (l.length - i) * 3 := by rw [List.length_drop, hfn]; omega
  have hmin : Nat.min (l.length + 1 - i) (l.length - i) = l.length - i := by show min _ _ = _; omega
  obtain ⟨cur1, hcur1⟩ : ∃ c1 : Array Value, c1 = (cur.toList.take ((i + 1) * 3) ++ (flat l).drop (i * 3) ++ cur.toList.drop ((i + 1) * 3 + ((flat l).drop (i * 3)).length)).toArray := ⟨_, rfl⟩
  have hsrc : ∀ (j : Nat) (v : Value), ((flat l).drop (i * 3))[j]? = some v → w.cell? ((⟨g, i * 3, none⟩ : Addr).add j) = some v := fun j v hj => by
    have ha : (⟨g, i * 3, none⟩ : Addr).add j = ⟨g, i * 3 + j, none⟩ := by unfold Addr.add; split <;> simp_all
    rw [List.getElem?_drop, ← ht, List.getElem?_take] at hj
    split at hj
    · rw [ha]
      simp [World.cell?, hg]
      simpa using hj
    · cases hj
  have hcp1 : ∀ ty dc sc, (Builtin.copy_ #[141, 141] ty #[.slice (some ⟨g, (i + 1) * 3, none⟩) (l.length - i) dc, .slice (some ⟨g, i * 3, none⟩) (l.length + 1 - i) sc]).run Try.prog w.drew = .ok (goInt (Nat.min (l.length + 1 - i) (l.length - i))) (w.drew.setRow g cur1) := fun ty dc sc => by
    rw [hcur1]
    exact run_copy_rowk w.drew _ _ ty _ g ((i + 1) * 3) _ dc ⟨g, i * 3, none⟩ _ sc cur _ ((flat l).drop (i * 3)) 3 Try.underlying141 hsz hg (by rw [hdl, hmin]) hsrc (by rw [hdl, hcs]; omega) (fun v hv => one_flat l v (List.mem_of_mem_drop hv))
  have hct : cur.toList.length = cap * 3 := by rw [Array.length_toList]; exact hcs
  have hsl := shift_list cur.toList (flat l) (cellsH x) (i * 3) 3 (by rw [hfn, ht]) (by rw [hfn]; omega) rfl (by rw [hfn, hct]; omega) cur1.toList (by rw [hcur1]; rw [show (i + 1) * 3 = i * 3 + 3 by omega])
  have hg1 : (w.drew.setRow g cur1).heap[g]? = some (.cells cur1 147 (0, 0)) := setRow_heap w.drew g cur cur1 _ _ hg
  have hvb1 : (w.drew.setRow g cur1).heap[vb]? = some (.cells (cellsH x).toArray 147 (0, 0)) := (setRow_other w.drew g vb cur1 hne).trans hvb
  obtain ⟨cur2, hcur2⟩ : ∃ c2 : Array Value, c2 = (cur1.toList.take (i * 3) ++ cellsH x ++ cur1.toList.drop (i * 3 + (cellsH x).length)).toArray := ⟨_, rfl⟩
  have h9 : cur1.size = cap * 3 := by rw [← Array.length_toList (xs := cur1), hsl.1, hct]
  have hmin2 : Nat.min 1 (l.length + 1 - i) = 1 := by show min _ _ = _; omega
  have hcp2 : ∀ ty dc, (Builtin.copy_ #[141, 141] ty #[.slice (some ⟨g, i * 3, none⟩) (l.length + 1 - i) dc, .slice (some ⟨vb, 0, none⟩) 1 1]).run Try.prog (w.drew.setRow g cur1) = .ok (goInt (Nat.min 1 (l.length + 1 - i))) ((w.drew.setRow g cur1).setRow g cur2) := fun ty dc => by
    rw [hcur2]
    exact run_copy_rowk (w.drew.setRow g cur1) _ _ ty _ g (i * 3) _ dc ⟨vb, 0, none⟩ _ 1 cur1 _ (cellsH x) 3 Try.underlying141 hsz hg1 (by rw [hmin2]; rfl) (fun j u hu => by
      have ha : (⟨vb, 0, none⟩ : Addr).add j = ⟨vb, j, none⟩ := by unfold Addr.add; split <;> simp_all
      rw [ha]
      simp [World.cell?, hvb1]
      simpa using hu) (by rw [h9]; simp only [cellsH, List.length_cons, List.length_nil]; omega) (one_cells x)
  have HSL := Lib.hid hsl
  have HC2 := Lib.hid hcur2
  clear hcur1 hsl hcur2
  have mixed : Try.prog.follows Departure.mixedOrders = true := by kernel_rfl
  have hw1 : IntKind.i64.wrap ((i : Int) + 1) = (i : Int) + 1 := by rw [IntKind.wrap_i64]; omega
  have hb1 : (0 : Int) ≤ (i : Int) + 1 := by omega
  have htn : ((i : Int) + 1).toNat = i + 1 := by omega
  have hb2 : ¬ (cap = i + 1) := by omega
  have hb3 : (i : Int) ≤ (l.length : Int) := by omega
  have hb3b : (i : Int) + 1 ≤ (l.length : Int) + 1 := by omega
  have hb3c : (i : Int) ≤ (l.length : Int) + 1 := by omega
  have hb4 : ¬ (cap = i) := by omega
  go_enter Try.func93, Try.ntmps93
  go_wp2_with (simp only [hov])
  go_region_law_o (refine step_copy_k rfl _ _ 141 141 rfl _ _ (by simp [Act.eval, Act.put]) (by simp [Act.eval, Act.put]) (hcp1 _ _ _) ?_)
  go_wp2_with (at_builtin; refine wpList_copy_k _ rfl _ _ 141 141 rfl _ _ rfl rfl (hcp2 _ _) ?_)
  go_ret
  have c2l : cur2.toList = cur1.toList.take (i * 3) ++ cellsH x ++ cur1.toList.drop (i * 3 + (cellsH x).length) := by rw [HC2.out]
  have hg2 := setRow_heap (w.drew.setRow g cur1) g cur1 cur2 _ _ hg1
  have hfl : flat (l.take i ++ x :: l.drop i) = (flat l).take (i * 3) ++ cellsH x ++ (flat l).drop (i * 3) := by
    have e := flat_app (l.take i) (l.drop i)
    rw [List.take_append_drop] at e
    have el : (flat (l.take i)).length = i * 3 := by rw [flat_len, List.length_take]; omega
    rw [flat_app, flat, e, List.take_left' el, List.drop_left' el, List.append_assoc]
  refine ⟨_, rfl, ⟨flat_len _, Or.inr ⟨g, cap, cur2, ?_, hbg, hg2, ?_, hcm, ?_, ?_⟩⟩, ⟨rfl, rfl, rfl, by simp, fun k _ hk => ?_⟩, fun k hk => Or.inl hk⟩
  · have : (l.take i ++ x :: l.drop i).length = l.length + 1 := by simp only [List.length_append, List.length_take, List.length_cons, List.length_drop]; omega
    rw [this]
    rfl
  · simp only [List.length_append, List.length_take, List.length_cons, List.length_drop]; omega
  · rw [← Array.length_toList (xs := cur2), c2l, HSL.out.2.1, hct]
  · have : (l.take i ++ x :: l.drop i).length * 3 = (flat l).length + 3 := by rw [hfn]; simp only [List.length_append, List.length_take, List.length_cons, List.length_drop]; omega
    rw [this, c2l, HSL.out.2.2, hfl]
  · have hkg : k ≠ g := fun e => hk (by rw [e]; rfl)
    rw [setRow_other _ _ _ _ hkg, setRow_other _ _ _ _ hkg]
    rfl
end Go.Proofs.Ytbjoegladcmibaa.LnI
