import Derived.Test.YtbjoegladcmibaaThC
import Derived.Test.YtbjoegladcmibaaWWords
namespace Go.Proofs.Ytbjoegladcmibaa.Thr
set_option linter.unusedVariables false
set_option linter.unusedSimpArgs false
set_option linter.unnecessarySimpa false
open Go.RowKit Go.Maps Go.Proofs.YtbjoegladcmibaaK Go.Proofs.Ytbjoegladcmibaa.Money Go.Proofs.YtbjoegladcmibaaW.PrintWords

/-- The keys that have come: zs; those that are still to come: left. -/
structure Yr (K : Int → Bool) (left : Lit → Bool) (zs : List Int) : Prop where
  nodup : zs.Nodup
  wf : ∀ y ∈ zs, (Lit.int .i64 y).wf = true
  mem : ∀ y, (Lit.int .i64 y).wf = true → (y ∈ zs ↔ K y = true ∧ left (.int .i64 y) = false)
theorem Yr.start {K : Int → Bool} {left : Lit → Bool} (h : ∀ y, (Lit.int .i64 y).wf = true → left (.int .i64 y) = K y) : Yr K left [] :=
  ⟨List.nodup_nil, fun y hy => by simp at hy, fun y hy => ⟨fun h => by simp at h, fun ⟨h1, h2⟩ => by rw [h y hy, h1] at h2; cases h2⟩⟩
theorem Yr.step {K : Int → Bool} {left : Lit → Bool} {zs : List Int} (h : Yr K left zs) {x : Int} (hx : (Lit.int .i64 x).wf = true) (hl : left (.int .i64 x) = true) (hK : K x = true) :
    Yr K (fun z => left z && !z.sameKey (.int .i64 x)) (zs ++ [x]) := by
  have hn : x ∉ zs := fun hm => by
    have := ((h.mem x hx).1 hm).2
    rw [hl] at this
    cases this
  refine ⟨?_, ?_, ?_⟩
  · rw [List.nodup_append]
    refine ⟨h.nodup, by simp, fun a ha b hb e => ?_⟩
    rw [List.mem_singleton.1 hb] at e
    exact hn (e ▸ ha)
  · intro y hy
    rcases List.mem_append.1 hy with hy | hy
    · exact h.wf y hy
    · rw [List.mem_singleton.1 hy]; exact hx
  · intro y hy
    rw [List.mem_append, List.mem_singleton, h.mem y hy]
    by_cases e : y = x
    · subst e
      simp [hK, Lit.sameKey]
    · have : (Lit.int .i64 y).sameKey (.int .i64 x) = false := by
        cases hs : (Lit.int .i64 y).sameKey (.int .i64 x)
        · rfl
        · have := WideAt.sameKey_eq hs
          injection this with _ this
          exact absurd this e
      simp [this, e]
/-- The keys, in their order. -/
structure Yrs (K : Int → Bool) (zs : List Int) : Prop where
  sorted : zs.Pairwise (· < ·)
  wf : ∀ y ∈ zs, (Lit.int .i64 y).wf = true
  mem : ∀ y, (Lit.int .i64 y).wf = true → (y ∈ zs ↔ K y = true)
theorem Yr.sort {K : Int → Bool} {left : Lit → Bool} {zs : List Int} (h : Yr K left zs) (hl : ∀ kl, left kl = false) : Yrs K (zs.mergeSort fun x y => decide (x ≤ y)) := by
  have hp : (zs.mergeSort fun x y => decide (x ≤ y)).Perm zs := List.mergeSort_perm _ _
  refine ⟨?_, fun y hy => h.wf y (hp.mem_iff.1 hy), fun y hy => ?_⟩
  · have h1 : (zs.mergeSort fun x y => decide (x ≤ y)).Pairwise (fun a b => decide (a ≤ b) = true) := List.pairwise_mergeSort (fun a b c h1 h2 => by simp at h1 h2 ⊢; omega) (fun a b => by simp; omega) _
    have h2 : (zs.mergeSort fun x y => decide (x ≤ y)).Pairwise (fun a b => a ≠ b) := hp.nodup_iff.2 h.nodup
    exact (h1.and h2).imp (fun ⟨a, b⟩ => by simp at a; omega)
  · rw [hp.mem_iff, h.mem y hy, hl]
    simp
theorem map_cells_ne {w : World} {m g : Nat} {es : Array MapEntry} {ck : Nat} {cur : Array Value} {e : TypeId} {fr : Nat × Nat} (h1 : w.heap[m]? = some (.map es ck)) (h2 : w.heap[g]? = some (.cells cur e fr)) : m ≠ g := by
  intro e
  subst e
  rw [h1] at h2
  injection h2 with h2
  cases h2
theorem iter_cells_ne {w : World} {m g : Nat} {b : Option Nat} {s c : Nat} {seen : Array Nat} {cur : Array Value} {e : TypeId} {fr : Nat × Nat} (h1 : w.heap[m]? = some (.mapIter b s seen c)) (h2 : w.heap[g]? = some (.cells cur e fr)) : m ≠ g := by
  intro e
  subst e
  rw [h1] at h2
  injection h2 with h2
  cases h2
theorem ranges_ne {w : World} {b r n nn base sz : Nat} {D : DataW Unit} {left : Lit → Bool} {cnt : Nat} {R : Value → Option (DataW Unit × List MemPlace)} {k e : TypeId} {v : Value} {xs : List Value} (h : w.ranges Try.prog k R b r n D left cnt) (ho : w.ownsRow base e sz v nn xs) : some b ≠ v.ownBlock ∧ some r ≠ v.ownBlock := by
  obtain ⟨es, clock, since, seen, c0, hb, _, _, _, hr, _⟩ := h
  rcases ho.2 with ⟨rfl, _⟩ | ⟨g, cap, cur, rfl, hg, hh, rest⟩
  · exact ⟨fun e => (by cases e), fun e => (by cases e)⟩
  · exact ⟨fun e => map_cells_ne hb hh (Option.some.inj e), fun e => iter_cells_ne hr hh (Option.some.inj e)⟩
theorem ints_read {w : World} {base : Nat} {v : Value} {zs : List Int} (h : w.ownsRow base 3 1 v zs.length (zs.map (Value.int .i64))) : ∃ A c, v = .slice A zs.length c ∧ zs.length ≤ c ∧ Kd.C (Kd.int .i64) w A zs.length zs := by
  have h2 : OwnRow (fun (p : Int) cs => (Kd.int .i64).K w p cs) 3 1 w base v zs := ⟨_, h, Kd.reps_scalar zs⟩
  exact h2.reads

set_option maxRecDepth 100000 in
set_option maxHeartbeats 4000000 in
theorem years_any (w : World) (g m n : Nat) (T : Int → Int) {K : Int → Bool} (h : Tot w g m n T K) (hn : n ≤ 1000000) : Calls Try.prog 33 #[.pointer (some ⟨g, 0, none⟩)] w fun e w' =>
    ∃ A c zs, e = .returned (.slice A zs.length c) ∧ zs.length ≤ c ∧ Kd.C (Kd.int .i64) w' A zs.length zs ∧ Yrs K zs ∧ Below w.heap.size w w' := by
  have c0 := cells1 h.box
  obtain ⟨D, ho, hi, hD1, hD2⟩ := h.own
  obtain ⟨i0, hi0, hz0, hzs, hzb⟩ := info_parts infoI
  have hsz := size_le ho
  have H := Lib.hid h
  have HD2 := Lib.hid hD2
  clear h hD1 hD2 hi
  go_enter Try.func33, Try.ntmps33
  go_wp2_with (first
    | (go_at_call 71; refine (none_any _ g m n T H.out).mono ?_; rintro e w1 ⟨rfl, rfl⟩)
    | (at_range; refine wpList_range_own _ rfl _ 70 rfl 3 3 lawI Try.underlying70 _ m n D rfl ho ?_; intro w0 hrg0 hg0 hs0))
  go_frame
  go_loopw [2] (fun v wr => ∃ left cnt zs, wr.ranges Try.prog 3 (plainElem Try.prog 3) m w.heap.size n D left cnt ∧ wr.ownsRow w.heap.size 3 1 v zs.length (zs.map (Value.int .i64)) ∧ Hid (Yr K left zs) ∧ zs.length + cnt ≤ n ∧ Hid (Below w.heap.size w wr))
    (fun _ wr => wr.rangeLeft m w.heap.size)
  case atStart => exact ⟨_, _, [], hrg0, World.ownsRow_nil _ _ _ _, Yr.start HD2.out, by simpa using hsz, ⟨hg0.os, hg0.tape, hg0.output, hg0.size, fun k hk => hg0.block k hk (by simp)⟩⟩
  case round =>
    obtain ⟨left, cnt, zs, hrg, hown, HY, hcn, HB⟩ := hrel
    go_wp2_with (at_next; refine wpList_next_ranges_ii _ rfl _ rfl 3 3 .i64 .i64 lawI Try.underlying3 Try.underlying3 m w.heap.size n _ _ _ rfl hrg ?_ ?_)
    · intro hc0 hl0
      have hys := HY.out.sort hl0
      have hlen : (zs.mergeSort fun x y => decide (x ≤ y)).length = zs.length := (List.mergeSort_perm _ _).length_eq
      rcases hown.2 with ⟨rfl, hz⟩ | ⟨gb, cap, cur, rfl, hge, hb, hle, hcap, hcs, htk⟩
      · obtain rfl : zs = [] := List.eq_nil_of_length_eq_zero hz
        have hs := Try.slices_Sort_int_none none 0
        go_wp2_with (go_at_call 75; refine (hs _).mono ?_; rintro e w3 ⟨rfl, rfl⟩)
        go_ret
        exact ⟨none, 0, [], rfl, Nat.le_refl _, ⟨rfl, by decide, fun h => absurd h (by decide)⟩, by simpa using hys, HB.out⟩
      · have hgl := block_lt hb
        rw [Nat.mul_one] at hcs htk
        have hs := Try.slices_Sort_int gb 0 cap zs wr (holds_of_blockI hb htk) hgl (by omega)
        have HSrt := Lib.hid hs
        have HX := Lib.hid (⟨hys, hlen, hge, hb, hle, hcap, hcs⟩ : Yrs K (zs.mergeSort fun x y => decide (x ≤ y)) ∧ (zs.mergeSort fun x y => decide (x ≤ y)).length = zs.length ∧ w.heap.size ≤ gb ∧ wr.heap[gb]? = some (.cells cur 3 (0, 0)) ∧ zs.length ≤ cap ∧ cap ≤ maxLen ∧ cur.size = cap)
        clear hs hys hlen hge hb hle hcap hcs htk hown hrg
        go_wp2_with (go_at_call 75; refine HSrt.out.mono ?_; rintro e w3 ⟨rfl, nd, os, rfl⟩)
        go_ret
        obtain ⟨hys, hlen, hge, hb, hle, hcap, hcs⟩ := HX.out
        have ho3 := ownsRow_sortedI (n := nd) (os := os) hlen hge hb hle hcap (by omega : cur.size = cap * 1)
        rw [← hlen] at ho3
        obtain ⟨A, c, e1, h2, h3⟩ := ints_read ho3
        have hgr := grownBy_sortedI (w := wr) (g := gb) (n := nd) (os := os) (zs.mergeSort fun x y => decide (x ≤ y)).toArray
        injection e1 with e2 e3 e4
        subst e2 e4
        refine ⟨_, _, _, by rw [hlen]; rfl, h2, h3, hys, ?_⟩
        exact ⟨hgr.os.trans HB.out.os, hgr.tape.trans HB.out.tape, hgr.output.trans HB.out.output, Nat.le_trans HB.out.size hgr.size, fun k hk => (hgr.block k (Nat.lt_of_lt_of_le hk HB.out.size) (fun e => by have := Option.some.inj e; omega)).trans (HB.out.block k hk)⟩
    · intro x c w1 cnt1 hwx hwc hlx hat hrg1 hlt hg1 hs1 hen
      obtain ⟨hn1, hn2⟩ := ranges_ne hrg hown
      have hown1 : w1.ownsRow w.heap.size 3 1 u2 zs.length (zs.map (Value.int .i64)) := World.ownsRow.kept (row := some w.heap.size) hown hg1 (Or.inr (fun e => hn2 e.symm))
      have hK : K x = true := by
        rw [← HD2.out x hwx]
        cases hh : has D (.int .i64 x)
        · have e1 := (atKey_of_not_has hh .nil).symm.trans (hat .nil)
          cases e1
        · rfl
      have hY1 := HY.out.step hwx hlx hK
      have hB1 : Below w.heap.size w w1 := ⟨hg1.os.trans HB.out.os, hg1.tape.trans HB.out.tape, hg1.output.trans HB.out.output, Nat.le_trans HB.out.size hg1.size, fun k hk => (hg1.block k (Nat.lt_of_lt_of_le hk HB.out.size) (fun e => by have := Option.some.inj e; omega)).trans (HB.out.block k hk)⟩
      have hbs := hB1.size
      have HY1 := Lib.hid hY1
      have HB1 := Lib.hid hB1
      have HO1 := Lib.hid (World.ownsRow.alloc hown1 (.cells #[.int .i64 x] 3))
      have HR1 := Lib.hid (hrg1.alloc (.cells #[.int .i64 x] 3))
      have hlq := hrg.left_eq
      have HLQ := Lib.hid hlq
      have hnews : ∀ j u, ([Value.int .i64 x])[j]? = some u → (w1.alloc (.cells #[.int .i64 x] 3)).cell? (Addr.add ⟨w1.heap.size, 0, none⟩ j) = some u := fun j u hu => by
        have hb : (w1.alloc (.cells #[.int .i64 x] 3)).heap[w1.heap.size]? = some (.cells #[.int .i64 x] 3 (0, 0)) := Array.getElem?_push_size
        cases j with
        | zero => 
          have ha : (⟨w1.heap.size, 0, none⟩ : Addr).add 0 = ⟨w1.heap.size, 0, none⟩ := rfl
          rw [ha, (cells1 hb)]
          simpa using hu
        | succ j => simp at hu
      have HNW := Lib.hid hnews
      clear hown1 hY1 hB1 hnews hrg hown hrg1 hg1 hs1 hat hlq
      go_wp2_with (at_builtin; refine wpList_append_own_at _ rfl _ _ 66 rfl w.heap.size 3 i0 _ 1 8 Try.underlying66 hi0 hz0 hzs hzb rfl (by decide) _ _ _ rfl HO1.out ⟨w1.heap.size, 0, none⟩ 1 1 [.int .i64 x] rfl rfl HNW.out (by simp [Value.oneCell']) (by unfold maxLen; omega) (by omega) (by simp; omega) ?_; intro v' w2 hown2 hg2 _ hat2; have HO2 := Lib.hid hown2; have HG2 := Lib.hid hg2; have HA2 := Lib.hid hat2; clear hown2 hg2 hat2)
      go_roundw
      case rel =>
        obtain ⟨m1, m2⟩ := ranges_ne HR1.out HO1.out
        have hr2 := HR1.out.kept HG2.out m1 m2
        have ho2 := HO2.out
        rw [show zs.map (Value.int .i64) ++ [Value.int .i64 x] = (zs ++ [x]).map (Value.int .i64) by simp, show zs.length + 1 = (zs ++ [x]).length by simp] at ho2
        refine ⟨_, cnt1, zs ++ [x], hr2, ho2, HY1.out, by simp; omega, ?_⟩
        have hb3 := s_alloc HB1.out (.cells #[.int .i64 x] 3)
        refine ⟨HG2.out.os.trans hb3.os, HG2.out.tape.trans hb3.tape, HG2.out.output.trans hb3.output, Nat.le_trans hb3.size HG2.out.size, fun k hk => (HG2.out.block k (Nat.lt_of_lt_of_le hk hb3.size) (fun e => ?_)).trans (hb3.block k hk)⟩
        rcases HO1.out.2 with ⟨h1, _⟩ | ⟨gq, cap, cur, h1, hge, _⟩
        · rw [h1] at e; cases e
        · rw [h1] at e
          have e' : k = gq := Option.some.inj e
          omega
      case measure =>
        obtain ⟨m1, m2⟩ := ranges_ne HR1.out HO1.out
        have hr2 := HR1.out.kept HG2.out m1 m2
        rw [hr2.left_eq, HLQ.out]
        exact hlt
end Go.Proofs.Ytbjoegladcmibaa.Thr
