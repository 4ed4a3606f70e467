/-
  syntax.Refs.
-/
import Derived.Test.YtmkalnljclhigaaGreatQCh10
import Derived.Sort.OwnSortedInts
import Derived.Lib.RowBridge
import Derived.Laws.EntriesVeiled
namespace Go.Proofs.YtmkalnljclhigaaGreat.Ch
set_option linter.unusedVariables false
set_option linter.unusedSimpArgs false
set_option linter.unnecessarySimpa false
open Go.RowKit Go.Proofs.YtmkalnljclhigaaGreatK Go.Proofs.YtmkalnljclhigaaGreat.XCheckerChecks Go.Proofs.YtmkalnljclhigaaGreatW.PrintWords Go.Proofs.YtmkalnljclhigaaGreatW.PrintLast Go.Sort

theorem gat_n : ∀ (n : Nat) (x : S33), SizeOf.sizeOf x < n → Small x → GatAt x
  | 0, x, h, _ => by omega
  | n + 1, x, h, hs => gat_step x hs (fun y hy => gat_n n y (by have := kid_lt hy; omega) (hs.kids.2 y hy))
theorem gat_at (x : S33) (hs : Small x) : GatAt x := gat_n (SizeOf.sizeOf x + 1) x (Nat.lt_succ_self _) hs
def sortI (l : List Int) : List Int := l.mergeSort fun x y => decide (x ≤ y)
theorem grown_low {w0 w w1 : World} {g : Nat} (hb : Below w0.heap.size w0 w) (hg : w.grownBy w1 (some g)) (hge : w0.heap.size ≤ g) : Below w0.heap.size w0 w1 :=
  ⟨hg.os.trans hb.os, hg.tape.trans hb.tape, hg.output.trans hb.output, Nat.le_trans hb.size hg.size, fun k hk => (hg.block k (Nat.lt_of_lt_of_le hk hb.size) (fun e => by have := Option.some.inj e; omega)).trans (hb.block k hk)⟩
theorem sortI_len (l : List Int) : (sortI l).length = l.length := (List.mergeSort_perm _ _).length_eq
theorem sort_any {w0 W : World} {g2 g3 : Nat} {v : Value} {l : List Int} (hb : Below w0.heap.size w0 W) (h : Gat W w0.heap.size g2 g3 v l) (hl : l.length ≤ 1000000) :
    Calls Tryz.prog 51 #[v] W fun e w' => e = .returned (.tuple #[]) ∧ Gat w' w0.heap.size g2 g3 v (sortI l) ∧ Below w0.heap.size w0 w' := by
  rcases h.row.2 with ⟨rfl, hz⟩ | ⟨gb, cap, cur, rfl, hge, hbk, hle, hcap, hcs, htk⟩
  · have hl0 : l = [] := List.eq_nil_of_length_eq_zero hz
    subst hl0
    have hs0 : sortI [] = [] := List.eq_nil_of_length_eq_zero (by rw [sortI_len]; rfl)
    rw [hs0]
    refine (Tryz.slices_Sort_int_none none 0 W).mono ?_
    rintro e w' ⟨rfl, rfl⟩
    exact ⟨rfl, h, hb⟩
  · rw [Nat.mul_one] at hcs htk
    refine (Tryz.slices_Sort_int gb 0 cap l W (holds_of_blockI hbk htk) (block_lt hbk) (by omega)).mono ?_
    rintro e w' ⟨rfl, nd, os, rfl⟩
    have hgr := grownBy_sortedI (w := W) (g := gb) (n := nd) (os := os) (sortI l).toArray
    have hr := ownsRow_sortedI (n := nd) (os := os) (ss := l) (ts := sortI l) (sortI_len l) hge hbk hle hcap (by omega : cur.size = cap * 1)
    refine ⟨rfl, ⟨(hgr.block g2 (block_lt h.out) (fun e => ty_ne h.out hbk (by decide) (Option.some.inj e))).trans h.out, (hgr.block g3 (block_lt h.fn) (fun e => ty_ne h.fn hbk (by decide) (Option.some.inj e))).trans h.fn, ?_, h.ge⟩, grown_low hb hgr hge⟩
    rw [sortI_len]
    exact hr
theorem compact_any {w0 W : World} {g2 g3 : Nat} {v : Value} {l : List Int} (hb : Below w0.heap.size w0 W) (h : Gat W w0.heap.size g2 g3 v l) (hl : l.length ≤ 1000000) :
    Calls Tryz.prog 69 #[v] W fun e w' => ∃ ad cap, e = .returned (.slice ad (Lib.compact l).length cap) ∧ w'.ownsRow w0.heap.size 3 1 (.slice ad (Lib.compact l).length cap) (Lib.compact l).length ((Lib.compact l).map (Value.int .i64)) ∧ w'.heap[g2]? = some (.cells #[v] 42 (0, 0)) ∧ Below w0.heap.size w0 w' := by
  have hcl := Lib.compact_length_le l
  rcases h.row.2 with ⟨rfl, hz⟩ | ⟨gb, cap, cur, rfl, hge, hbk, hle, hcap, hcs, htk⟩
  · have hl0 : l = [] := List.eq_nil_of_length_eq_zero hz
    subst hl0
    refine (Tryz.slices_Compact_int_empty none 0 W).mono ?_
    rintro e w' ⟨rfl, rfl⟩
    exact ⟨none, 0, rfl, World.ownsRow_nil _ _ _ _, h.out, hb⟩
  · rw [Nat.mul_one] at hcs htk
    refine (Tryz.slices_Compact_int gb 0 cap l W (holds_of_blockI hbk htk) (by omega) (by omega)).mono ?_
    rintro e w' ⟨rfl, q, rfl⟩
    have hgr := grownBy_sortedI (w := W) (g := gb) (n := q) (os := #[]) (Lib.compact l ++ List.replicate (l.length - (Lib.compact l).length) 0).toArray
    rw [grow_empty] at hgr
    have hh := heap_sortedI (n := q) (os := #[]) (Lib.compact l ++ List.replicate (l.length - (Lib.compact l).length) 0).toArray hbk
    rw [grow_empty] at hh
    have ht := take_putCellsI cur (Lib.compact l ++ List.replicate (l.length - (Lib.compact l).length) 0) (by simp; omega)
    refine ⟨_, cap, rfl, ⟨by simp, .inr ⟨gb, cap, _, rfl, hge, hh, by omega, hcap, by simp [putCells, hcs], ?_⟩⟩, (hgr.block g2 (block_lt h.out) (fun e => ty_ne h.out hbk (by decide) (Option.some.inj e))).trans h.out, grown_low hb hgr hge⟩
    rw [Nat.mul_one]
    have e : ((putCells (Value.int .i64) 0 (Lib.compact l ++ List.replicate (l.length - (Lib.compact l).length) 0).toArray cur).toList.take (Lib.compact l ++ List.replicate (l.length - (Lib.compact l).length) 0).length).take (Lib.compact l).length = (Lib.compact l).map (Value.int .i64) := by
      rw [ht, List.map_append, List.take_append_of_le_length (by simp), List.take_of_length_le (by simp)]
    rw [List.take_take, List.length_append, Nat.min_eq_left (Nat.le_add_right _ _)] at e
    exact e
noncomputable def refsR (x : S33) : List Int := if goodB x = true then Lib.compact (sortI (refsB x)) else []
set_option maxRecDepth 100000 in
set_option maxHeartbeats 4000000 in
theorem refs_any (x : S33) (hs : Small x) (hn : (refsB x).length ≤ 1000000) (A4 : Option Addr) (c4 : Nat) (A5 : Option Addr) (c5 : Nat) (w : World) (hin : EIn w x A4 c4 A5 c5) :
    Calls Tryz.prog 50 #[eV x A4 c4 A5 c5] w fun e w' => ∃ v, e = .returned v ∧ w'.ownsRow w.heap.size 3 1 v (refsR x).length ((refsR x).map (Value.int .i64)) ∧ Below w.heap.size w w' := by
  have hg := fun W (hb : Below w.heap.size w W) => goodE_any x hs A4 c4 A5 c5 W (hin.below hb)
  have hga := gat_at x hs A4 c4 A5 c5 w
  obtain ⟨wa, hwa⟩ : ∃ W : World, W = w.alloc (.cells #[.int .i64 x.f0, .int .i64 x.f1, .string x.f2, .slice A4 x.f3.length c4, .slice A5 x.f4.length c5] 33) := ⟨_, rfl⟩
  have hba : Below w.heap.size w wa := by rw [hwa]; exact s_alloc (Below.refl _ _) _
  have hxa : wa.heap[w.heap.size]? = some (.cells #[.int .i64 x.f0, .int .i64 x.f1, .string x.f2, .slice A4 x.f3.length c4, .slice A5 x.f4.length c5] 33 (0, 0)) := by rw [hwa]; exact Array.getElem?_push_size
  obtain ⟨wb, hwb⟩ : ∃ W : World, W = wa.alloc (.cells #[.slice none 0 0] 42) := ⟨_, rfl⟩
  have hbb : Below wa.heap.size wa wb := by rw [hwb]; exact s_alloc (Below.refl _ _) _
  have hob : wb.heap[wa.heap.size]? = some (.cells #[.slice none 0 0] 42 (0, 0)) := by rw [hwb]; exact Array.getElem?_push_size
  have hza : wa.heap.size = w.heap.size + 1 := by rw [hwa]; simp
  rw [hza] at hob
  have hxb := block_on hbb hxa
  have hbw := s_trans hba hbb
  obtain ⟨x0, x1, x2, x3, x4⟩ := cells5 hxb
  have HB := Lib.hid hbw
  have HBA := Lib.hid hba
  have HXB := Lib.hid hxb
  have HOB := Lib.hid hob
  clear hba hxa hbb hob hxb hbw hza
  unfold refsR
  cases hgb : goodB x with
  | false =>
    rw [if_neg (by simp)]
    rw [hgb] at hg
    have HG := Lib.hid hg
    clear hg hga hs hn hin hgb
    go_enter Tryz.func50, Tryz.ntmps50
    go_upto_region 1 with fail
    rw [← hwa, ← hwb]
    clear hwb
    go_wp2_with (go_at_call 67; refine (HG.out _ HB.out).mono ?_; rintro e w1 ⟨rfl, hb⟩; have HB1 := Lib.hid (s_trans HB.out hb); have HO1 := Lib.hid (block_on hb HOB.out); have o0 := cells1 HO1.out; have of := blockFree HO1.out 0; clear hb)
    have hq : (w1.setCell ⟨w.heap.size + 1, 0, none⟩ (.slice none 0 0)).heap[w.heap.size + 1]? = some (.cells #[.slice none 0 0] 42 (0, 0)) := by
      have := Go.Joins.block_setCell (i := 0) HO1.out (.slice none 0 0)
      simpa using this
    have hc := cells1 hq
    refine bodyPost_ret (v := .slice none 0 0) (by simp [results, Tryz.results50, go_sem, hc]) rfl ⟨_, rfl, World.ownsRow_nil _ _ _ _, s_set HB1.out _ _ (Nat.le_succ _)⟩
  | true =>
    rw [if_pos rfl]
    rw [hgb] at hg
    have HG := Lib.hid hg
    have HGA := Lib.hid hga
    have HIN := Lib.hid hin
    have HN := Lib.hid hn
    clear hg hga hs hn hin hgb
    go_enter Tryz.func50, Tryz.ntmps50
    go_upto_region 1 with fail
    rw [← hwa, ← hwb]
    clear hwb
    go_upto_region 5 with (go_at_call 67; refine (HG.out _ HB.out).mono ?_; rintro e w1 ⟨rfl, hb⟩; have HB1 := Lib.hid (s_trans HB.out hb); have HO1 := Lib.hid (block_on hb HOB.out); have HX1 := Lib.hid (block_on hb HXB.out); obtain ⟨x0, x1, x2, x3, x4⟩ := cells5 HX1.out; have o0 := cells1 HO1.out; have of := blockFree HO1.out 0; clear hb)
    obtain ⟨w3, hw3⟩ : ∃ W : World, W = w1.alloc (.cells #[.func (.func 68) #[] #[.pointer (some ⟨w.heap.size + 1, 0, none⟩), .pointer (some ⟨w1.heap.size, 0, none⟩)]] 90) := ⟨_, rfl⟩
    rw [← hw3]
    have hb3 : Below w1.heap.size w1 w3 := by rw [hw3]; exact s_alloc (Below.refl _ _) _
    have hf3 : w3.heap[w1.heap.size]? = some (.cells #[.func (.func 68) #[] #[.pointer (some ⟨w.heap.size + 1, 0, none⟩), .pointer (some ⟨w1.heap.size, 0, none⟩)]] 90 (0, 0)) := by rw [hw3]; exact Array.getElem?_push_size
    have hcall := HGA.out w3 (w.heap.size + 1) w1.heap.size (.slice none 0 0) [] HIN.out (s_trans HB1.out hb3) ⟨block_on hb3 HO1.out, hf3, World.ownsRow_nil _ _ _ _, Nat.le_succ _⟩ (by have := HN.out; simpa using this)
    rw [List.nil_append] at hcall
    have f0 := cells1 hf3
    have hlen := HN.out
    obtain ⟨l, hl9⟩ : ∃ l, refsB x = l := ⟨_, rfl⟩
    rw [hl9] at hcall hlen
    have HL9 := Lib.hid hl9
    clear hl9
    obtain ⟨t0, t1, t2, t3, t4⟩ := cells5 (block_on hb3 HX1.out)
    have HCALL := Lib.hid hcall
    clear hcall hb3 hf3 hw3 HGA HN x0 x1 x2 x3 x4 o0 of
    go_upto_region 6 with (go_at_call 68; refine HCALL.out.mono ?_; rintro e w4 ⟨rfl, v4, hg4, hb4⟩; have HG4 := Lib.hid hg4; have HB4 := Lib.hid hb4; clear hg4 hb4)
    clear t0 t1 t2 t3 t4 f0
    obtain ⟨ad4, cap4, e4⟩ := own_slice HG4.out.row
    subst e4
    have o4 := cells1 HG4.out.out
    go_upto_region 7 with (go_at_call 51; refine (sort_any HB4.out HG4.out hlen).mono ?_; rintro e w5 ⟨rfl, hg5, hb5⟩; have HG5 := Lib.hid hg5; have HB5 := Lib.hid hb5; clear hg5 hb5)
    clear o4
    have o5 := cells1 HG5.out.out
    have hlen2 : (sortI l).length ≤ 1000000 := by rw [sortI_len]; exact hlen
    have HLE := Lib.hid hlen2
    clear hlen2
    go_wp2_with (go_at_call 69; refine (compact_any HB5.out HG5.out HLE.out).mono ?_; rintro e w6 ⟨ad6, cap6, rfl, hr6, hg6, hb6⟩; have HR6 := Lib.hid hr6; have HG6 := Lib.hid hg6; have HB6 := Lib.hid hb6; have o6 := cells1 hg6; have of6 := blockFree hg6 0; clear hr6 hg6 hb6)
    have hq : (w6.setCell ⟨w.heap.size + 1, 0, none⟩ (.slice ad6 (Lib.compact (sortI l)).length cap6)).heap[w.heap.size + 1]? = some (.cells #[.slice ad6 (Lib.compact (sortI l)).length cap6] 42 (0, 0)) := by
      have := Go.Joins.block_setCell (i := 0) HG6.out (.slice ad6 (Lib.compact (sortI l)).length cap6)
      simpa using this
    have hc := cells1 hq
    refine bodyPost_ret (v := .slice ad6 (Lib.compact (sortI l)).length cap6) (by simp [results, Tryz.results50, go_sem, hc]) rfl ⟨_, rfl, ?_, s_set HB6.out _ _ (Nat.le_succ _)⟩
    rw [HL9.out]
    refine World.ownsRow.kept (row := some (w.heap.size + 1)) HR6.out ⟨rfl, rfl, rfl, by simp, fun j _ hk => Below.heap_setCell _ _ _ _ (fun e => hk (by rw [e]))⟩ (Or.inr (fun e => ?_))
    rcases HR6.out.2 with ⟨h0, _⟩ | ⟨gb, cap, cur, he, hge, hbk, _⟩
    · rw [h0] at e
      simp [Value.ownBlock] at e
    · rw [he] at e
      exact ty_ne HG6.out hbk (by decide) (Option.some.inj e).symm
end Go.Proofs.YtmkalnljclhigaaGreat.Ch
