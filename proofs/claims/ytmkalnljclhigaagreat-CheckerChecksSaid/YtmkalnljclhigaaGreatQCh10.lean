/-
  syntax.Refs: gather's walk.
-/
import Derived.Test.YtmkalnljclhigaaGreatQCh9
import Derived.Laws.AppendOwn
namespace Go.Proofs.YtmkalnljclhigaaGreat.Ch
set_option linter.unusedVariables false
set_option linter.unusedSimpArgs false
set_option linter.unnecessarySimpa false
open Go.RowKit Go.Proofs.YtmkalnljclhigaaGreatK Go.Proofs.YtmkalnljclhigaaGreat.XCheckerChecks Go.Proofs.YtmkalnljclhigaaGreatW.PrintWords Go.Proofs.YtmkalnljclhigaaGreatW.PrintLast

theorem refsL_drop (ks : List S33) (q : Nat) (h : q < ks.length) : refsL (ks.take (q + 1)) = refsL (ks.take q) ++ refsB ks[q] := by
  have e : ∀ (a b : List S33), refsL (a ++ b) = refsL a ++ refsL b := fun a b => by
    induction a with
    | nil => simp [refsL]
    | cons x xs ih => rw [List.cons_append, refsL, ih, refsL, List.append_assoc]
  rw [List.take_succ_eq_append_getElem h, e]
  simp [refsL]
theorem refsL_le (ks : List S33) (q : Nat) : (refsL (ks.take q)).length ≤ (refsL ks).length := by
  have e : ∀ (a b : List S33), refsL (a ++ b) = refsL a ++ refsL b := fun a b => by
    induction a with
    | nil => simp [refsL]
    | cons x xs ih => rw [List.cons_append, refsL, ih, refsL, List.append_assoc]
  have := e (ks.take q) (ks.drop q)
  rw [List.take_append_drop] at this
  rw [this, List.length_append]
  omega
theorem int_news (w : World) (n : Int) : ∀ j u, ([Value.int .i64 n])[j]? = some u → (w.alloc (.cells #[.int .i64 n] 3)).cell? (Addr.add ⟨w.heap.size, 0, none⟩ j) = some u := fun j u hu => by
  have hb : (w.alloc (.cells #[.int .i64 n] 3)).heap[w.heap.size]? = some (.cells #[.int .i64 n] 3 (0, 0)) := Array.getElem?_push_size
  cases j with
  | zero =>
    have ha : (⟨w.heap.size, 0, none⟩ : Addr).add 0 = ⟨w.heap.size, 0, none⟩ := rfl
    rw [ha, cells1 hb]
    simpa using hu
  | succ j => simp at hu
theorem own_slice {w : World} {base : Nat} {e : TypeId} {v : Value} {n : Nat} {xs : List Value} (h : w.ownsRow base e 1 v n xs) : ∃ ad cap, v = .slice ad n cap := by
  rcases h.2 with ⟨rfl, h0⟩ | ⟨g', cap, cur, rfl, _⟩
  · exact ⟨none, 0, by rw [h0]⟩
  · exact ⟨_, _, rfl⟩
theorem Gat.still {w w1 : World} {base g2 g3 : Nat} {v : Value} {l : List Int} (h : Gat w base g2 g3 v l) (hg : w.grownBy w1 v.ownBlock) : w1.heap[g2]? = some (.cells #[v] 42 (0, 0)) :=
  (hg.block g2 (block_lt h.out) (fun e => by
    obtain ⟨_, cur, hc⟩ := h.own e.symm
    exact ty_ne h.out hc (by decide) rfl)).trans h.out
theorem Gat.far {w w1 : World} {base g2 g3 b : Nat} {v v' : Value} {l : List Int} {C : Array Value} {t : TypeId} (h : Gat w base g2 g3 v l) (hg : w.grownBy w1 v.ownBlock) (hb : w.heap[b]? = some (.cells C t (0, 0))) (h1 : t ≠ 3) (h2 : t ≠ 42) : (w1.setCell ⟨g2, 0, none⟩ v').heap[b]? = some (.cells C t (0, 0)) := by
  rw [Below.heap_setCell _ _ _ _ (ty_ne hb h.out h2)]
  refine (hg.block b (block_lt hb) (fun e => ?_)).trans hb
  obtain ⟨_, cur, hc⟩ := h.own e.symm
  exact ty_ne hb hc h1 rfl
set_option maxRecDepth 100000 in
set_option maxHeartbeats 4000000 in
theorem gat_step (x : S33) (hs : Small x) (ih : ∀ y ∈ x.f4, GatAt y) : GatAt x := by
  intro A4 c4 A5 c5 w0 w g2 g3 v l hin hb hG hl
  obtain ⟨k, n, f, fs, ks⟩ := x
  obtain ⟨l3, cc3, l4, cc4⟩ := hin
  rw [Small] at hs
  dsimp only at *
  rw [refsB, List.length_append] at hl
  rw [refsB, ← List.append_assoc]
  obtain ⟨l1, hl1e⟩ : ∃ l1, l1 = l ++ (if k = 2 then [n] else []) := ⟨_, rfl⟩
  have hll : l1.length + (refsL ks).length ≤ 1000000 := by rw [hl1e, List.length_append]; omega
  rw [← hl1e]
  have HL1E := Lib.hid hl1e
  have HLL := Lib.hid hll
  clear hl1e hll
  obtain ⟨i0, hi0, hz0, hzs, hzb⟩ := info_parts infoI
  obtain ⟨wx, hwx⟩ : ∃ W : World, W = w.alloc (.cells #[.int .i64 k, .int .i64 n, .string f, .slice A4 fs.length c4, .slice A5 ks.length c5] 33) := ⟨_, rfl⟩
  have hbx : Below w.heap.size w wx := by rw [hwx]; exact s_alloc (Below.refl _ _) _
  have hxx : wx.heap[w.heap.size]? = some (.cells #[.int .i64 k, .int .i64 n, .string f, .slice A4 fs.length c4, .slice A5 ks.length c5] 33 (0, 0)) := by rw [hwx]; exact Array.getElem?_push_size
  have hGx := hG.below hbx
  have hbwx : Below w0.heap.size w0 wx := s_trans hb hbx
  obtain ⟨x0, x1, x2, x3, x4⟩ := cells5 hxx
  have o0 := cells1 hGx.out
  have HC4 := Lib.hid cc4
  have HG := Lib.hid hGx
  have HB := Lib.hid hbwx
  have HXX := Lib.hid hxx
  have HIH := Lib.hid ih
  have HL := Lib.hid hl
  have hkl := hs.2.1
  clear cc3 cc4 hG hb hs ih hl hGx hbwx hxx
  go_enter Tryz.func68, Tryz.ntmps68
  go_upto_region 1 with fail
  rw [← hwx]
  clear hwx
  go_upto_if 8 with fail
  go_cut [] (fun wc => ∃ v1, Hid (Gat wc w0.heap.size g2 g3 v1 l1) ∧ Hid (Below w0.heap.size w0 wc) ∧ Hid (wc.heap[w.heap.size]? = some (.cells #[.int .i64 k, .int .i64 n, .string f, .slice A4 fs.length c4, .slice A5 ks.length c5] 33 (0, 0))))
  case first =>
    by_cases h2 : k = 2
    · have b2 : (k == 2) = true := by rw [h2]; rfl
      have hif : l1 = l ++ [n] := by rw [HL1E.out, if_pos h2]
      have hln : l.length + 1 ≤ 1000000 := by have := HLL.out; rw [hif, List.length_append, List.length_singleton] at this; omega
      obtain ⟨wy, hwy⟩ : ∃ W : World, W = wx.alloc (.cells #[.int .i64 n] 3) := ⟨_, rfl⟩
      have hby : Below wx.heap.size wx wy := by rw [hwy]; exact s_alloc (Below.refl _ _) _
      have hGy := HG.out.below hby
      have hnews := int_news wx n
      rw [← hwy] at hnews
      have hbase : w0.heap.size ≤ wy.heap.size := (s_trans HB.out hby).size
      have HIF := Lib.hid hif
      have HGY := Lib.hid hGy
      have HNW := Lib.hid hnews
      have HBY := Lib.hid (s_trans HB.out hby)
      have HXY := Lib.hid (block_on hby HXX.out)
      subst h2
      clear hif hby hGy hnews b2
      go_upto_region 2 with fail
      go_wp2_with (at_builtin; (try rw [← hwy]); refine wpList_append_own_at _ rfl _ _ 42 rfl w0.heap.size 3 i0 _ 1 8 Tryz.underlying42 hi0 hz0 hzs hzb rfl (by decide) _ _ _ rfl HGY.out.row ⟨wx.heap.size, 0, none⟩ 1 1 [.int .i64 n] rfl rfl HNW.out (by simp [Value.oneCell']) (by unfold maxLen; omega) (by omega) hbase ?_; intro v' w2 hown2 hg2 _ hat2; obtain ⟨ad', cap', rfl⟩ := own_slice hown2; have HO2 := Lib.hid hown2; have HG2 := Lib.hid hg2; have o0 := cells1 (HGY.out.still hg2); have of := blockFree (HGY.out.still hg2) 0; clear hown2 hg2 hat2 hwy)
      go_meet
      case rel => exact ⟨_, by rw [HIF.out]; exact HGY.out.put HG2.out HO2.out, low_put HBY.out HGY.out HG2.out, HGY.out.far HG2.out HXY.out (by decide) (by decide)⟩
    · have b2 : (k == 2) = false := beq_eq_false_iff_ne.2 h2
      have hif : l1 = l := by rw [HL1E.out, if_neg h2, List.append_nil]
      have HIF := Lib.hid hif
      clear h2 hif
      go_wp2
      go_meet
      case rel => exact ⟨v, by rw [HIF.out]; exact HG, HB, HXX⟩
  case rest =>
    obtain ⟨v1, HG1, HB1, HX1⟩ := hcut
    have HL1 := HLL
    obtain ⟨x0, x1, x2, x3, x4⟩ := cells5 HX1.out
    clear HL HLL HL1E
    go_wp2
    clear x0 x1 x2 x3 x4
    go_loopw [17] (fun i wr => ∃ (q : Nat) (v2 : Value), q ≤ ks.length ∧ i = .int .i64 q ∧ Hid (Gat wr w0.heap.size g2 g3 v2 (l1 ++ refsL (ks.take q))) ∧ Hid (Below w0.heap.size w0 wr)) (fun i _ => ks.length - (intOf i).toNat)
    case atStart => exact ⟨0, v1, Nat.zero_le _, rfl, by rw [List.take_zero, refsL, List.append_nil]; exact HG1, HB1⟩
    case round =>
      obtain ⟨q, v2, hq, rfl, HGr, HBr⟩ := hrel
      by_cases hlt : q < ks.length
      · obtain ⟨ad0, A6, c6, A7, c7, e0, p0, p1, p2, p3, p4, g5, g6, g7, g8⟩ := at_T33 HC4.out (q : Int) (by omega) (by omega)
        have hy : rd_T33 ks (q : Int) = ks[q] := by unfold rd_T33; rw [Int.toNat_natCast, List.getD_eq_getElem?_getD, List.getElem?_eq_getElem hlt]; rfl
        have hdr := refsL_drop ks q hlt
        have hle := refsL_le ks (q + 1)
        rw [hdr, List.length_append] at hle
        have hmem := List.getElem_mem hlt
        rw [hy] at p0 p1 p2 p3 p4 g5 g6 g7 g8
        rw [Int.toNat_natCast] at p0 p1 p2 p3 p4
        cases e0
        have q0 := (HBr.out.cell (p := _) (World.block_lt_of_cell? w0 _ p0)).trans p0
        have q1 := (HBr.out.cell (p := _) (World.block_lt_of_cell? w0 _ p1)).trans p1
        have q2 := (HBr.out.cell (p := _) (World.block_lt_of_cell? w0 _ p2)).trans p2
        have q3 := (HBr.out.cell (p := _) (World.block_lt_of_cell? w0 _ p3)).trans p3
        have q4 := (HBr.out.cell (p := _) (World.block_lt_of_cell? w0 _ p4)).trans p4
        clear p0 p1 p2 p3 p4
        generalize ks[q] = y at *
        clear hy
        have hi2 := HIH.out y hmem A6 c6 A7 c7 w0
        obtain ⟨wy, hwy⟩ : ∃ W : World, W = wr.alloc (.cells #[.int .i64 y.f0, .int .i64 y.f1, .string y.f2, .slice A6 y.f3.length c6, .slice A7 y.f4.length c7] 33) := ⟨_, rfl⟩
        have hby : Below wr.heap.size wr wy := by rw [hwy]; exact s_alloc (Below.refl _ _) _
        have hGy := HGr.out.below hby
        have hcall := hi2 wy g2 g3 v2 (l1 ++ refsL (ks.take q)) ⟨g5, g6, g7, g8⟩ (s_trans HBr.out hby) hGy (by have := HL1.out; rw [List.length_append]; omega)
        rw [List.append_assoc, ← hdr] at hcall
        have f0 := cells1 hGy.fn
        have hyy : wy.heap[wr.heap.size]? = some (.cells #[.int .i64 y.f0, .int .i64 y.f1, .string y.f2, .slice A6 y.f3.length c6, .slice A7 y.f4.length c7] 33 (0, 0)) := by rw [hwy]; exact Array.getElem?_push_size
        obtain ⟨t0, t1, t2, t3, t4⟩ := cells5 hyy
        have HCALL := Lib.hid hcall
        clear hcall hi2 hGy hby g5 g6 g7 g8 hdr hle hmem hyy
        go_upto_region 6 with fail
        rw [← hwy]
        clear hwy q0 q1 q2 q3 q4
        go_wp2_with (go_at_call 68; refine HCALL.out.mono ?_; rintro e w2 ⟨rfl, v3, hg3, hb3⟩; have HG3 := Lib.hid hg3; have HB3 := Lib.hid hb3; clear hg3 hb3)
        go_roundw
        case rel => exact ⟨q + 1, v3, by omega, by go_num, HG3, HB3⟩
        case measure => simp [intOf]; omega
      · obtain rfl : q = ks.length := by omega
        have hG := HGr.out
        rw [List.take_length] at hG
        have HGz := Lib.hid hG
        clear hG
        go_wp2
        refine bodyPost_ret (v := .tuple #[]) (by simp [results, Tryz.results68, go_sem]) rfl ⟨rfl, v2, HGz.out, HBr.out⟩
end Go.Proofs.YtmkalnljclhigaaGreat.Ch
