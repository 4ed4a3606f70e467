/-
  rates: States, the walk.
-/
import Derived.Test.YtbjoegladcmibaaQRs6
import Derived.Laws.AppendOwn
import Derived.Laws.OwnMore
import Derived.Maps.RangeWalk
namespace Go.Proofs.Ytbjoegladcmibaa.Rt
set_option linter.unusedVariables false
set_option linter.unusedSimpArgs false
set_option linter.unnecessarySimpa false
open Go.RowKit Go.Maps Go.Proofs.YtbjoegladcmibaaK Go.Proofs.Ytbjoegladcmibaa.Ln Go.Proofs.Ytbjoegladcmibaa.LnI Go.Proofs.Ytbjoegladcmibaa.SpI Go.Proofs.YtbjoegladcmibaaW.PrintWords Go.Sort

theorem grown_w {w wr w3 : World} {g : Nat} (hB : Below w.heap.size w wr) (hg : wr.grownBy w3 (some g)) (hge : w.heap.size ≤ g) : Below w.heap.size w w3 :=
  ⟨hg.os.trans hB.os, hg.tape.trans hB.tape, hg.output.trans hB.output, Nat.le_trans hB.size hg.size, fun k hk => (hg.block k (Nat.lt_of_lt_of_le hk hB.size) (fun e => by have := Option.some.inj e; omega)).trans (hB.block k hk)⟩
def StatesP (w : World) (M : RM) (e : Ending) (w' : World) : Prop := ∃ A c rs, e = .returned (.slice A rs.length c) ∧ Kd.C Kd.string w' A rs.length rs ∧ rs.length ≤ c ∧ States M rs ∧ Below w.heap.size w w'
theorem reads_Cs {w : World} {b : Nat} {ok : Nat → Prop} {A : Option Addr} {c n : Nat} {l : List ByteArray} (h : Kd.R Kd.string 9 w b ok (.slice A n c) l) : Kd.C Kd.string w A l.length l ∧ l.length ≤ c := by
  obtain ⟨A', c', e, hle, hc⟩ := Kd.R_reads h
  injection e with e1 e2 e3
  rw [e1, e3]; exact ⟨hc, hle⟩
set_option maxRecDepth 100000 in
set_option maxHeartbeats 8000000 in
theorem states_any (w : World) (base r m n : Nat) (M : RM) (h : Rt w base r m n M) (hk : KeysOk M) (hn : n ≤ 1000000) : Calls Try.prog 40 #[.pointer (some ⟨r, 0, none⟩)] w (StatesP w M) := by
  obtain ⟨D, ho, hi, hD⟩ := h.own
  obtain ⟨i0, hi0, hz0, hzs, hzb⟩ := info_parts infoS
  have c0 := cells1 h.box
  have hsz : size D ≤ n := World.ownsMap.size_le ho
  have H := Lib.hid h
  have HD := Lib.hid hD
  have HK := Lib.hid hk
  have HN := Lib.hid hn
  clear h hD hi hk hn
  go_enter Try.func40, Try.ntmps40
  go_wp2_with (first
    | (go_at_call 52; refine (none_any _ r m H.out.box).mono ?_; rintro e w1 ⟨rfl, rfl⟩)
    | (at_range; refine wpList_range_own _ rfl _ 84 rfl 109 110 lawK Try.underlying84 _ m n D rfl ho ?_; intro w0 hrg0 hg0 hs0))
  go_frame
  have HB0 := Lib.hid (iter_below hg0)
  have HC0 := Lib.hid (Coll.start (M := M) (left := has D) fun kl hM => by
    cases hq : M kl with
    | none => exact absurd hq hM
    | some z => exact ((HD.out kl).2 z.1 z.2.1 z.2.2 hq).1)
  clear hg0 hs0 c0
  go_loopw [2] (fun v wr => ∃ left cnt ss, wr.ranges Try.prog 109 pe m w.heap.size n D left cnt ∧ wr.ownsRow w.heap.size 9 1 v ss.length (ss.map encStr) ∧ Hid (Coll M left ss) ∧ ss.length + cnt ≤ n ∧ Hid (Below w.heap.size w wr))
    (fun _ wr => wr.rangeLeft m w.heap.size)
  case atStart => exact ⟨_, _, [], hrg0, World.ownsRow_nil _ _ _ _, HC0, by simpa using hsz, HB0⟩
  case round =>
    obtain ⟨left, cnt, ss, hrg, hown, HC, hcn, HB⟩ := hrel
    go_wp2_with (at_next; refine wpList_next_ranges (α := Value) (β := Value) _ rfl _ rfl 109 lawK pe (fun x => x) (fun v => v) (fun key kl hk => ⟨key, rfl⟩) (fun v y _ => ⟨v, rfl⟩) m w.heap.size n D left cnt rfl hrg ?_ ?_)
    · intro hc0 hl0
      have hst := HC.out.done hl0
      rcases hown.2 with ⟨rfl, hz⟩ | ⟨gb, cap, cur, rfl, hge, hb, hle, hcap, hcs, htk⟩
      · obtain rfl : ss = [] := List.eq_nil_of_length_eq_zero hz
        have hs := Try.slices_Sort_string_none none 0
        have hs2 := Try.slices_Compact_string_empty none 0
        have hst2 : States M [] := by simpa [Lib.compact, Lib.compactUpTo] using hst
        have HST := Lib.hid hst2
        clear hst hst2 hown hrg
        go_wp2_with (first
          | (go_at_call 82; refine (hs _).mono ?_; rintro e w3 ⟨rfl, rfl⟩)
          | (go_at_call 83; refine (hs2 _).mono ?_; rintro e w4 ⟨rfl, rfl⟩))
        go_ret
        exact ⟨none, 0, [], rfl, (reads_Cs (strs_own (base := w.heap.size) (ss := []) (World.ownsRow_nil _ _ _ _))).1, Nat.le_refl _, HST.out, HB.out⟩
      · have hgl := block_lt hb
        rw [Nat.mul_one] at hcs htk
        have hlen : (ss.mergeSort fun x y => decide (x ≤ y)).length = ss.length := (List.mergeSort_perm _ _).length_eq
        have hs := Try.slices_Sort_string gb 0 cap ss wr (holds_of_block hb htk) hgl (by have := HN.out; omega)
        have hcm := fun nd os => Try.slices_Compact_string gb 0 cap (ss.mergeSort fun x y => decide (x ≤ y)) (grow (putRow encStr (Sort.ahead wr nd) gb 0 (ss.mergeSort fun x y => decide (x ≤ y)).toArray) os)
          (holds_of_block (heap_sorted _ hb) (take_putCells cur _ (by omega))) (by have := HN.out; omega) (by omega)
        have hoc := fun nd os q => owns_compact (w := grow (putRow encStr (Sort.ahead wr nd) gb 0 (ss.mergeSort fun x y => decide (x ≤ y)).toArray) os) (n := q) (cap := cap) (zs := ss.mergeSort fun x y => decide (x ≤ y)) hge (heap_sorted _ hb) (by omega) hcap (by simp [putCells, hcs])
        rw [hlen] at hcm hoc
        generalize hz : (ss.mergeSort fun x y => decide (x ≤ y)) = zs at *
        have HSrt := Lib.hid hs
        have HCM := Lib.hid hcm
        have HOC := Lib.hid hoc
        have HST := Lib.hid hst
        have HGE := Lib.hid hge
        have HX := Lib.hid (⟨hle, hlen⟩ : ss.length ≤ cap ∧ zs.length = ss.length)
        clear hs hcm hoc hst hlen hge hb hle hcap hcs htk hown hrg hz
        go_wp2_with (first
          | (go_at_call 82; refine HSrt.out.mono ?_; rintro e w3 ⟨rfl, nd, os, rfl⟩)
          | (go_at_call 83; refine (HCM.out _ _).mono ?_; rintro e w4 ⟨rfl, q, rfl⟩))
        go_ret
        have ho5 := strs_own (HOC.out nd os q)
        obtain ⟨hc1, hc2⟩ := reads_Cs ho5
        refine ⟨some ⟨gb, 0, none⟩, cap, (Lib.compact zs).map bts, by rw [List.length_map]; rfl, hc1, hc2, HST.out, ?_⟩
        have hg1 := grownBy_sorted (w := wr) (g := gb) (n := nd) (os := os) zs.toArray
        have hg2 := grownBy_sorted (w := grow (putRow encStr (Sort.ahead wr nd) gb 0 zs.toArray) os) (g := gb) (n := q) (os := #[]) (Lib.compact zs ++ List.replicate (zs.length - (Lib.compact zs).length) []).toArray
        rw [grow_empty, HX.out.2] at hg2
        exact grown_w (grown_w HB.out hg1 HGE.out) hg2 HGE.out
    · intro x c kl y1 y2 w3 cnt1 hkey hlx hcy hat hrg1 hlt hg1 hs1 hen
      have hhas : has D kl = true := has_true_of_atKey hat
      have hMx : M kl ≠ none := fun hM => by rw [(HD.out kl).1 hM] at hhas; cases hhas
      obtain ⟨s, cc, hss, hcc, rfl⟩ := HK.out kl hMx
      obtain rfl : x = .agg #[.string s, .int .i64 cc] := lawK.inj hkey (key_of s cc hss hcc)
      have hn2 := row_ne_iter hown hrg
      have hown1 : w3.ownsRow w.heap.size 9 1 u2 ss.length (ss.map encStr) := World.ownsRow.kept (row := some w.heap.size) hown hg1 (Or.inr (fun e => hn2 e.symm))
      have hC1 := HC.out.step s cc hss hcc hMx
      have hB1 := grown_w HB.out hg1 (Nat.le_refl _)
      obtain ⟨w3a, hw3a⟩ : ∃ W : World, W = w3.alloc (.cells #[.string s, .int .i64 cc] 109) := ⟨_, rfl⟩
      have hb3a : Below w3.heap.size w3 w3a := by rw [hw3a]; exact s_alloc (Below.refl _ _) _
      have hka : w3a.heap[w3.heap.size]? = some (.cells #[.string s, .int .i64 cc] 109 (0, 0)) := by rw [hw3a]; exact Array.getElem?_push_size
      obtain ⟨k0, k1⟩ := cells2 hka
      have hown2 : w3a.ownsRow w.heap.size 9 1 u2 ss.length (ss.map encStr) := by rw [hw3a]; exact World.ownsRow.alloc hown1 _
      have HO1 := Lib.hid (World.ownsRow.alloc hown2 (.cells #[.string s] 9))
      have HR1 := Lib.hid (ranges_below (ranges_below hrg1 hb3a) (s_alloc (Below.refl _ _) (.cells #[.string s] 9)))
      have hlq := hrg.left_eq
      have hBa := s_trans hB1 hb3a
      have hbs := hBa.size
      have HLQ := Lib.hid hlq
      have HC1 := Lib.hid hC1
      have HB1 := Lib.hid hBa
      have HLT := Lib.hid hlt
      have hnews : ∀ j u, ([Value.string s])[j]? = some u → (w3a.alloc (.cells #[.string s] 9)).cell? (Addr.add ⟨w3a.heap.size, 0, none⟩ j) = some u := fun j u hu => by
        have hb : (w3a.alloc (.cells #[.string s] 9)).heap[w3a.heap.size]? = some (.cells #[.string s] 9 (0, 0)) := Array.getElem?_push_size
        cases j with
        | zero =>
          have ha : (⟨w3a.heap.size, 0, none⟩ : Addr).add 0 = ⟨w3a.heap.size, 0, none⟩ := rfl
          rw [ha, (cells1 hb)]
          simpa using hu
        | succ j => simp at hu
      have HNW := Lib.hid hnews
      have hnn := HN.out
      clear hown1 hown2 hC1 hB1 hBa hnews hrg hown hrg1 hg1 hs1 hat hlq hkey hcy hhas hb3a hka hlx hlt hMx
      go_upto_region 6 with fail
      try rw [← hw3a]
      clear hw3a hen
      go_wp2_with (at_builtin; refine wpList_append_own_at _ rfl _ _ 81 rfl w.heap.size 9 i0 _ 1 16 Try.underlying81 hi0 hz0 hzs hzb rfl (by decide) _ _ _ rfl HO1.out ⟨w3a.heap.size, 0, none⟩ 1 1 [.string s] rfl rfl HNW.out (by simp [Value.oneCell']) (by unfold maxLen; omega) (by omega) (by simp; omega) ?_; intro v' w2 hown2 hg2 _ hat2; have HO2 := Lib.hid hown2; have HG2 := Lib.hid hg2; have HA2 := Lib.hid hat2; clear hown2 hg2 hat2)
      have hne : some m ≠ u2.ownBlock ∧ some w.heap.size ≠ u2.ownBlock := by
        refine ⟨?_, row_ne_iter HO1.out HR1.out⟩
        intro e
        obtain ⟨es, ck, si, se, cc, hb, _⟩ := HR1.out
        rcases HO1.out.2 with ⟨h1, _⟩ | ⟨gq, cap, cur, h1, hge, hbq, _⟩
        · rw [h1] at e; cases e
        · rw [h1] at e
          have e' : m = gq := Option.some.inj e
          subst e'
          exact map_ne hbq hb rfl
      obtain ⟨m1, m2⟩ := hne
      have hr2 := HR1.out.kept HG2.out m1 m2
      have ho2 := HO2.out
      rw [show ss.map encStr ++ [Value.string s] = (ss ++ [s.data.toList]).map encStr by rw [List.map_append, List.map_singleton, enc_str], show ss.length + 1 = (ss ++ [s.data.toList]).length by simp] at ho2
      go_roundw
      case rel =>
        refine ⟨_, cnt1, ss ++ [s.data.toList], hr2, ho2, HC1, by have := HLT.out; simp; omega, Lib.hid ?_⟩
        have hb3 := s_alloc HB1.out (.cells #[.string s] 9)
        refine ⟨HG2.out.os.trans hb3.os, HG2.out.tape.trans hb3.tape, HG2.out.output.trans hb3.output, Nat.le_trans hb3.size HG2.out.size, fun k hk => (HG2.out.block k (Nat.lt_of_lt_of_le hk hb3.size) (fun e => ?_)).trans (hb3.block k hk)⟩
        rcases HO1.out.2 with ⟨h1, _⟩ | ⟨gq, cap, cur, h1, hge, _⟩
        · rw [h1] at e; cases e
        · rw [h1] at e
          have e' : k = gq := Option.some.inj e
          omega
      case measure => rw [hr2.left_eq, HLQ.out]; exact HLT.out
end Go.Proofs.Ytbjoegladcmibaa.Rt
