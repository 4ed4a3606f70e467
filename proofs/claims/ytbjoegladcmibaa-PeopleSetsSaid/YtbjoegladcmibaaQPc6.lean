/-
  people: Known, the walk.
-/
import Derived.Test.YtbjoegladcmibaaQPc5
namespace Go.Proofs.Ytbjoegladcmibaa.Pe
set_option linter.unusedVariables false
set_option linter.unusedSimpArgs false
set_option linter.unnecessarySimpa false
open Go.RowKit Go.Maps Go.Proofs.YtbjoegladcmibaaK Go.Proofs.Ytbjoegladcmibaa.Ln Go.Proofs.Ytbjoegladcmibaa.LnB Go.Proofs.Ytbjoegladcmibaa.Vi Go.Proofs.YtbjoegladcmibaaW.PrintWords

set_option maxRecDepth 100000 in
set_option maxHeartbeats 4000000 in
theorem known_any (w : World) (base p m n : Nat) (home : ByteArray) (hh : home.size ≠ 0) (M : PM) (h : Pp w base p m n home M) (hn : n ≤ 1000000) : Calls Try.prog 43 #[.pointer (some ⟨p, 0, none⟩)] w fun e w' =>
    ∃ v rs, e = .returned v ∧ Kd.R Kd.string 9 w' w.heap.size (fun _ => True) v rs ∧ Keys M rs ∧ Below w.heap.size w w' := by
  obtain ⟨g0, v0, l0, e0, hbox⟩ := h.box
  obtain ⟨D, ho, hi, hD⟩ := h.own
  obtain ⟨i0, hi0, hz0, hzs, hzb⟩ := info_parts infoS
  obtain ⟨c0, c1, c2⟩ := cells3 hbox
  have hsz := owns_size ho
  have H := Lib.hid h
  have HD := Lib.hid hD
  have HBX := Lib.hid hbox
  clear h hD hi hbox
  go_enter Try.func43, Try.ntmps43
  go_wp2_with (first
    | (go_at_call 60; refine (none_any _ p g0 m home hh HBX.out).mono ?_; rintro e w1 ⟨rfl, rfl⟩)
    | (at_range; refine wpList_range_own _ rfl _ 103 rfl 9 102 lawS Try.underlying103 _ m n D rfl ho ?_; intro w0 hrg0 hg0 hs0))
  go_frame
  go_loopw [2] (fun v wr => ∃ left cnt ss, wr.ranges Try.prog 9 pc m w.heap.size n D left cnt ∧ wr.ownsRow w.heap.size 9 1 v ss.length (ss.map encStr) ∧ Hid (Collected D left ss) ∧ Hid (∀ b ∈ ss, b.length ≤ maxLen) ∧ ss.length + cnt ≤ n ∧ Hid (Below w.heap.size w wr))
    (fun _ wr => wr.rangeLeft m w.heap.size)
  case atStart => exact ⟨_, _, [], hrg0, World.ownsRow_nil _ _ _ _, Lib.hid (Collected.start D), Lib.hid (fun b hb => by simp at hb), by simpa using hsz, Lib.hid ⟨hg0.os, hg0.tape, hg0.output, hg0.size, fun k hk => hg0.block k hk (by simp)⟩⟩
  case round =>
    obtain ⟨left, cnt, ss, hrg, hown, HY, HBG, hcn, HB⟩ := hrel
    go_wp2_with (at_next; refine wpList_next_ranges (α := ByteArray) (β := Value) _ rfl _ rfl 9 lawS pc (fun x => .string x) (fun v => v) (fun key kl hk => by obtain ⟨s, e, _⟩ := keyS_inv hk; exact ⟨s, e⟩) (fun v y _ => ⟨v, rfl⟩) m w.heap.size n D left cnt rfl hrg ?_ ?_)
    · intro hc0 hl0
      rcases hown.2 with ⟨rfl, hz⟩ | ⟨gb, cap, cur, rfl, hge, hb, hle, hcap, hcs, htk⟩
      · obtain rfl : ss = [] := List.eq_nil_of_length_eq_zero hz
        have hs := Try.slices_Sort_string_none none 0
        have hys := Keys.none_ HY.out hl0 H.out.big HD.out
        have HYS := Lib.hid hys
        clear hys hown hrg
        go_wp2_with (go_at_call 82; refine (hs _).mono ?_; rintro e w3 ⟨rfl, rfl⟩)
        go_ret
        exact ⟨_, [], rfl, strs_own (ss := []) (World.ownsRow_nil _ _ _ _), HYS.out, HB.out⟩
      · have hgl := block_lt hb
        rw [Nat.mul_one] at hcs htk
        have hys := keys_of HY.out hl0 HBG.out H.out.big HD.out
        have hlen : (ss.mergeSort fun x y => decide (x ≤ y)).length = ss.length := (List.mergeSort_perm _ _).length_eq
        have hs := Try.slices_Sort_string gb 0 cap ss wr (holds_of_block hb htk) hgl (by omega)
        have HSrt := Lib.hid hs
        have HX := Lib.hid (⟨hys, hlen, hge, hb, hle, hcap, hcs⟩ : Keys M ((ss.mergeSort fun x y => decide (x ≤ y)).map bts) ∧ (ss.mergeSort fun x y => decide (x ≤ y)).length = ss.length ∧ w.heap.size ≤ gb ∧ wr.heap[gb]? = some (.cells cur 9 (0, 0)) ∧ ss.length ≤ cap ∧ cap ≤ maxLen ∧ cur.size = cap)
        clear hs hys hlen hge hb hle hcap hcs htk hown hrg
        go_wp2_with (go_at_call 82; refine HSrt.out.mono ?_; rintro e w3 ⟨rfl, nd, os, rfl⟩)
        go_ret
        obtain ⟨hys, hlen, hge, hb, hle, hcap, hcs⟩ := HX.out
        have ho3 := ownsRow_sorted (n := nd) (os := os) hlen hge hb hle hcap (by omega : cur.size = cap * 1)
        rw [← hlen] at ho3
        have hgr := grownBy_sorted (w := wr) (g := gb) (n := nd) (os := os) (ss.mergeSort fun x y => decide (x ≤ y)).toArray
        refine ⟨_, _, rfl, ?_, hys, ?_⟩
        · rw [← hlen]
          exact strs_own ho3
        · exact ⟨hgr.os.trans HB.out.os, hgr.tape.trans HB.out.tape, hgr.output.trans HB.out.output, Nat.le_trans HB.out.size hgr.size, fun k hk => (hgr.block k (Nat.lt_of_lt_of_le hk HB.out.size) (fun e => by have := Option.some.inj e; omega)).trans (HB.out.block k hk)⟩
    · intro x c kl y1 y2 w1 cnt1 hkey hlx hcy hat hrg1 hlt hg1 hs1 hen
      obtain ⟨x', ex, hkl, hxs⟩ := keyS_inv hkey
      have ex' : x = x' := by injection ex
      subst ex'
      subst hkl
      have hn2 := row_ne_iter hown hrg
      have hown1 : w1.ownsRow w.heap.size 9 1 u2 ss.length (ss.map encStr) := World.ownsRow.kept (row := some w.heap.size) hown hg1 (Or.inr (fun e => hn2 e.symm))
      have hY1 := HY.out.step hlx hat
      have hB1 : Below w.heap.size w w1 := ⟨hg1.os.trans HB.out.os, hg1.tape.trans HB.out.tape, hg1.output.trans HB.out.output, Nat.le_trans HB.out.size hg1.size, fun k hk => (hg1.block k (Nat.lt_of_lt_of_le hk HB.out.size) (fun e => by have := Option.some.inj e; omega)).trans (HB.out.block k hk)⟩
      have hbs := hB1.size
      have HY1 := Lib.hid hY1
      have HB1 := Lib.hid hB1
      have HXS := Lib.hid hxs
      have HO1 := Lib.hid (World.ownsRow.alloc hown1 (.cells #[.string x] 9))
      have HR1 := Lib.hid (ranges_below hrg1 (s_alloc (Below.refl _ _) (.cells #[.string x] 9)))
      have hlq := hrg.left_eq
      have HLQ := Lib.hid hlq
      have hnews : ∀ j u, ([Value.string x])[j]? = some u → (w1.alloc (.cells #[.string x] 9)).cell? (Addr.add ⟨w1.heap.size, 0, none⟩ j) = some u := fun j u hu => by
        have hb : (w1.alloc (.cells #[.string x] 9)).heap[w1.heap.size]? = some (.cells #[.string x] 9 (0, 0)) := Array.getElem?_push_size
        cases j with
        | zero =>
          have ha : (⟨w1.heap.size, 0, none⟩ : Addr).add 0 = ⟨w1.heap.size, 0, none⟩ := rfl
          rw [ha, (cells1 hb)]
          simpa using hu
        | succ j => simp at hu
      have HNW := Lib.hid hnews
      clear hown1 hY1 hB1 hnews hrg hown hrg1 hg1 hs1 hat hlq hkey hcy ex hxs
      go_wp2_with (at_builtin; refine wpList_append_own_at _ rfl _ _ 81 rfl w.heap.size 9 i0 _ 1 16 Try.underlying81 hi0 hz0 hzs hzb rfl (by decide) _ _ _ rfl HO1.out ⟨w1.heap.size, 0, none⟩ 1 1 [.string x] rfl rfl HNW.out (by simp [Value.oneCell']) (by unfold maxLen; omega) (by omega) (by simp; omega) ?_; intro v' w2 hown2 hg2 _ hat2; have HO2 := Lib.hid hown2; have HG2 := Lib.hid hg2; have HA2 := Lib.hid hat2; clear hown2 hg2 hat2)
      go_roundw
      case rel =>
        obtain ⟨m1, m2⟩ : some m ≠ u2.ownBlock ∧ some w.heap.size ≠ u2.ownBlock := by
          refine ⟨?_, row_ne_iter HO1.out HR1.out⟩
          intro e
          obtain ⟨es, ck, si, se, cc, hb, _⟩ := HR1.out
          rcases HO1.out.2 with ⟨h1, _⟩ | ⟨gq, cap, cur, h1, hge, hbq, _⟩
          · rw [h1] at e; cases e
          · rw [h1] at e
            have e' : m = gq := Option.some.inj e
            subst e'
            exact map_ne hbq hb rfl
        have hr2 := HR1.out.kept HG2.out m1 m2
        have ho2 := HO2.out
        rw [show ss.map encStr ++ [Value.string x] = (ss ++ [x.data.toList]).map encStr by rw [List.map_append, List.map_singleton, enc_str], show ss.length + 1 = (ss ++ [x.data.toList]).length by simp] at ho2
        refine ⟨_, cnt1, ss ++ [x.data.toList], hr2, ho2, HY1, Lib.hid (fun b hb => ?_), by simp; omega, Lib.hid ?_⟩
        · rcases List.mem_append.1 hb with hb | hb
          · exact HBG.out b hb
          · rw [List.mem_singleton.1 hb, Array.length_toList]; exact HXS.out
        · have hb3 := s_alloc HB1.out (.cells #[.string x] 9)
          refine ⟨HG2.out.os.trans hb3.os, HG2.out.tape.trans hb3.tape, HG2.out.output.trans hb3.output, Nat.le_trans hb3.size HG2.out.size, fun k hk => (HG2.out.block k (Nat.lt_of_lt_of_le hk hb3.size) (fun e => ?_)).trans (hb3.block k hk)⟩
          rcases HO1.out.2 with ⟨h1, _⟩ | ⟨gq, cap, cur, h1, hge, _⟩
          · rw [h1] at e; cases e
          · rw [h1] at e
            have e' : k = gq := Option.some.inj e
            omega
      case measure =>
        obtain ⟨m1, m2⟩ : some m ≠ u2.ownBlock ∧ some w.heap.size ≠ u2.ownBlock := by
          refine ⟨?_, row_ne_iter HO1.out HR1.out⟩
          intro e
          obtain ⟨es, ck, si, se, cc, hb, _⟩ := HR1.out
          rcases HO1.out.2 with ⟨h1, _⟩ | ⟨gq, cap, cur, h1, hge, hbq, _⟩
          · rw [h1] at e; cases e
          · rw [h1] at e
            have e' : m = gq := Option.some.inj e
            subst e'
            exact map_ne hbq hb rfl
        have hr2 := HR1.out.kept HG2.out m1 m2
        rw [hr2.left_eq, HLQ.out]
        exact hlt
end Go.Proofs.Ytbjoegladcmibaa.Pe
