/-
  lexer.number and lexer.gap: what they compute, and their contracts.
-/
import Derived.Test.YtejmbnahdkgpmaaLX1
namespace Go.Proofs.Ytejmbnahdkgpmaa.LX
open Go.RowKit Go.Proofs.YtejmbnahdkgpmaaW.PrintWords
set_option linter.unusedVariables false
set_option linter.unusedSimpArgs false
set_option linter.unnecessarySimpa false

def digB (c : UInt8) : Bool := decide (48 ≤ c.toNat) && decide (c.toNat ≤ 57)
def digits (s : ByteArray) : Bool := s.data.toList.all digB
def numL (n : Int) : List UInt8 → Int
  | [] => n
  | c :: l => numL (wrap64 (wrap64 (10 * n) + ((c.toNat : Int) - 48))) l
def number (s : ByteArray) : Int := numL 0 s.data.toList

theorem digits_at (s : ByteArray) (h : digits s = true) (pos : Nat) (hp : pos < s.size) : 48 ≤ (s[pos]'hp).toNat ∧ (s[pos]'hp).toNat ≤ 57 := by
  have hl : pos < s.data.toList.length := by rw [Array.length_toList]; exact hp
  have := List.all_eq_true.1 h (s.data.toList[pos]'hl) (List.getElem_mem hl)
  unfold digB at this
  simp only [Bool.and_eq_true, decide_eq_true_eq] at this
  exact this

set_option maxHeartbeats 4000000 in
set_option maxRecDepth 1000000 in
theorem number_calls (a0 : ByteArray) (h : digits a0 = true) (w : World) : Calls Try.prog 49 #[.string a0] w fun e w' => e = .returned (.int .i64 (number a0)) ∧ Below w.heap.size w w' := by
  have H1 := Lib.hid h
  clear h
  generalize hr : (number a0) = r
  have HR := Lib.hid hr
  clear hr
  go_enter Try.func49, Try.ntmps49
  go_wp2
  go_loopw [2] (fun v2 wr => ∃ (pos : Nat) (n : Int), v2 = .int .i64 n ∧ wr.heap[w.heap.size]? = some (.stringIter a0 pos) ∧ Hid (Below w.heap.size w wr) ∧ Hid (pos ≤ a0.size) ∧ Hid (numL n (a0.data.toList.drop pos) = r)) (fun _ wr => a0.size - wr.iterPos w.heap.size)
  case atStart =>
    refine ⟨0, 0, rfl, ?_, Lib.hid ((Below.refl _ w).alloc (Nat.le_refl _) _), Lib.hid (Nat.zero_le _), Lib.hid ?_⟩
    · have := World.iter_heap w a0 0
      simpa using this
    · rw [← HR.out]
      simp [number]
  case round =>
    obtain ⟨pos, n, rfl, hit, hbw, hle, hacc⟩ := hrel
    have hsz : w.heap.size < wr.heap.size := (Array.getElem?_eq_some_iff.1 hit).1
    by_cases hp : pos < a0.size
    · have hdg := digits_at a0 H1.out pos hp
      have ha : (a0[pos]'hp).toNat < 128 := by omega
      have hnx : ∀ ty, (Instr.next (.pointer (some ⟨w.heap.size, 0, none⟩)) true ty).run Try.prog wr = _ := fun ty => Lib.run_next_ascii_at wr w.heap.size a0 pos ty hit hp ha
      have hit2 := Lib.iterAt_heap wr w.heap.size a0 pos (pos + 1) hit
      have hbw2 := Lib.hid (Lib.below_iterAt hbw.out (k := w.heap.size) (Nat.le_refl _) a0 (pos + 1))
      have hd := Lib.hid (drop_at a0 pos hp)
      generalize hc : (a0[pos]'hp) = c at *
      have HC := Lib.hid hc
      clear hc
      go_wp2
      go_roundw
      case rel =>
        refine ⟨pos + 1, _, rfl, hit2, hbw2, Lib.hid (by omega), Lib.hid ?_⟩
        have hacc := hacc.out
        rw [hd.out] at hacc
        simp only [numL] at hacc
        rw [← hacc]
      case measure =>
        have h2 := hit2
        simp only [World.iterPos, hit]
        first
          | (rw [show (wr.iterAt w.heap.size a0 (pos + 1)).heap[w.heap.size]? = some (.stringIter a0 (pos + 1)) from hit2]; simp only []; omega)
          | (simp only [h2]; omega)
          | (simp [h2]; omega)
    · have hnx : ∀ ty, (Instr.next (.pointer (some ⟨w.heap.size, 0, none⟩)) true ty).run Try.prog wr = _ := fun ty => Lib.run_next_end_at wr w.heap.size a0 pos ty hit hp
      go_wp2
      go_ret
      have hacc := hacc.out
      rw [drop_end a0 pos hp] at hacc
      simp only [numL] at hacc
      refine ⟨?_, hbw.out⟩
      subst hacc
      rfl

/-! ### gap -/
def gapL : Bool → List UInt8 → Nat
  | _, [] => 0
  | r, c :: l => if c.toNat = 10 then gapL false l + 1 else if r = true then gapL true l + 1 else if c.toNat = 35 then gapL true l + 1 else if c.toNat = 32 ∨ c.toNat = 9 ∨ c.toNat = 13 then gapL false l + 1 else 0
def gap (s : ByteArray) : Nat := gapL false s.data.toList

theorem gapL_le : ∀ (r : Bool) (l : List UInt8), gapL r l ≤ l.length
  | _, [] => Nat.le_refl _
  | r, c :: l => by
    have h1 := gapL_le false l
    have h2 := gapL_le true l
    unfold gapL
    repeat' split
    all_goals simp only [List.length_cons]; omega

theorem gap_skip : ∀ (k : Nat) (l : List UInt8), k ≤ l.length → (∀ i, i < k → (l.getD i 0).toNat ≠ 10) → gapL true l = k + gapL true (l.drop k)
  | 0, l, _, _ => by simp
  | k + 1, [], h, _ => by simp at h
  | k + 1, c :: l, h, hb => by
    have h0 := hb 0 (by omega)
    simp only [List.getD_cons_zero] at h0
    have ih := gap_skip k l (by simp at h; omega) (fun i hi => by have := hb (i + 1) (by omega); simpa only [List.getD_cons_succ] using this)
    rw [gapL, if_neg h0, if_pos rfl, ih, List.drop_succ_cons]
    omega

theorem get_bang (s : ByteArray) (i : Nat) (h : i < s.size) : s.get! i = s[i]'h := by
  simp [ByteArray.get!, getElem!_pos, h]
  rfl

theorem decode_span (s : ByteArray) (pos : Nat) (h : pos < s.size) (ha : 128 ≤ (s[pos]'h).toNat) :
    ∀ i, i < (Utf8.decode s pos).2 → ∃ hi : pos + i < s.size, 128 ≤ (s[pos + i]'hi).toNat := by
  have key : ∀ k, (decide (pos + k < s.size) && (s.get! (pos + k)).toNat / 64 == 2) = true → ∃ hi : pos + k < s.size, 128 ≤ (s[pos + k]'hi).toNat := by
    intro k hk
    simp only [Bool.and_eq_true, decide_eq_true_eq, beq_iff_eq] at hk
    refine ⟨hk.1, ?_⟩
    have := hk.2
    rw [get_bang s _ hk.1] at this
    omega
  have k0 : ∃ hi : pos + 0 < s.size, 128 ≤ (s[pos + 0]'hi).toNat := ⟨h, ha⟩
  have one : ∀ i, i < 1 → ∃ hi : pos + i < s.size, 128 ≤ (s[pos + i]'hi).toNat := by
    intro i hi
    obtain rfl : i = 0 := by omega
    exact k0
  intro i
  unfold Utf8.decode
  simp only []
  split
  · exact one i
  · split
    · rename_i hc
      rw [Bool.and_eq_true] at hc
      split
      · intro hi
        match i, hi with
        | 0, _ => exact k0
        | 1, _ => exact key 1 hc.2
      · exact one i
    · split
      · rename_i hc
        rw [Bool.and_eq_true, Bool.and_eq_true] at hc
        split
        · intro hi
          match i, hi with
          | 0, _ => exact k0
          | 1, _ => exact key 1 hc.1.2
          | 2, _ => exact key 2 hc.2
        · exact one i
      · split
        · rename_i hc
          rw [Bool.and_eq_true, Bool.and_eq_true, Bool.and_eq_true] at hc
          split
          · intro hi
            match i, hi with
            | 0, _ => exact k0
            | 1, _ => exact key 1 hc.1.1.2
            | 2, _ => exact key 2 hc.1.2
            | 3, _ => exact key 3 hc.2
          · exact one i
        · exact one i

theorem gap_rune (s : ByteArray) (pos : Nat) (h : pos < s.size) (ha : 128 ≤ (s[pos]'h).toNat) :
    pos + (Utf8.decode s pos).2 ≤ s.size ∧ gapL true (s.data.toList.drop pos) = (Utf8.decode s pos).2 + gapL true (s.data.toList.drop (pos + (Utf8.decode s pos).2)) := by
  have hs := decode_span s pos h ha
  have h1 := (decode_high s pos h ha).2
  generalize (Utf8.decode s pos).2 = k at *
  have hle : pos + k ≤ s.size := by
    obtain ⟨hi, _⟩ := hs (k - 1) (by omega)
    omega
  refine ⟨hle, ?_⟩
  rw [gap_skip k (s.data.toList.drop pos) (by rw [List.length_drop, len_list]; omega), List.drop_drop]
  intro i hi
  obtain ⟨hj, hb⟩ := hs i hi
  have hl : pos + i < s.data.toList.length := by rw [len_list]; exact hj
  have e : (s.data.toList.drop pos).getD i 0 = s[pos + i]'hj := by
    rw [List.getD_eq_getElem?_getD, List.getElem?_drop, List.getElem?_eq_getElem hl]
    rfl
  rw [e]
  omega

set_option maxHeartbeats 8000000 in
set_option maxRecDepth 1000000 in
theorem gap_calls (a0 : ByteArray) (w : World) : Calls Try.prog 46 #[.string a0] w fun e w' => e = .returned (.int .i64 (gap a0 : Nat)) ∧ Below w.heap.size w w' := by
  generalize hr : (gap a0) = r
  have HR := Lib.hid hr
  clear hr
  go_enter Try.func46, Try.ntmps46
  go_wp2
  go_loopw [3] (fun v3 wr => ∃ (pos : Nat) (rm : Bool), v3 = .bool rm ∧ wr.heap[w.heap.size]? = some (.stringIter a0 pos) ∧ Hid (Below w.heap.size w wr) ∧ Hid (pos ≤ a0.size) ∧ Hid (pos + gapL rm (a0.data.toList.drop pos) = r)) (fun _ wr => a0.size - wr.iterPos w.heap.size)
  case atStart =>
    refine ⟨0, false, rfl, ?_, Lib.hid ((Below.refl _ w).alloc (Nat.le_refl _) _), Lib.hid (Nat.zero_le _), Lib.hid ?_⟩
    · have := World.iter_heap w a0 0
      simpa using this
    · rw [← HR.out]
      simp [gap]
  case round =>
    obtain ⟨pos, rm, rfl, hit, hbw, hle, hacc⟩ := hrel
    have hsz : w.heap.size < wr.heap.size := (Array.getElem?_eq_some_iff.1 hit).1
    by_cases hp : pos < a0.size
    · by_cases ha : (a0[pos]'hp).toNat < 128
      · have hnx : ∀ ty, (Instr.next (.pointer (some ⟨w.heap.size, 0, none⟩)) true ty).run Try.prog wr = _ := fun ty => Lib.run_next_ascii_at wr w.heap.size a0 pos ty hit hp ha
        have hit2 := Lib.iterAt_heap wr w.heap.size a0 pos (pos + 1) hit
        have hbw2 := Lib.hid (Lib.below_iterAt hbw.out (k := w.heap.size) (Nat.le_refl _) a0 (pos + 1))
        have hd := drop_at a0 pos hp
        generalize hc : (a0[pos]'hp) = c at *
        have hg := hacc.out
        rw [hd] at hg
        unfold gapL at hg
        have HG := Lib.hid hg
        clear hc hg hd hacc
        generalize hn : c.toNat = n at *
        have HN := Lib.hid hn
        clear hn
        have hit0 := hit
        cases rm
        · simp only [Bool.false_eq_true, if_false] at HG
          go_wp2
          all_goals
            clear hnx hit
            first
              | (go_roundw
                 case rel =>
                   refine ⟨pos + 1, _, rfl, hit2, hbw2, Lib.hid (by omega), Lib.hid ?_⟩
                   have hg := HG.out
                   clear HG hbw2 hit2 hbw hle HN
                   (repeat' (split at hg)) <;> (simp only [beq_iff_eq, beq_eq_false_iff_ne, ne_eq, bne_iff_ne, bne_eq_false_iff_eq] at *) <;> omega
                 case measure =>
                   have h2 := hit2
                   have hit := hit0
                   simp only [World.iterPos, hit]
                   first
                     | (rw [show (wr.iterAt w.heap.size a0 (pos + 1)).heap[w.heap.size]? = some (.stringIter a0 (pos + 1)) from hit2]; simp only []; omega)
                     | (simp only [h2]; omega)
                     | (simp [h2]; omega))
              | (go_ret
                 have e : pos = r := by
                   have hg := HG.out
                   clear HG hbw2 hit2 hbw hle HN
                   (repeat' (split at hg)) <;> (simp only [beq_iff_eq, beq_eq_false_iff_ne, ne_eq, bne_iff_ne, bne_eq_false_iff_eq] at *) <;> omega
                 subst e
                 exact ⟨rfl, hbw2.out⟩)
        · simp only [if_true] at HG
          go_wp2
          all_goals
            clear hnx hit
            first
              | (go_roundw
                 case rel =>
                   refine ⟨pos + 1, _, rfl, hit2, hbw2, Lib.hid (by omega), Lib.hid ?_⟩
                   have hg := HG.out
                   clear HG hbw2 hit2 hbw hle HN
                   (repeat' (split at hg)) <;> (simp only [beq_iff_eq, beq_eq_false_iff_ne, ne_eq, bne_iff_ne, bne_eq_false_iff_eq] at *) <;> omega
                 case measure =>
                   have h2 := hit2
                   have hit := hit0
                   simp only [World.iterPos, hit]
                   first
                     | (rw [show (wr.iterAt w.heap.size a0 (pos + 1)).heap[w.heap.size]? = some (.stringIter a0 (pos + 1)) from hit2]; simp only []; omega)
                     | (simp only [h2]; omega)
                     | (simp [h2]; omega))
              | (go_ret
                 have e : pos = r := by
                   have hg := HG.out
                   clear HG hbw2 hit2 hbw hle HN
                   (repeat' (split at hg)) <;> (simp only [beq_iff_eq, beq_eq_false_iff_ne, ne_eq, bne_iff_ne, bne_eq_false_iff_eq] at *) <;> omega
                 subst e
                 exact ⟨rfl, hbw2.out⟩)
      · have hnx : ∀ ty, (Instr.next (.pointer (some ⟨w.heap.size, 0, none⟩)) true ty).run Try.prog wr = _ := fun ty => Lib.run_next_any_at wr w.heap.size a0 pos ty hit hp
        have hhi := decode_high a0 pos hp (by omega)
        have hd1 := decode_le a0 pos
        have hgr := gap_rune a0 pos hp (by omega)
        have hd := drop_at a0 pos hp
        generalize hdec : Utf8.decode a0 pos = dc at *
        have hit2 := Lib.iterAt_heap wr w.heap.size a0 pos (pos + dc.2) hit
        have hbw2 := Lib.hid (Lib.below_iterAt hbw.out (k := w.heap.size) (Nat.le_refl _) a0 (pos + dc.2))
        have HG := Lib.hid hgr.2
        have hw := hhi.2
        have hk := hhi.1
        have hz := hgr.1
        have hit0 := hit
        generalize hdc1 : dc.1 = d1 at *
        generalize hdc2 : dc.2 = d2 at *
        clear hgr hhi hdec hdc1 hdc2
        cases rm
        · have hg0 : gapL false (a0.data.toList.drop pos) = 0 := by
            rw [hd]
            unfold gapL
            rw [if_neg (by omega), if_neg (by simp), if_neg (by omega), if_neg (by omega)]
          have HG0 := Lib.hid hg0
          clear hg0 hd HG
          go_wp2
          all_goals
            clear hnx hit
            first
              | (exfalso; simp only [beq_iff_eq, beq_eq_false_iff_ne, ne_eq, bne_iff_ne, bne_eq_false_iff_eq] at *; omega)
              | (go_ret
                 have e : pos = r := by
                   have h1 := HG0.out
                   have h2 := hacc.out
                   rw [h1] at h2
                   omega
                 subst e
                 exact ⟨rfl, hbw2.out⟩)
        · clear hd
          go_wp2
          all_goals
            clear hnx hit
            first
              | (exfalso; simp only [beq_iff_eq, beq_eq_false_iff_ne, ne_eq, bne_iff_ne, bne_eq_false_iff_eq] at *; omega)
              | (go_roundw
                 case rel =>
                   refine ⟨pos + d2, _, rfl, hit2, hbw2, Lib.hid (by omega), Lib.hid ?_⟩
                   have hg := HG.out
                   have h2 := hacc.out
                   rw [hg] at h2
                   omega
                 case measure =>
                   have h2 := hit2
                   have hit := hit0
                   simp only [World.iterPos, hit]
                   first
                     | (rw [show (wr.iterAt w.heap.size a0 (pos + d2)).heap[w.heap.size]? = some (.stringIter a0 (pos + d2)) from hit2]; simp only []; omega)
                     | (simp only [h2]; omega)
                     | (simp [h2]; omega))
    · have hnx : ∀ ty, (Instr.next (.pointer (some ⟨w.heap.size, 0, none⟩)) true ty).run Try.prog wr = _ := fun ty => Lib.run_next_end_at wr w.heap.size a0 pos ty hit hp
      go_wp2
      go_ret
      have hacc := hacc.out
      rw [drop_end a0 pos hp] at hacc
      have := hle.out
      refine ⟨?_, hbw.out⟩
      simp only [gapL] at hacc
      have e : a0.size = r := by omega
      rw [e]
      rfl

end Go.Proofs.Ytejmbnahdkgpmaa.LX
