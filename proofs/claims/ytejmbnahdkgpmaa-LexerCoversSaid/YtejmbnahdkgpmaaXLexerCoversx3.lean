-- WRITTEN BY wip/xprint.py (my own wrapper round the print, with contracts of my own in it)
import Derived.Test.YtejmbnahdkgpmaaXLexerCoversx0
import Derived.Test.YtejmbnahdkgpmaaXLexerCoversx2
namespace Go.Proofs.Ytejmbnahdkgpmaa.XLexerCovers
open Go.RowKit Go.Proofs.YtejmbnahdkgpmaaW.PrintWords Go.Proofs.YtejmbnahdkgpmaaW.PrintLast Go.Proofs.YtejmbnahdkgpmaaW.PrintMore
attribute [local go_sem] max2_int min2_int max_two min_two max_three min_three max_four min_four   -- for this text's walks alone
set_option linter.unusedVariables false
set_option linter.unusedSimpArgs false

/-! ### octroiref30_one: function 51 (by hand) -/
def oneS (s : ByteArray) (j : Nat) : Int × Int × ByteArray × Int × Int :=
  if LX.kind (LX.byt s j) = 0 ∨ (LX.kind (LX.byt s j) = 2 ∧ LX.many s (LX.kind (LX.byt s j)) j > 18) then (0, 0, (⟨#[]⟩ : ByteArray), 0, 80)
  else (LX.kind (LX.byt s j), (j : Int), s.extract j (j + LX.many s (LX.kind (LX.byt s j)) j), LX.nOf s (LX.kind (LX.byt s j)) j (LX.many s (LX.kind (LX.byt s j)) j), 0)

theorem letter_f (c : Int) : octroiref30_letter.f c = some (decide (97 ≤ c ∧ c ≤ 122)) := by
  unfold octroiref30_letter.f
  split
  · congr 1
    apply Bool.eq_iff_iff.2
    simp
    omega
  · congr 1
    apply Bool.eq_iff_iff.2
    simp
    omega
theorem digit_f (c : Int) : octroiref30_digit.f c = some (decide (48 ≤ c ∧ c ≤ 57)) := by
  unfold octroiref30_digit.f
  split
  · congr 1
    apply Bool.eq_iff_iff.2
    simp
    omega
  · congr 1
    apply Bool.eq_iff_iff.2
    simp
    omega
theorem sign_f (c : Int) : octroiref30_sign.f c = some (LX.sgn c) := by
  unfold octroiref30_sign.f LX.sgn
  repeat' split
  all_goals (subst_vars; first | rfl | (simp_all))

theorem dig_at (s : ByteArray) (j e i : Nat) (hji : j ≤ i) (hi : i < e) (he : e ≤ s.size) (h : LX.digits (s.extract j e) = true) : 48 ≤ (s[i]'(by omega)).toNat ∧ (s[i]'(by omega)).toNat ≤ 57 := by
  have hlt : i < s.size := by omega
  have hd := LX.drop_at s i hlt
  have hm : (s[i]'hlt) ∈ (s.extract j e).data.toList := by
    rw [LX.extract_list]
    have h1 : s.data.toList.drop j = (s.data.toList.drop j).take (i - j) ++ s.data.toList.drop i := by
      have := (List.take_append_drop (i - j) (s.data.toList.drop j)).symm
      rw [List.drop_drop, Nat.add_sub_cancel' hji] at this
      exact this
    rw [h1, hd, List.take_append, List.mem_append]
    right
    have hlen : ((s.data.toList.drop j).take (i - j)).length = i - j := by
      rw [List.length_take, List.length_drop, LX.len_list]
      omega
    rw [hlen]
    obtain ⟨q, hq⟩ : ∃ q, e - j - (i - j) = q + 1 := ⟨e - i - 1, by omega⟩
    rw [hq, List.take_succ_cons]
    exact List.mem_cons_self ..
  have := List.all_eq_true.1 h _ hm
  unfold LX.digB at this
  simp only [Bool.and_eq_true, decide_eq_true_eq] at this
  exact this

set_option maxHeartbeats 8000000 in
set_option maxRecDepth 1000000 in
theorem one_walk (s : ByteArray) (j : Nat) (hj : j < s.size) (hs : s.size ≤ 65536) (r1 r2 : Int) (r3 : ByteArray) (r4 r5 : Int) (w : World) (h : oneS s j = (r1, r2, r3, r4, r5)) :
    Calls Try.prog 51 #[.string s, .int .i64 (j : Int)] w fun e w' => e = .returned (.tuple #[.agg #[.int .i64 r1, .int .i64 r2, .string r3, .int .i64 r4], .int .i64 r5]) ∧ Below w.heap.size w w' := by
  have HH := Lib.hid h
  clear h
  go_enter Try.func51, Try.ntmps51
  go_upto_region 4 with (fail)
  generalize hW : (w.alloc (Obj.cells #[Value.int IntKind.i64 0, Value.int IntKind.i64 0, Value.string { data := #[] }, Value.int IntKind.i64 0] 69)).alloc (Obj.cells #[Value.int IntKind.i64 0, Value.int IntKind.i64 (j : Int), Value.string { data := #[] }, Value.int IntKind.i64 0] 69) = W1
  have hbr : W1.heap[w.heap.size]? = some (.cells #[Value.int IntKind.i64 0, Value.int IntKind.i64 0, Value.string { data := #[] }, Value.int IntKind.i64 0] 69 (0, 0)) := by
    rw [← hW, Go.heap_alloc2_old]
  have hbt : W1.heap[w.heap.size + 1]? = some (.cells #[Value.int IntKind.i64 0, Value.int IntKind.i64 (j : Int), Value.string { data := #[] }, Value.int IntKind.i64 0] 69 (0, 0)) := by
    rw [← hW]
    have := Go.heap_alloc_new (w.alloc (Obj.cells #[Value.int IntKind.i64 0, Value.int IntKind.i64 0, Value.string { data := #[] }, Value.int IntKind.i64 0] 69)) (Obj.cells #[Value.int IntKind.i64 0, Value.int IntKind.i64 (j : Int), Value.string { data := #[] }, Value.int IntKind.i64 0] 69)
    rwa [show (w.alloc (Obj.cells #[Value.int IntKind.i64 0, Value.int IntKind.i64 0, Value.string { data := #[] }, Value.int IntKind.i64 0] 69)).heap.size = w.heap.size + 1 by simp] at this
  have hb1 : Below w.heap.size w W1 := by
    rw [← hW]
    exact ((Below.refl _ w).alloc (Nat.le_refl _) _).alloc (by simp) _
  have hne : w.heap.size ≠ w.heap.size + 1 := by omega
  have GR := Lib.hid (Nat.le_refl w.heap.size)
  generalize hgt : w.heap.size + 1 = gt at hbt hne ⊢
  have GT : Hid (w.heap.size ≤ gt) := Lib.hid (by omega)
  generalize hgr : w.heap.size = gr at hbr hne ⊢
  rw [hgr] at GR
  have GR' : Hid (w.heap.size ≤ gr) := Lib.hid (Nat.le_of_eq hgr)
  have BR := Lib.hid hbr
  have BT := Lib.hid hbt
  have HB := Lib.hid hb1
  have HNE := Lib.hid hne
  clear hW hbr hbt hb1 hne GR
  have hby := LX.byt_at s j hj
  have hlet : ∀ (e : Nat) (he : e < s.size) (wx : World), Calls Try.prog 60 #[.int .u8 ((s[e]'he).toNat : Int)] wx (fun x w' => x = .returned (.bool (decide (97 ≤ ((s[e]'he).toNat : Int) ∧ ((s[e]'he).toNat : Int) ≤ 122))) ∧ Drawn0 wx w') := fun e he wx => octroiref30_letter.calls _ _ wx (letter_f _)
  have hdig : ∀ (e : Nat) (he : e < s.size) (wx : World), Calls Try.prog 61 #[.int .u8 ((s[e]'he).toNat : Int)] wx (fun x w' => x = .returned (.bool (decide (48 ≤ ((s[e]'he).toNat : Int) ∧ ((s[e]'he).toNat : Int) ≤ 57))) ∧ Drawn0 wx w') := fun e he wx => octroiref30_digit.calls _ _ wx (digit_f _)
  have hsgn : ∀ (e : Nat) (he : e < s.size) (wx : World), Calls Try.prog 62 #[.int .u8 ((s[e]'he).toNat : Int)] wx (fun x w' => x = .returned (.bool (LX.sgn ((s[e]'he).toNat : Int))) ∧ Drawn0 wx w') := fun e he wx => octroiref30_sign.calls _ _ wx (sign_f _)
  have HLET := Lib.hid hlet
  have HDIG := Lib.hid hdig
  have HSGN := Lib.hid hsgn
  clear hlet hdig hsgn
  unfold oneS at HH
  rw [hby] at HH
  by_cases hl : 97 ≤ ((s[j]'hj).toNat : Int) ∧ ((s[j]'hj).toNat : Int) ≤ 122
  · have hl1 : ∀ wx : World, Calls Try.prog 60 #[.int .u8 ((s[j]'hj).toNat : Int)] wx (fun x w' => x = .returned (.bool true) ∧ Drawn0 wx w') := by
      intro wx
      have := HLET.out j hj wx
      rwa [decide_eq_true hl] at this
    have HL1 := Lib.hid hl1
    have hk : LX.kind ((s[j]'hj).toNat : Int) = 1 := by unfold LX.kind; rw [if_pos hl]
    rw [hk, if_neg (by omega)] at HH
    have hm : LX.many s 1 j = LX.runL 1 (s.data.toList.drop j) := rfl
    rw [hm] at HH
    clear hl1 hk hl hby hm
    go_wp2_with (go_at_call 60; refine (HL1.out _).mono ?_; rintro x w2 ⟨rfl, hdr⟩; have HB2 := Lib.hid (below_step HB.out hdr.below); have BR2 := Lib.hid (blk_below BR.out hdr.below); have BT2 := Lib.hid (blk_below BT.out hdr.below); clear hdr)
    go_loopw [6] (fun v6 wr => ∃ e : Nat, v6 = .int .i64 (e : Int) ∧ Hid (j ≤ e) ∧ Hid (e ≤ s.size) ∧ Hid (e + LX.runL 1 (s.data.toList.drop e) = j + LX.runL 1 (s.data.toList.drop j)) ∧ Hid (wr.heap[gr]? = some (.cells #[Value.int IntKind.i64 0, Value.int IntKind.i64 0, Value.string { data := #[] }, Value.int IntKind.i64 0] 69 (0, 0))) ∧ Hid (wr.heap[gt]? = some (.cells #[Value.int IntKind.i64 0, Value.int IntKind.i64 (j : Int), Value.string { data := #[] }, Value.int IntKind.i64 0] 69 (0, 0))) ∧ Hid (Below w.heap.size w wr)) (fun v6 _ => s.size - (intOf v6).toNat)
    case atStart => exact ⟨j, rfl, Lib.hid (Nat.le_refl _), Lib.hid (Nat.le_of_lt hj), Lib.hid rfl, BR2, BT2, HB2⟩
    case round =>
      obtain ⟨e, rfl, hje, hes, hrun, BR3, BT3, HB3⟩ := hrel
      have hje := hje.out
      have hes := hes.out
      by_cases he : e < s.size
      · obtain ⟨hd, _, hc⟩ : s.data.toList.drop e = (s[e]'he) :: s.data.toList.drop (e + 1) ∧ True ∧ (s[e]'he).toNat < 256 := ⟨LX.drop_at s e he, trivial, (s[e]'he).toNat_lt⟩
        by_cases hl2 : 97 ≤ ((s[e]'he).toNat : Int) ∧ ((s[e]'he).toNat : Int) ≤ 122
        · have hl1 : ∀ wx : World, Calls Try.prog 60 #[.int .u8 ((s[e]'he).toNat : Int)] wx (fun x w' => x = .returned (.bool true) ∧ Drawn0 wx w') := by
            intro wx
            have := HLET.out e he wx
            rwa [decide_eq_true hl2] at this
          have HL3 := Lib.hid hl1
          have hk : LX.kind ((s[e]'he).toNat : Int) = 1 := by unfold LX.kind; rw [if_pos hl2]
          have hrun' := hrun.out
          rw [hd, LX.runL, if_pos hk] at hrun'
          have HRUN := Lib.hid hrun'
          clear hl1 hk hl2 hd hc hrun hrun'
          go_wp2_with (go_at_call 60; refine (HL3.out _).mono ?_; rintro x w4 ⟨rfl, hdr⟩; have HB4 := Lib.hid (below_step HB3.out hdr.below); have BR4 := Lib.hid (blk_below BR3.out hdr.below); have BT4 := Lib.hid (blk_below BT3.out hdr.below); clear hdr)
          go_roundw
          case rel => exact ⟨e + 1, by simp, Lib.hid (by omega), Lib.hid (by omega), Lib.hid (by have := HRUN.out; omega), BR4, BT4, HB4⟩
          case measure => simp [intOf]; omega
        · have hl1 : ∀ wx : World, Calls Try.prog 60 #[.int .u8 ((s[e]'he).toNat : Int)] wx (fun x w' => x = .returned (.bool false) ∧ Drawn0 wx w') := by
            intro wx
            have := HLET.out e he wx
            rwa [decide_eq_false hl2] at this
          have HL3 := Lib.hid hl1
          have hk : ¬ LX.kind ((s[e]'he).toNat : Int) = 1 := by
            unfold LX.kind
            rw [if_neg hl2]
            split
            · simp
            · split <;> simp
          have hrun' := hrun.out
          rw [hd, LX.runL, if_neg hk] at hrun'
          have HRUN : Hid (e = j + LX.runL 1 (s.data.toList.drop j)) := Lib.hid hrun'
          clear hl1 hk hl2 hd hc hrun hrun'
          go_upto_region 7 with (go_at_call 60; refine (HL3.out _).mono ?_; rintro x w4 ⟨rfl, hdr⟩; have HB5 := Lib.hid (below_step HB3.out hdr.below); have BR5 := Lib.hid (blk_below BR3.out hdr.below); have BT5 := Lib.hid (blk_below BT3.out hdr.below); clear hdr)
          have he' := HRUN.out
          rw [← he', show LX.nOf s 1 j (LX.runL 1 (s.data.toList.drop j)) = 0 from rfl] at HH
          clear he' HRUN
          have hc0 := (blk_cell BT5.out 0)
          have hc2 := (blk_cell BT5.out 2)
          have hf0 := blk_frozen BT5.out 0
          have hf2 := blk_frozen BT5.out 2
          go_upto_region 22 with (fail)
          have BT6 := Lib.hid (blk_put (cs' := #[Value.int IntKind.i64 1, Value.int IntKind.i64 (j : Int), Value.string (s.extract j e), Value.int IntKind.i64 0]) (blk_put (cs' := #[Value.int IntKind.i64 1, Value.int IntKind.i64 (j : Int), Value.string { data := #[] }, Value.int IntKind.i64 0]) BT5.out 0 (.int .i64 1) rfl) 2 (.string (s.extract j e)) rfl)
          have BR6 := Lib.hid (blk_far (blk_far BR5.out HNE.out (p := ⟨gt, 0, none⟩) (.int .i64 1)) HNE.out (p := ⟨gt, 2, none⟩) (.string (s.extract j e)))
          have HB6 := Lib.hid (below_set (j := 2) (v := .string (s.extract j e)) (below_set (j := 0) (v := .int .i64 1) HB5.out GT.out) GT.out)
          generalize s.extract j e = tx at HH BT6 BR6 HB6
          generalize hW6 : World.setCell (World.setCell _ { block := gt, off := 0 } _) { block := gt, off := 2 } _ = W6 at BT6 BR6 HB6
          clear hW6 hc0 hc2 hf0 hf2 BT5 BR5 HB5
          have hc0 := (blk_cell BT6.out 0)
          have hc1 := (blk_cell BT6.out 1)
          have hc2 := (blk_cell BT6.out 2)
          have hc3 := (blk_cell BT6.out 3)
          have hr0 := (blk_cell BR6.out 0)
          have hr1 := (blk_cell BR6.out 1)
          have hr2 := (blk_cell BR6.out 2)
          have hr3 := (blk_cell BR6.out 3)
          have hf0 := blk_frozen BR6.out 0
          have hf1 := blk_frozen BR6.out 1
          have hf2 := blk_frozen BR6.out 2
          have hf3 := blk_frozen BR6.out 3
          go_wp2
          refine bodyPost_ret (results_ct rfl _ _ gr 69 #[Value.int IntKind.i64 1, Value.int IntKind.i64 (j : Int), Value.string tx, Value.int IntKind.i64 0] (0, 0) _ rfl (blk_put (cs' := #[Value.int IntKind.i64 1, Value.int IntKind.i64 (j : Int), Value.string tx, Value.int IntKind.i64 0]) (blk_put (cs' := #[Value.int IntKind.i64 1, Value.int IntKind.i64 (j : Int), Value.string tx, Value.int IntKind.i64 0]) (blk_put (cs' := #[Value.int IntKind.i64 1, Value.int IntKind.i64 (j : Int), Value.string { data := #[] }, Value.int IntKind.i64 0]) (blk_put (cs' := #[Value.int IntKind.i64 1, Value.int IntKind.i64 0, Value.string { data := #[] }, Value.int IntKind.i64 0]) BR6.out 0 (Value.int IntKind.i64 1) rfl) 1 (Value.int IntKind.i64 (j : Int)) rfl) 2 (Value.string tx) rfl) 3 (Value.int IntKind.i64 0) rfl) Try.underlying69 rfl (by kernel_rfl)) rfl ?_
          have hh := HH.out
          simp only [Prod.mk.injEq] at hh
          obtain ⟨rfl, rfl, rfl, rfl, rfl⟩ := hh
          exact ⟨rfl, (below_set (j := 3) (v := Value.int IntKind.i64 0) (below_set (j := 2) (v := Value.string tx) (below_set (j := 1) (v := Value.int IntKind.i64 (j : Int)) (below_set (j := 0) (v := Value.int IntKind.i64 1) HB6.out GR'.out) GR'.out) GR'.out) GR'.out)⟩
      · have HRUN : Hid (e = j + LX.runL 1 (s.data.toList.drop j)) := Lib.hid (by
          have h := hrun.out
          rw [LX.drop_end s e he] at h
          exact h)
        have BT5 := BT3
        have BR5 := BR3
        have HB5 := HB3
        have he' := HRUN.out
        rw [← he', show LX.nOf s 1 j (LX.runL 1 (s.data.toList.drop j)) = 0 from rfl] at HH
        clear he' HRUN hrun
        go_upto_region 7 with (fail)
        have hc0 := (blk_cell BT5.out 0)
        have hc2 := (blk_cell BT5.out 2)
        have hf0 := blk_frozen BT5.out 0
        have hf2 := blk_frozen BT5.out 2
        go_upto_region 22 with (fail)
        have BT6 := Lib.hid (blk_put (cs' := #[Value.int IntKind.i64 1, Value.int IntKind.i64 (j : Int), Value.string (s.extract j e), Value.int IntKind.i64 0]) (blk_put (cs' := #[Value.int IntKind.i64 1, Value.int IntKind.i64 (j : Int), Value.string { data := #[] }, Value.int IntKind.i64 0]) BT5.out 0 (.int .i64 1) rfl) 2 (.string (s.extract j e)) rfl)
        have BR6 := Lib.hid (blk_far (blk_far BR5.out HNE.out (p := ⟨gt, 0, none⟩) (.int .i64 1)) HNE.out (p := ⟨gt, 2, none⟩) (.string (s.extract j e)))
        have HB6 := Lib.hid (below_set (j := 2) (v := .string (s.extract j e)) (below_set (j := 0) (v := .int .i64 1) HB5.out GT.out) GT.out)
        generalize s.extract j e = tx at HH BT6 BR6 HB6
        generalize hW6 : World.setCell (World.setCell _ { block := gt, off := 0 } _) { block := gt, off := 2 } _ = W6 at BT6 BR6 HB6
        clear hW6 hc0 hc2 hf0 hf2 BT5 BR5 HB5
        have hc0 := (blk_cell BT6.out 0)
        have hc1 := (blk_cell BT6.out 1)
        have hc2 := (blk_cell BT6.out 2)
        have hc3 := (blk_cell BT6.out 3)
        have hr0 := (blk_cell BR6.out 0)
        have hr1 := (blk_cell BR6.out 1)
        have hr2 := (blk_cell BR6.out 2)
        have hr3 := (blk_cell BR6.out 3)
        have hf0 := blk_frozen BR6.out 0
        have hf1 := blk_frozen BR6.out 1
        have hf2 := blk_frozen BR6.out 2
        have hf3 := blk_frozen BR6.out 3
        go_wp2
        refine bodyPost_ret (results_ct rfl _ _ gr 69 #[Value.int IntKind.i64 1, Value.int IntKind.i64 (j : Int), Value.string tx, Value.int IntKind.i64 0] (0, 0) _ rfl (blk_put (cs' := #[Value.int IntKind.i64 1, Value.int IntKind.i64 (j : Int), Value.string tx, Value.int IntKind.i64 0]) (blk_put (cs' := #[Value.int IntKind.i64 1, Value.int IntKind.i64 (j : Int), Value.string tx, Value.int IntKind.i64 0]) (blk_put (cs' := #[Value.int IntKind.i64 1, Value.int IntKind.i64 (j : Int), Value.string { data := #[] }, Value.int IntKind.i64 0]) (blk_put (cs' := #[Value.int IntKind.i64 1, Value.int IntKind.i64 0, Value.string { data := #[] }, Value.int IntKind.i64 0]) BR6.out 0 (Value.int IntKind.i64 1) rfl) 1 (Value.int IntKind.i64 (j : Int)) rfl) 2 (Value.string tx) rfl) 3 (Value.int IntKind.i64 0) rfl) Try.underlying69 rfl (by kernel_rfl)) rfl ?_
        have hh := HH.out
        simp only [Prod.mk.injEq] at hh
        obtain ⟨rfl, rfl, rfl, rfl, rfl⟩ := hh
        exact ⟨rfl, (below_set (j := 3) (v := Value.int IntKind.i64 0) (below_set (j := 2) (v := Value.string tx) (below_set (j := 1) (v := Value.int IntKind.i64 (j : Int)) (below_set (j := 0) (v := Value.int IntKind.i64 1) HB6.out GR'.out) GR'.out) GR'.out) GR'.out)⟩
  · have hl1' : ∀ wx : World, Calls Try.prog 60 #[.int .u8 ((s[j]'hj).toNat : Int)] wx (fun x w' => x = .returned (.bool false) ∧ Drawn0 wx w') := by
      intro wx
      have := HLET.out j hj wx
      rwa [decide_eq_false hl] at this
    have HL1 := Lib.hid hl1'
    clear hl1'
    by_cases hd2 : 48 ≤ ((s[j]'hj).toNat : Int) ∧ ((s[j]'hj).toNat : Int) ≤ 57
    · have hl2' : ∀ wx : World, Calls Try.prog 61 #[.int .u8 ((s[j]'hj).toNat : Int)] wx (fun x w' => x = .returned (.bool true) ∧ Drawn0 wx w') := by
        intro wx
        have := HDIG.out j hj wx
        rwa [decide_eq_true hd2] at this
      have HL2 := Lib.hid hl2'
      clear hl2'
      have hk : LX.kind ((s[j]'hj).toNat : Int) = 2 := by unfold LX.kind; rw [if_neg hl, if_pos hd2]
      have hm : LX.many s 2 j = LX.runL 2 (s.data.toList.drop j) := rfl
      rw [hk, hm] at HH
      have HDA : Hid (LX.digits (s.extract j (j + LX.runL 2 (s.data.toList.drop j))) = true) := Lib.hid (LX.digits_extract s j (by rw [hby]; exact hk))
      clear hk hl hd2 hby hm
      go_wp2_with (first | (go_at_call 60; refine (HL1.out _).mono ?_; rintro x w2 ⟨rfl, hdr⟩; have HB1 := Lib.hid (below_step HB.out hdr.below); have BR1 := Lib.hid (blk_below BR.out hdr.below); have BT1 := Lib.hid (blk_below BT.out hdr.below); clear hdr) | (go_at_call 61; refine (HL2.out _).mono ?_; rintro x w3 ⟨rfl, hdr⟩; have HB2 := Lib.hid (below_step HB1.out hdr.below); have BR2 := Lib.hid (blk_below BR1.out hdr.below); have BT2 := Lib.hid (blk_below BT1.out hdr.below); clear hdr))
      go_loopw [6] (fun v6 wr => ∃ e : Nat, v6 = .int .i64 (e : Int) ∧ Hid (j ≤ e) ∧ Hid (e ≤ s.size) ∧ Hid (e + LX.runL 2 (s.data.toList.drop e) = j + LX.runL 2 (s.data.toList.drop j)) ∧ Hid (wr.heap[gr]? = some (.cells #[Value.int IntKind.i64 0, Value.int IntKind.i64 0, Value.string { data := #[] }, Value.int IntKind.i64 0] 69 (0, 0))) ∧ Hid (wr.heap[gt]? = some (.cells #[Value.int IntKind.i64 0, Value.int IntKind.i64 (j : Int), Value.string { data := #[] }, Value.int IntKind.i64 0] 69 (0, 0))) ∧ Hid (Below w.heap.size w wr)) (fun v6 _ => s.size - (intOf v6).toNat)
      case atStart => exact ⟨j, rfl, Lib.hid (Nat.le_refl _), Lib.hid (Nat.le_of_lt hj), Lib.hid rfl, BR2, BT2, HB2⟩
      case round =>
        obtain ⟨e, rfl, hje, hes, hrun, BR3, BT3, HB3⟩ := hrel
        have hje := hje.out
        have hes := hes.out
        clear BR BT HB BR1 BT1 HB1 BR2 BT2 HB2 HL1 HL2
        by_cases he : e < s.size
        · have hd := LX.drop_at s e he
          by_cases hl2 : 48 ≤ ((s[e]'he).toNat : Int) ∧ ((s[e]'he).toNat : Int) ≤ 57
          · have hl3' : ∀ wx : World, Calls Try.prog 61 #[.int .u8 ((s[e]'he).toNat : Int)] wx (fun x w' => x = .returned (.bool true) ∧ Drawn0 wx w') := by
              intro wx
              have := HDIG.out e he wx
              rwa [decide_eq_true hl2] at this
            have HL3 := Lib.hid hl3'
            clear hl3'
            have hk : LX.kind ((s[e]'he).toNat : Int) = 2 := by unfold LX.kind; rw [if_neg (by omega), if_pos hl2]
            have hrun' := hrun.out
            rw [hd, LX.runL, if_pos hk] at hrun'
            have HRUN := Lib.hid hrun'
            clear hk hl2 hd hrun hrun'
            go_wp2_with (go_at_call 61; refine (HL3.out _).mono ?_; rintro x w4 ⟨rfl, hdr⟩; have HB4 := Lib.hid (below_step HB3.out hdr.below); have BR4 := Lib.hid (blk_below BR3.out hdr.below); have BT4 := Lib.hid (blk_below BT3.out hdr.below); clear hdr)
            go_roundw
            case rel => exact ⟨e + 1, by simp, Lib.hid (by omega), Lib.hid (by omega), Lib.hid (by have := HRUN.out; omega), BR4, BT4, HB4⟩
            case measure => simp [intOf]; omega
          · have hl3' : ∀ wx : World, Calls Try.prog 61 #[.int .u8 ((s[e]'he).toNat : Int)] wx (fun x w' => x = .returned (.bool false) ∧ Drawn0 wx w') := by
              intro wx
              have := HDIG.out e he wx
              rwa [decide_eq_false hl2] at this
            have HL3 := Lib.hid hl3'
            clear hl3'
            have hk : ¬ LX.kind ((s[e]'he).toNat : Int) = 2 := by
              unfold LX.kind
              by_cases h97 : 97 ≤ ((s[e]'he).toNat : Int) ∧ ((s[e]'he).toNat : Int) ≤ 122
              · rw [if_pos h97]
                decide
              · rw [if_neg h97, if_neg hl2]
                split <;> simp
            have hrun' := hrun.out
            rw [hd, LX.runL, if_neg hk] at hrun'
            have HRUN : Hid (e = j + LX.runL 2 (s.data.toList.drop j)) := Lib.hid hrun'
            clear hk hl2 hd hrun hrun'
            go_upto_region 11 with (go_at_call 61; refine (HL3.out _).mono ?_; rintro x w4 ⟨rfl, hdr⟩; have HB5 := Lib.hid (below_step HB3.out hdr.below); have BR5 := Lib.hid (blk_below BR3.out hdr.below); have BT5 := Lib.hid (blk_below BT3.out hdr.below); clear hdr)
            have he' := HRUN.out
            have HDE : Hid (LX.digits (s.extract j e) = true) := Lib.hid (by rw [he']; exact HDA.out)
            have hmm : LX.runL 2 (s.data.toList.drop j) = e - j := by omega
            rw [hmm] at HH
            clear he' HRUN hmm
            by_cases h18 : e - j > 18
            · rw [if_pos (Or.inr ⟨by first | rfl | trivial, h18⟩)] at HH
              have h18' : (18 : Int) < (e : Int) - (j : Int) := by omega
              have hr0 := (blk_cell BR5.out 0)
              have hr1 := (blk_cell BR5.out 1)
              have hr2 := (blk_cell BR5.out 2)
              have hr3 := (blk_cell BR5.out 3)
              have hf0 := blk_frozen BR5.out 0
              have hf1 := blk_frozen BR5.out 1
              have hf2 := blk_frozen BR5.out 2
              have hf3 := blk_frozen BR5.out 3
              go_wp2
              refine bodyPost_ret (results_ct rfl _ _ gr 69 #[Value.int IntKind.i64 0, Value.int IntKind.i64 0, Value.string { data := #[] }, Value.int IntKind.i64 0] (0, 0) _ rfl (blk_put (cs' := #[Value.int IntKind.i64 0, Value.int IntKind.i64 0, Value.string { data := #[] }, Value.int IntKind.i64 0]) (blk_put (cs' := #[Value.int IntKind.i64 0, Value.int IntKind.i64 0, Value.string { data := #[] }, Value.int IntKind.i64 0]) (blk_put (cs' := #[Value.int IntKind.i64 0, Value.int IntKind.i64 0, Value.string { data := #[] }, Value.int IntKind.i64 0]) (blk_put (cs' := #[Value.int IntKind.i64 0, Value.int IntKind.i64 0, Value.string { data := #[] }, Value.int IntKind.i64 0]) BR5.out 0 (Value.int IntKind.i64 0) rfl) 1 (Value.int IntKind.i64 0) rfl) 2 (Value.string { data := #[] }) rfl) 3 (Value.int IntKind.i64 0) rfl) Try.underlying69 rfl (by kernel_rfl)) rfl ?_
              have hh := HH.out
              simp only [Prod.mk.injEq] at hh
              obtain ⟨rfl, rfl, rfl, rfl, rfl⟩ := hh
              exact ⟨rfl, (below_set (j := 3) (v := Value.int IntKind.i64 0) (below_set (j := 2) (v := Value.string { data := #[] }) (below_set (j := 1) (v := Value.int IntKind.i64 0) (below_set (j := 0) (v := Value.int IntKind.i64 0) HB5.out GR'.out) GR'.out) GR'.out) GR'.out)⟩
            · rw [if_neg (fun h => h.elim (fun h => by first | exact absurd h (by decide) | exact h.elim | simp at h) (fun h => h18 h.2)), Nat.add_sub_cancel' hje] at HH
              have h18' : (e : Int) - (j : Int) ≤ 18 := by omega
              have hno : LX.nOf s 2 j (e - j) = LX.numL 0 ((s.data.toList.drop j).take (e - j)) := by
                unfold LX.nOf
                rw [if_pos rfl, LX.extract_list, Nat.add_sub_cancel_left]
              rw [hno] at HH
              clear hno
              generalize hN : LX.numL 0 ((s.data.toList.drop j).take (e - j)) = N at HH
              have HN := Lib.hid hN
              clear hN
              go_upto_region 13 with (fail)
              go_wp2
              go_loopw [8] (fun v8 wr => ∃ (i : Nat) (v : Int), v8 = .int .i64 (i : Int) ∧ Hid (j ≤ i) ∧ Hid (i ≤ e) ∧ Hid (LX.numL v ((s.data.toList.drop i).take (e - i)) = N) ∧ Hid (wr.heap[gr]? = some (.cells #[Value.int IntKind.i64 0, Value.int IntKind.i64 0, Value.string { data := #[] }, Value.int IntKind.i64 0] 69 (0, 0))) ∧ Hid (wr.heap[gt]? = some (.cells #[Value.int IntKind.i64 0, Value.int IntKind.i64 (j : Int), Value.string { data := #[] }, Value.int IntKind.i64 v] 69 (0, 0))) ∧ Hid (Below w.heap.size w wr)) (fun v8 _ => e - (intOf v8).toNat)
              case atStart => exact ⟨j, 0, rfl, Lib.hid (Nat.le_refl _), Lib.hid hje, HN, BR5, BT5, HB5⟩
              case round =>
                obtain ⟨i, v, rfl, hji, hie, hnum, BR6, BT6, HB6⟩ := hrel
                have hji := hji.out
                have hie := hie.out
                clear BR5 BT5 HB5
                by_cases hi : i < e
                · have his : i < s.size := by omega
                  have hc3 : _ = some (Value.int IntKind.i64 v) := (blk_cell BT6.out 3)
                  have hf3 := blk_frozen BT6.out 3
                  go_upto_region 16 with (fail)
                  go_region
                  have hdg := dig_at s j e i hji hi hes HDE.out
                  have hdi := LX.drop_at s i his
                  have hnum' := hnum.out
                  obtain ⟨q, hq⟩ : ∃ q, e - i = q + 1 := ⟨e - i - 1, by omega⟩
                  have h256 : (((s[i]'his).toNat : Int) - 48) % 256 = ((s[i]'his).toNat : Int) - 48 := Int.emod_eq_of_lt (by omega) (by omega)
                  rw [hdi, hq, List.take_succ_cons, LX.numL, ← h256, show q = e - (i + 1) by omega] at hnum'
                  have HNUM := Lib.hid hnum'
                  clear hnum hnum' hdi hq h256 hdg
                  all_goals
                    go_wp2
                    go_roundw
                    case rel => exact ⟨i + 1, _, by simp, Lib.hid (by omega), Lib.hid (by omega), HNUM, Lib.hid (blk_far BR6.out HNE.out (p := ⟨gt, 3, none⟩) _), Lib.hid (blk_put BT6.out 3 _ rfl), Lib.hid (Below.drew (below_set (j := 3) HB6.out GT.out))⟩
                    case measure => simp [intOf]; omega
                · obtain rfl : i = e := by omega
                  have hv : v = N := by
                    have h := hnum.out
                    rw [Nat.sub_self] at h
                    exact h
                  subst hv
                  have BR5 := BR6
                  have BT5 := BT6
                  have HB5 := HB6
                  clear BR6 BT6 HB6 hnum HN
                  go_upto_region 17 with (fail)
                  have hc0 := (blk_cell BT5.out 0)
                  have hc2 := (blk_cell BT5.out 2)
                  have hf0 := blk_frozen BT5.out 0
                  have hf2 := blk_frozen BT5.out 2
                  go_upto_region 22 with (fail)
                  have BT6 := Lib.hid (blk_put (cs' := #[Value.int IntKind.i64 2, Value.int IntKind.i64 (j : Int), Value.string (s.extract j i), Value.int IntKind.i64 v]) (blk_put (cs' := #[Value.int IntKind.i64 2, Value.int IntKind.i64 (j : Int), Value.string { data := #[] }, Value.int IntKind.i64 v]) BT5.out 0 (.int .i64 2) rfl) 2 (.string (s.extract j i)) rfl)
                  have BR6 := Lib.hid (blk_far (blk_far BR5.out HNE.out (p := ⟨gt, 0, none⟩) (.int .i64 2)) HNE.out (p := ⟨gt, 2, none⟩) (.string (s.extract j i)))
                  have HB6 := Lib.hid (below_set (j := 2) (v := .string (s.extract j i)) (below_set (j := 0) (v := .int .i64 2) HB5.out GT.out) GT.out)
                  generalize s.extract j i = tx at HH BT6 BR6 HB6
                  generalize hW6 : World.setCell (World.setCell _ { block := gt, off := 0 } _) { block := gt, off := 2 } _ = W6 at BT6 BR6 HB6
                  clear hW6 hc0 hc2 hf0 hf2 BT5 BR5 HB5
                  have hc0 := (blk_cell BT6.out 0)
                  have hc1 := (blk_cell BT6.out 1)
                  have hc2 := (blk_cell BT6.out 2)
                  have hc3 := (blk_cell BT6.out 3)
                  have hr0 := (blk_cell BR6.out 0)
                  have hr1 := (blk_cell BR6.out 1)
                  have hr2 := (blk_cell BR6.out 2)
                  have hr3 := (blk_cell BR6.out 3)
                  have hf0 := blk_frozen BR6.out 0
                  have hf1 := blk_frozen BR6.out 1
                  have hf2 := blk_frozen BR6.out 2
                  have hf3 := blk_frozen BR6.out 3
                  go_wp2
                  refine bodyPost_ret (results_ct rfl _ _ gr 69 #[Value.int IntKind.i64 2, Value.int IntKind.i64 (j : Int), Value.string tx, Value.int IntKind.i64 v] (0, 0) _ rfl (blk_put (cs' := #[Value.int IntKind.i64 2, Value.int IntKind.i64 (j : Int), Value.string tx, Value.int IntKind.i64 v]) (blk_put (cs' := #[Value.int IntKind.i64 2, Value.int IntKind.i64 (j : Int), Value.string tx, Value.int IntKind.i64 0]) (blk_put (cs' := #[Value.int IntKind.i64 2, Value.int IntKind.i64 (j : Int), Value.string { data := #[] }, Value.int IntKind.i64 0]) (blk_put (cs' := #[Value.int IntKind.i64 2, Value.int IntKind.i64 0, Value.string { data := #[] }, Value.int IntKind.i64 0]) BR6.out 0 (Value.int IntKind.i64 2) rfl) 1 (Value.int IntKind.i64 (j : Int)) rfl) 2 (Value.string tx) rfl) 3 (Value.int IntKind.i64 v) rfl) Try.underlying69 rfl (by kernel_rfl)) rfl ?_
                  have hh := HH.out
                  simp only [Prod.mk.injEq] at hh
                  obtain ⟨rfl, rfl, rfl, rfl, rfl⟩ := hh
                  exact ⟨rfl, (below_set (j := 3) (v := Value.int IntKind.i64 v) (below_set (j := 2) (v := Value.string tx) (below_set (j := 1) (v := Value.int IntKind.i64 (j : Int)) (below_set (j := 0) (v := Value.int IntKind.i64 2) HB6.out GR'.out) GR'.out) GR'.out) GR'.out)⟩
        · have HRUN : Hid (e = j + LX.runL 2 (s.data.toList.drop j)) := Lib.hid (by
            have h := hrun.out
            rw [LX.drop_end s e he] at h
            exact h)
          have BT5 := BT3
          have BR5 := BR3
          have HB5 := HB3
          clear hrun BT3 BR3 HB3
          go_upto_region 11 with (fail)
          have he' := HRUN.out
          have HDE : Hid (LX.digits (s.extract j e) = true) := Lib.hid (by rw [he']; exact HDA.out)
          have hmm : LX.runL 2 (s.data.toList.drop j) = e - j := by omega
          rw [hmm] at HH
          clear he' HRUN hmm
          by_cases h18 : e - j > 18
          · rw [if_pos (Or.inr ⟨by first | rfl | trivial, h18⟩)] at HH
            have h18' : (18 : Int) < (e : Int) - (j : Int) := by omega
            have hr0 := (blk_cell BR5.out 0)
            have hr1 := (blk_cell BR5.out 1)
            have hr2 := (blk_cell BR5.out 2)
            have hr3 := (blk_cell BR5.out 3)
            have hf0 := blk_frozen BR5.out 0
            have hf1 := blk_frozen BR5.out 1
            have hf2 := blk_frozen BR5.out 2
            have hf3 := blk_frozen BR5.out 3
            go_wp2
            refine bodyPost_ret (results_ct rfl _ _ gr 69 #[Value.int IntKind.i64 0, Value.int IntKind.i64 0, Value.string { data := #[] }, Value.int IntKind.i64 0] (0, 0) _ rfl (blk_put (cs' := #[Value.int IntKind.i64 0, Value.int IntKind.i64 0, Value.string { data := #[] }, Value.int IntKind.i64 0]) (blk_put (cs' := #[Value.int IntKind.i64 0, Value.int IntKind.i64 0, Value.string { data := #[] }, Value.int IntKind.i64 0]) (blk_put (cs' := #[Value.int IntKind.i64 0, Value.int IntKind.i64 0, Value.string { data := #[] }, Value.int IntKind.i64 0]) (blk_put (cs' := #[Value.int IntKind.i64 0, Value.int IntKind.i64 0, Value.string { data := #[] }, Value.int IntKind.i64 0]) BR5.out 0 (Value.int IntKind.i64 0) rfl) 1 (Value.int IntKind.i64 0) rfl) 2 (Value.string { data := #[] }) rfl) 3 (Value.int IntKind.i64 0) rfl) Try.underlying69 rfl (by kernel_rfl)) rfl ?_
            have hh := HH.out
            simp only [Prod.mk.injEq] at hh
            obtain ⟨rfl, rfl, rfl, rfl, rfl⟩ := hh
            exact ⟨rfl, (below_set (j := 3) (v := Value.int IntKind.i64 0) (below_set (j := 2) (v := Value.string { data := #[] }) (below_set (j := 1) (v := Value.int IntKind.i64 0) (below_set (j := 0) (v := Value.int IntKind.i64 0) HB5.out GR'.out) GR'.out) GR'.out) GR'.out)⟩
          · rw [if_neg (fun h => h.elim (fun h => by first | exact absurd h (by decide) | exact h.elim | simp at h) (fun h => h18 h.2)), Nat.add_sub_cancel' hje] at HH
            have h18' : (e : Int) - (j : Int) ≤ 18 := by omega
            have hno : LX.nOf s 2 j (e - j) = LX.numL 0 ((s.data.toList.drop j).take (e - j)) := by
              unfold LX.nOf
              rw [if_pos rfl, LX.extract_list, Nat.add_sub_cancel_left]
            rw [hno] at HH
            clear hno
            generalize hN : LX.numL 0 ((s.data.toList.drop j).take (e - j)) = N at HH
            have HN := Lib.hid hN
            clear hN
            go_upto_region 13 with (fail)
            go_wp2
            go_loopw [8] (fun v8 wr => ∃ (i : Nat) (v : Int), v8 = .int .i64 (i : Int) ∧ Hid (j ≤ i) ∧ Hid (i ≤ e) ∧ Hid (LX.numL v ((s.data.toList.drop i).take (e - i)) = N) ∧ Hid (wr.heap[gr]? = some (.cells #[Value.int IntKind.i64 0, Value.int IntKind.i64 0, Value.string { data := #[] }, Value.int IntKind.i64 0] 69 (0, 0))) ∧ Hid (wr.heap[gt]? = some (.cells #[Value.int IntKind.i64 0, Value.int IntKind.i64 (j : Int), Value.string { data := #[] }, Value.int IntKind.i64 v] 69 (0, 0))) ∧ Hid (Below w.heap.size w wr)) (fun v8 _ => e - (intOf v8).toNat)
            case atStart => exact ⟨j, 0, rfl, Lib.hid (Nat.le_refl _), Lib.hid hje, HN, BR5, BT5, HB5⟩
            case round =>
              obtain ⟨i, v, rfl, hji, hie, hnum, BR6, BT6, HB6⟩ := hrel
              have hji := hji.out
              have hie := hie.out
              clear BR5 BT5 HB5
              by_cases hi : i < e
              · have his : i < s.size := by omega
                have hc3 : _ = some (Value.int IntKind.i64 v) := (blk_cell BT6.out 3)
                have hf3 := blk_frozen BT6.out 3
                go_upto_region 16 with (fail)
                go_region
                have hdg := dig_at s j e i hji hi hes HDE.out
                have hdi := LX.drop_at s i his
                have hnum' := hnum.out
                obtain ⟨q, hq⟩ : ∃ q, e - i = q + 1 := ⟨e - i - 1, by omega⟩
                have h256 : (((s[i]'his).toNat : Int) - 48) % 256 = ((s[i]'his).toNat : Int) - 48 := Int.emod_eq_of_lt (by omega) (by omega)
                rw [hdi, hq, List.take_succ_cons, LX.numL, ← h256, show q = e - (i + 1) by omega] at hnum'
                have HNUM := Lib.hid hnum'
                clear hnum hnum' hdi hq h256 hdg
                all_goals
                  go_wp2
                  go_roundw
                  case rel => exact ⟨i + 1, _, by simp, Lib.hid (by omega), Lib.hid (by omega), HNUM, Lib.hid (blk_far BR6.out HNE.out (p := ⟨gt, 3, none⟩) _), Lib.hid (blk_put BT6.out 3 _ rfl), Lib.hid (Below.drew (below_set (j := 3) HB6.out GT.out))⟩
                  case measure => simp [intOf]; omega
              · obtain rfl : i = e := by omega
                have hv : v = N := by
                  have h := hnum.out
                  rw [Nat.sub_self] at h
                  exact h
                subst hv
                have BR5 := BR6
                have BT5 := BT6
                have HB5 := HB6
                clear BR6 BT6 HB6 hnum HN
                go_upto_region 17 with (fail)
                have hc0 := (blk_cell BT5.out 0)
                have hc2 := (blk_cell BT5.out 2)
                have hf0 := blk_frozen BT5.out 0
                have hf2 := blk_frozen BT5.out 2
                go_upto_region 22 with (fail)
                have BT6 := Lib.hid (blk_put (cs' := #[Value.int IntKind.i64 2, Value.int IntKind.i64 (j : Int), Value.string (s.extract j i), Value.int IntKind.i64 v]) (blk_put (cs' := #[Value.int IntKind.i64 2, Value.int IntKind.i64 (j : Int), Value.string { data := #[] }, Value.int IntKind.i64 v]) BT5.out 0 (.int .i64 2) rfl) 2 (.string (s.extract j i)) rfl)
                have BR6 := Lib.hid (blk_far (blk_far BR5.out HNE.out (p := ⟨gt, 0, none⟩) (.int .i64 2)) HNE.out (p := ⟨gt, 2, none⟩) (.string (s.extract j i)))
                have HB6 := Lib.hid (below_set (j := 2) (v := .string (s.extract j i)) (below_set (j := 0) (v := .int .i64 2) HB5.out GT.out) GT.out)
                generalize s.extract j i = tx at HH BT6 BR6 HB6
                generalize hW6 : World.setCell (World.setCell _ { block := gt, off := 0 } _) { block := gt, off := 2 } _ = W6 at BT6 BR6 HB6
                clear hW6 hc0 hc2 hf0 hf2 BT5 BR5 HB5
                have hc0 := (blk_cell BT6.out 0)
                have hc1 := (blk_cell BT6.out 1)
                have hc2 := (blk_cell BT6.out 2)
                have hc3 := (blk_cell BT6.out 3)
                have hr0 := (blk_cell BR6.out 0)
                have hr1 := (blk_cell BR6.out 1)
                have hr2 := (blk_cell BR6.out 2)
                have hr3 := (blk_cell BR6.out 3)
                have hf0 := blk_frozen BR6.out 0
                have hf1 := blk_frozen BR6.out 1
                have hf2 := blk_frozen BR6.out 2
                have hf3 := blk_frozen BR6.out 3
                go_wp2
                refine bodyPost_ret (results_ct rfl _ _ gr 69 #[Value.int IntKind.i64 2, Value.int IntKind.i64 (j : Int), Value.string tx, Value.int IntKind.i64 v] (0, 0) _ rfl (blk_put (cs' := #[Value.int IntKind.i64 2, Value.int IntKind.i64 (j : Int), Value.string tx, Value.int IntKind.i64 v]) (blk_put (cs' := #[Value.int IntKind.i64 2, Value.int IntKind.i64 (j : Int), Value.string tx, Value.int IntKind.i64 0]) (blk_put (cs' := #[Value.int IntKind.i64 2, Value.int IntKind.i64 (j : Int), Value.string { data := #[] }, Value.int IntKind.i64 0]) (blk_put (cs' := #[Value.int IntKind.i64 2, Value.int IntKind.i64 0, Value.string { data := #[] }, Value.int IntKind.i64 0]) BR6.out 0 (Value.int IntKind.i64 2) rfl) 1 (Value.int IntKind.i64 (j : Int)) rfl) 2 (Value.string tx) rfl) 3 (Value.int IntKind.i64 v) rfl) Try.underlying69 rfl (by kernel_rfl)) rfl ?_
                have hh := HH.out
                simp only [Prod.mk.injEq] at hh
                obtain ⟨rfl, rfl, rfl, rfl, rfl⟩ := hh
                exact ⟨rfl, (below_set (j := 3) (v := Value.int IntKind.i64 v) (below_set (j := 2) (v := Value.string tx) (below_set (j := 1) (v := Value.int IntKind.i64 (j : Int)) (below_set (j := 0) (v := Value.int IntKind.i64 2) HB6.out GR'.out) GR'.out) GR'.out) GR'.out)⟩
    · have hl2' : ∀ wx : World, Calls Try.prog 61 #[.int .u8 ((s[j]'hj).toNat : Int)] wx (fun x w' => x = .returned (.bool false) ∧ Drawn0 wx w') := by
        intro wx
        have := HDIG.out j hj wx
        rwa [decide_eq_false hd2] at this
      have HL2 := Lib.hid hl2'
      clear hl2'
      by_cases hsg : LX.sgn ((s[j]'hj).toNat : Int) = true
      · have hl3' : ∀ wx : World, Calls Try.prog 62 #[.int .u8 ((s[j]'hj).toNat : Int)] wx (fun x w' => x = .returned (.bool true) ∧ Drawn0 wx w') := by
          intro wx
          have := HSGN.out j hj wx
          rwa [hsg] at this
        have HL3 := Lib.hid hl3'
        clear hl3'
        have h128 : ((s[j]'hj).toNat : Int) < 128 := by
          have h := hsg
          unfold LX.sgn at h
          simp only [Bool.or_eq_true, beq_iff_eq] at h
          omega
        have hk : LX.kind ((s[j]'hj).toNat : Int) = 3 := by unfold LX.kind; rw [if_neg hl, if_neg hd2, if_pos ⟨h128, hsg⟩]
        have hm : LX.many s 3 j = 1 := rfl
        rw [hk, if_neg (by omega), hm, show LX.nOf s 3 j 1 = 0 from rfl] at HH
        clear hk hm hsg h128 hl hd2 hby
        go_upto_region 20 with (first | (go_at_call 60; refine (HL1.out _).mono ?_; rintro x w2 ⟨rfl, hdr⟩; have HB2 := Lib.hid (below_step HB.out hdr.below); have BR2 := Lib.hid (blk_below BR.out hdr.below); have BT2 := Lib.hid (blk_below BT.out hdr.below); clear hdr) | (go_at_call 61; refine (HL2.out _).mono ?_; rintro x w3 ⟨rfl, hdr⟩; have HB3 := Lib.hid (below_step HB2.out hdr.below); have BR3 := Lib.hid (blk_below BR2.out hdr.below); have BT3 := Lib.hid (blk_below BT2.out hdr.below); clear hdr) | (go_at_call 62; refine (HL3.out _).mono ?_; rintro x w4 ⟨rfl, hdr⟩; have HB5 := Lib.hid (below_step HB3.out hdr.below); have BR5 := Lib.hid (blk_below BR3.out hdr.below); have BT5 := Lib.hid (blk_below BT3.out hdr.below); clear hdr; clear BT3 BT2 BR3 BR2 HB3 HB2))
        have hc0 := (blk_cell BT5.out 0)
        have hc2 := (blk_cell BT5.out 2)
        have hf0 := blk_frozen BT5.out 0
        have hf2 := blk_frozen BT5.out 2
        go_upto_region 22 with (fail)
        have BT6 := Lib.hid (blk_put (cs' := #[Value.int IntKind.i64 3, Value.int IntKind.i64 (j : Int), Value.string (s.extract j (j + 1)), Value.int IntKind.i64 0]) (blk_put (cs' := #[Value.int IntKind.i64 3, Value.int IntKind.i64 (j : Int), Value.string { data := #[] }, Value.int IntKind.i64 0]) BT5.out 0 (.int .i64 3) rfl) 2 (.string (s.extract j (j + 1))) rfl)
        have BR6 := Lib.hid (blk_far (blk_far BR5.out HNE.out (p := ⟨gt, 0, none⟩) (.int .i64 3)) HNE.out (p := ⟨gt, 2, none⟩) (.string (s.extract j (j + 1))))
        have HB6 := Lib.hid (below_set (j := 2) (v := .string (s.extract j (j + 1))) (below_set (j := 0) (v := .int .i64 3) HB5.out GT.out) GT.out)
        generalize s.extract j (j + 1) = tx at HH BT6 BR6 HB6
        generalize hW6 : World.setCell (World.setCell _ { block := gt, off := 0 } _) { block := gt, off := 2 } _ = W6 at BT6 BR6 HB6
        clear hW6 hc0 hc2 hf0 hf2 BT5 BR5 HB5
        have hc0 := (blk_cell BT6.out 0)
        have hc1 := (blk_cell BT6.out 1)
        have hc2 := (blk_cell BT6.out 2)
        have hc3 := (blk_cell BT6.out 3)
        have hr0 := (blk_cell BR6.out 0)
        have hr1 := (blk_cell BR6.out 1)
        have hr2 := (blk_cell BR6.out 2)
        have hr3 := (blk_cell BR6.out 3)
        have hf0 := blk_frozen BR6.out 0
        have hf1 := blk_frozen BR6.out 1
        have hf2 := blk_frozen BR6.out 2
        have hf3 := blk_frozen BR6.out 3
        go_wp2
        refine bodyPost_ret (results_ct rfl _ _ gr 69 #[Value.int IntKind.i64 3, Value.int IntKind.i64 (j : Int), Value.string tx, Value.int IntKind.i64 0] (0, 0) _ rfl (blk_put (cs' := #[Value.int IntKind.i64 3, Value.int IntKind.i64 (j : Int), Value.string tx, Value.int IntKind.i64 0]) (blk_put (cs' := #[Value.int IntKind.i64 3, Value.int IntKind.i64 (j : Int), Value.string tx, Value.int IntKind.i64 0]) (blk_put (cs' := #[Value.int IntKind.i64 3, Value.int IntKind.i64 (j : Int), Value.string { data := #[] }, Value.int IntKind.i64 0]) (blk_put (cs' := #[Value.int IntKind.i64 3, Value.int IntKind.i64 0, Value.string { data := #[] }, Value.int IntKind.i64 0]) BR6.out 0 (Value.int IntKind.i64 3) rfl) 1 (Value.int IntKind.i64 (j : Int)) rfl) 2 (Value.string tx) rfl) 3 (Value.int IntKind.i64 0) rfl) Try.underlying69 rfl (by kernel_rfl)) rfl ?_
        have hh := HH.out
        simp only [Prod.mk.injEq] at hh
        obtain ⟨rfl, rfl, rfl, rfl, rfl⟩ := hh
        exact ⟨rfl, (below_set (j := 3) (v := Value.int IntKind.i64 0) (below_set (j := 2) (v := Value.string tx) (below_set (j := 1) (v := Value.int IntKind.i64 (j : Int)) (below_set (j := 0) (v := Value.int IntKind.i64 3) HB6.out GR'.out) GR'.out) GR'.out) GR'.out)⟩
      · have hl3' : ∀ wx : World, Calls Try.prog 62 #[.int .u8 ((s[j]'hj).toNat : Int)] wx (fun x w' => x = .returned (.bool false) ∧ Drawn0 wx w') := by
          intro wx
          have := HSGN.out j hj wx
          rwa [Bool.eq_false_iff.2 hsg] at this
        have HL3 := Lib.hid hl3'
        clear hl3'
        have hk : LX.kind ((s[j]'hj).toNat : Int) = 0 := by unfold LX.kind; rw [if_neg hl, if_neg hd2, if_neg (fun h => hsg h.2)]
        rw [hk, if_pos (Or.inl rfl)] at HH
        clear hk hsg hl hd2 hby
        go_wp2_with (first | (go_at_call 60; refine (HL1.out _).mono ?_; rintro x w2 ⟨rfl, hdr⟩; have HB2 := Lib.hid (below_step HB.out hdr.below); have BR2 := Lib.hid (blk_below BR.out hdr.below); have BT2 := Lib.hid (blk_below BT.out hdr.below); clear hdr) | (go_at_call 61; refine (HL2.out _).mono ?_; rintro x w3 ⟨rfl, hdr⟩; have HB3 := Lib.hid (below_step HB2.out hdr.below); have BR3 := Lib.hid (blk_below BR2.out hdr.below); have BT3 := Lib.hid (blk_below BT2.out hdr.below); clear hdr) | (go_at_call 62; refine (HL3.out _).mono ?_; rintro x w4 ⟨rfl, hdr⟩; have HB5 := Lib.hid (below_step HB3.out hdr.below); have BR5 := Lib.hid (blk_below BR3.out hdr.below); have BT5 := Lib.hid (blk_below BT3.out hdr.below); clear hdr; have hr0 := (blk_cell BR5.out 0); have hr1 := (blk_cell BR5.out 1); have hr2 := (blk_cell BR5.out 2); have hr3 := (blk_cell BR5.out 3); have hf0 := blk_frozen BR5.out 0; have hf1 := blk_frozen BR5.out 1; have hf2 := blk_frozen BR5.out 2; have hf3 := blk_frozen BR5.out 3))
        refine bodyPost_ret (results_ct rfl _ _ gr 69 #[Value.int IntKind.i64 0, Value.int IntKind.i64 0, Value.string { data := #[] }, Value.int IntKind.i64 0] (0, 0) _ rfl (blk_put (cs' := #[Value.int IntKind.i64 0, Value.int IntKind.i64 0, Value.string { data := #[] }, Value.int IntKind.i64 0]) (blk_put (cs' := #[Value.int IntKind.i64 0, Value.int IntKind.i64 0, Value.string { data := #[] }, Value.int IntKind.i64 0]) (blk_put (cs' := #[Value.int IntKind.i64 0, Value.int IntKind.i64 0, Value.string { data := #[] }, Value.int IntKind.i64 0]) (blk_put (cs' := #[Value.int IntKind.i64 0, Value.int IntKind.i64 0, Value.string { data := #[] }, Value.int IntKind.i64 0]) BR5.out 0 (Value.int IntKind.i64 0) rfl) 1 (Value.int IntKind.i64 0) rfl) 2 (Value.string { data := #[] }) rfl) 3 (Value.int IntKind.i64 0) rfl) Try.underlying69 rfl (by kernel_rfl)) rfl ?_
        have hh := HH.out
        simp only [Prod.mk.injEq] at hh
        obtain ⟨rfl, rfl, rfl, rfl, rfl⟩ := hh
        exact ⟨rfl, (below_set (j := 3) (v := Value.int IntKind.i64 0) (below_set (j := 2) (v := Value.string { data := #[] }) (below_set (j := 1) (v := Value.int IntKind.i64 0) (below_set (j := 0) (v := Value.int IntKind.i64 0) HB5.out GR'.out) GR'.out) GR'.out) GR'.out)⟩


def octroiref30_one.f (a0 : ByteArray) (a1 : Int) : Option (Int × Int × ByteArray × Int × Int) := if 0 ≤ a1 ∧ a1 < a0.size ∧ a0.size ≤ 65536 then some (oneS a0 a1.toNat) else none
theorem octroiref30_one.calls (a0 : ByteArray) (a1 : Int) (r1 : Int) (r2 : Int) (r3 : ByteArray) (r4 : Int) (r5 : Int) (w : World) (h : octroiref30_one.f a0 a1 = some (r1, r2, r3, r4, r5)) :
    Calls Try.prog 51 #[.string a0, .int .i64 a1] w fun e w' => e = .returned (.tuple #[.agg #[.int .i64 r1, .int .i64 r2, .string r3, .int .i64 r4], .int .i64 r5]) ∧ Below w.heap.size w w' := by
  unfold octroiref30_one.f at h
  split at h
  · rename_i hb
    have e : ((a1.toNat : Nat) : Int) = a1 := by omega
    have := one_walk a0 a1.toNat (by omega) hb.2.2 r1 r2 r3 r4 r5 w (Option.some.inj h)
    rw [e] at this
    exact this
  · exact absurd h (by simp)

/-! ### octroiref30_Lex: function 32 -/
def octroiref30_Lex.l0 : Nat → ByteArray → List (S69) → Int → Option ((List (S69)) × Int × Int)
  | 0, _, _, _ => none
  | k + 1, x0, x5, x6 => if x6 < (x0.size : Int) then ((octroiref30_one.f x0 x6).bind fun bt111 => (if bt111.2.2.2.2 = 0 then (if x5.length < 3518437208883 then ((octroiref30_skip.f k x0 (wrap64 (x6 + (bt111.2.2.1.size : Int)))).bind fun t120 => (octroiref30_Lex.l0 k x0 (x5 ++ [(⟨bt111.1, bt111.2.1, bt111.2.2.1, bt111.2.2.2.1⟩ : S69)]) t120)) else (none)) else (some (([] : List (S69)), x6, bt111.2.2.2.2)))) else (some (x5, 0, 0))
def octroiref30_Lex.f (k : Nat) (a0 : ByteArray) : Option ((List (S69)) × Int × Int) := if (a0.size : Int) > 65536 then (some (([] : List (S69)), 0, 11)) else ((octroiref30_skip.f k a0 0).bind fun t110 => (octroiref30_Lex.l0 k a0 ([] : List (S69)) t110))
theorem octroiref30_Lex.mono_l : ∀ k, (∀ y0 y1 y2, LeO (octroiref30_Lex.l0 k y0 y1 y2) (octroiref30_Lex.l0 (k + 1) y0 y1 y2))
  | 0 => fun _ _ _ r h => by simp [octroiref30_Lex.l0] at h
  | k + 1 => by
    have ih0 := octroiref30_Lex.mono_l k
    · intro y0 y1 y2
      unfold octroiref30_Lex.l0
      repeat' first
      | (with_reducible exact ih0 _ _ _)
      | (with_reducible exact octroiref30_skip.mono _ _ _)
      | (with_reducible exact LeO.refl _)
      | (with_reducible exact LeO.none _)
      | (with_reducible refine LeO.ite ?_ ?_)
      | (with_reducible refine LeO.bind ?_ (fun _ => ?_))
      | exact ih0 _ _ _
      | exact octroiref30_skip.mono _ _ _
      | exact LeO.none _
      | refine LeO.ite ?_ ?_
      | refine LeO.bind ?_ (fun _ => ?_)
theorem octroiref30_Lex.mono : ∀ a0 k, LeO (octroiref30_Lex.f k a0) (octroiref30_Lex.f (k + 1) a0) := by
  intro a0 k
  have ih0 := octroiref30_Lex.mono_l k
  unfold octroiref30_Lex.f
  repeat' first
      | (with_reducible exact ih0 _ _ _)
      | (with_reducible exact octroiref30_skip.mono _ _ _)
      | (with_reducible exact LeO.refl _)
      | (with_reducible exact LeO.none _)
      | (with_reducible refine LeO.ite ?_ ?_)
      | (with_reducible refine LeO.bind ?_ (fun _ => ?_))
      | exact ih0 _ _ _
      | exact octroiref30_skip.mono _ _ _
      | exact LeO.none _
      | refine LeO.ite ?_ ?_
      | refine LeO.bind ?_ (fun _ => ?_)
set_option maxHeartbeats 8000000 in
set_option maxRecDepth 100000 in
theorem octroiref30_Lex.calls (k : Nat) (a0 : ByteArray) (r1 : List (S69)) (r2 : Int) (r3 : Int) (w : World) (h : octroiref30_Lex.f k a0 = some (r1, r2, r3)) :
    Calls Try.prog 32 #[.string a0] w fun e w' => ∃ v0_ : Value, e = .returned (.tuple #[v0_, .int .i64 r2, .int .i64 r3]) ∧ Kd.R k69 69 w' w.heap.size (fun _ => True) v0_ r1 ∧ Below w.heap.size w w' := by
  have hu69 := Try.underlying69
  have HB := Aside0.mk (Below.refl w.heap.size w)
  have H : (if (a0.size : Int) > 65536 then (some (([] : List (S69)), 0, 11)) else ((octroiref30_skip.f k a0 0).bind fun t110 => (octroiref30_Lex.l0 k a0 ([] : List (S69)) t110))) = some (r1, r2, r3) := h
  clear h
  by_cases c2 : (a0.size : Int) > 65536
  · rw [if_pos c2] at H
    have c2b0 : decide (65536 < (a0.size : Int)) = true := decide_eq_true c2
    have c2b1 : decide (65536 < a0.size) = true := decide_eq_true (by omega)
    clear c2
    simp only [Option.some.injEq, Prod.mk.injEq] at H
    obtain ⟨rfl, rfl, rfl⟩ := H
    go_enter Try.func32, Try.ntmps32
    go_wp2
    go_ret3
    exact ⟨_, by first | rfl | (simp [errW_none, errW_some] <;> rfl) | (simp [*, errW_none, errW_some] <;> rfl), by first | exact Kd.R_nil _ _ _ _ _ | exact Kd.N_nil _ _ _ _ _ | exact Kd.V_nil _ _ _ _ _ | exact Kd.Q_nil _ _ _ _ _ | exact Kd.S_nil _ _ _ _ _, by repeat (first | (with_reducible first | exact HB.out | apply below_alloc | apply pw_below_drewN | apply below_drew1) | exact HB.out)⟩
  · rw [if_neg c2] at H
    have c2b0 : decide (65536 < (a0.size : Int)) = false := decide_eq_false c2
    have c2b1 : decide (65536 < a0.size) = false := decide_eq_false (by omega)
    clear c2
    replace H := Option.bind_eq_some_iff.mp H
    obtain ⟨t110, A30, H⟩ := H
    replace H : (octroiref30_Lex.l0 k a0 ([] : List (S69)) t110) = some (r1, r2, r3) := H
    have A3 := Aside0.mk A30
    clear A30
    have H' := Aside0.mk H
    clear H
    go_enter Try.func32, Try.ntmps32
    go_wp2_with (first | ((with_reducible refine gate_callee (f := 50) rfl ?_); refine goesL_ (some 13) rfl rfl Try.func50 (by kernel_rfl) rfl #[.string a0, .int .i64 0] rfl (by (try simp only [List.map_toArray, List.map_cons, List.map_nil]); first | done | rfl | (simp only [List.length_drop, List.length_take]; rfl)) ?_; (with_reducible refine (octroiref30_skip.calls k a0 0 t110 _ A3.out).mono ?_); rintro e w' ⟨rfl, ⟨nd, rfl⟩⟩; refine ⟨_, rfl, ?_⟩))
    go_loopg [5, 6] k (fun kq v5 v6 w' => ∃ (x5_1 : List (S69)) (x6_1 : Int), v6 = .int .i64 x6_1 ∧ Aside0 (octroiref30_Lex.l0 kq a0 x5_1 x6_1 = some (r1, r2, r3)) ∧ Aside0 (kq ≤ k) ∧ Aside0 (Kd.R k69 69 w' w.heap.size (fun _ => True) v5 x5_1) ∧ Aside0 (Below w.heap.size w w'))
    case atStart => exact ⟨(([] : List (S69))), (t110), (by first | rfl | (simp; done) | (simp [*]; done)), H', ⟨Nat.le_refl _⟩, ⟨by first | exact Kd.R_nil _ _ _ _ _ | exact Kd.N_nil _ _ _ _ _ | exact Kd.V_nil _ _ _ _ _ | exact Kd.Q_nil _ _ _ _ _ | exact Kd.S_nil _ _ _ _ _⟩, ⟨by repeat (first | (with_reducible first | exact HB.out | apply below_alloc | apply pw_below_drewN | apply below_drew1) | exact HB.out)⟩⟩
    case round =>
      clear H'
      try clear c2
      try clear c2b0
      try clear c2b1
      try clear p2
      try clear c3
      obtain ⟨x5_1, x6_1, rfl, HA, HK1, HO_5, HB⟩ := hrel
      cases gk with
      | zero => exact absurd HA.out (by simp [octroiref30_Lex.l0])
      | succ k1 =>
        have H := HA.out
        clear HA
        simp only [octroiref30_Lex.l0] at H
        by_cases c4 : x6_1 < (a0.size : Int)
        · rw [if_pos c4] at H
          have c4b0 : decide (x6_1 < (a0.size : Int)) = true := decide_eq_true c4
          clear c4
          replace H := Option.bind_eq_some_iff.mp H
          obtain ⟨⟨t111, t112, t113, t114, t115⟩, A50, H⟩ := H
          replace H : (if t115 = 0 then (if x5_1.length < 3518437208883 then ((octroiref30_skip.f k1 a0 (wrap64 (x6_1 + (t113.size : Int)))).bind fun t120 => (octroiref30_Lex.l0 k1 a0 (x5_1 ++ [(⟨t111, t112, t113, t114⟩ : S69)]) t120)) else (none)) else (some (([] : List (S69)), x6_1, t115))) = some (r1, r2, r3) := H
          have A5 := Aside0.mk A50
          clear A50
          by_cases c6 : t115 = 0
          · rw [if_pos c6] at H
            have c6b0 : (t115 == 0) = true := beq_iff_eq.mpr c6
            have c6b1 : (t115 != 0) = false := bne_eq_false_iff_eq.mpr c6
            clear c6
            by_cases c7 : x5_1.length < 3518437208883
            · rw [if_pos c7] at H
              have LMc7 := Aside0.mk c7
              clear c7
              obtain ⟨y117, hy117⟩ : ∃ y_ : List (S69), y_ = (x5_1 ++ [(⟨t111, t112, t113, t114⟩ : S69)]) := ⟨_, rfl⟩
              replace H : ((octroiref30_skip.f k1 a0 (wrap64 (x6_1 + (t113.size : Int)))).bind fun t120 => (octroiref30_Lex.l0 k1 a0 y117 t120)) = some (r1, r2, r3) := by first | (rw [hy117]; with_reducible exact H) | (have H2_ := (Option.bind_some _ _).symm.trans H; rw [hy117]; with_reducible exact H2_) | (have H2_ := (Option.bind_some _ _).symm.trans H; with_reducible exact H2_) | with_reducible exact H | (rw [hy117]; exact H) | exact H
              have Ny117 := Aside0.mk hy117
              clear hy117
              replace H := Option.bind_eq_some_iff.mp H
              obtain ⟨t120, A80, H⟩ := H
              replace H : (octroiref30_Lex.l0 k1 a0 y117 t120) = some (r1, r2, r3) := H
              have A8 := Aside0.mk A80
              clear A80
              have H' := Aside0.mk H
              clear H
              go_wp2_with (first | ((with_reducible refine gate_callee (f := 51) rfl ?_); refine goesL_ (some 21) rfl rfl Try.func51 (by kernel_rfl) rfl #[.string a0, .int .i64 x6_1] rfl (by (try simp only [List.map_toArray, List.map_cons, List.map_nil]); first | done | rfl | (simp only [List.length_drop, List.length_take]; rfl)) ?_; (with_reducible refine (octroiref30_one.calls a0 x6_1 t111 t112 t113 t114 t115 _ A5.out).mono ?_); rintro e w9 ⟨rfl, hb⟩; refine ⟨_, rfl, ?_⟩; have n0_ := Aside0.mk (Kd.R_below (by (with_reducible repeat (first | apply Kd.R_alloc | apply Kd.R_drewN | apply Kd.R_drew)); exact HO_5.out) hb); have n1_ := Aside0.mk (below_step (by repeat (first | (with_reducible first | exact HB.out | apply below_alloc | apply pw_below_drewN | apply below_drew1) | exact HB.out)) hb); clear HO_5; clear HB; have HO_5 := n0_; have HB := n1_; clear n0_ n1_; (try clear hb); (try clear hb2); (try clear hk); (try clear hi)) | ((with_reducible refine gate_dst (N := 7) rfl ?_); refine box_event ?hg (N := 7) ?hd (cs := #[.int .i64 0, .int .i64 0, .string (⟨#[]⟩ : ByteArray), .int .i64 0]) (t := 69) ?hr ?_; (case hd => rfl); (case hg => rfl); (case hr => first | (go_simp; done) | (go_simp; rfl)); intro gb116 hg w10 hbox hb; have n0_ := Aside0.mk (Kd.R_below (Kd.R_elderB (by (with_reducible repeat (first | apply Kd.R_alloc | apply Kd.R_drewN | apply Kd.R_drew)); exact HO_5.out) gb116 (Nat.le_of_eq hg.symm)) hb); have n1_ := Aside0.mk (below_step (by repeat (first | (with_reducible first | exact HB.out | apply below_alloc | apply pw_below_drewN | apply below_drew1) | exact HB.out)) hb); have n2_ := Aside0.mk (hbox); have n3_ := Aside0.mk ((by rw [hg]; exact (below_size (by repeat (first | (with_reducible first | exact HB.out | apply below_alloc | apply pw_below_drewN | apply below_drew1) | exact HB.out))) : w.heap.size ≤ gb116)); have n4_ := Aside0.mk ((by rw [hg]; exact (below_size (by repeat (first | (with_reducible first | exact HB.out | apply below_alloc | apply pw_below_drewN | apply below_drew1) | exact HB.out))) : w.heap.size ≤ gb116)); clear HO_5; clear HB; have HO_5 := n0_; have HB := n1_; have BK116 := n2_; have GW116 := n3_; have GE116 := n4_; clear n0_ n1_ n2_ n3_ n4_; clear hb hbox hg; have hcz11_0 : w10.cell? ⟨gb116, 0, none⟩ = some (.int .i64 0) := (blk_cell BK116.out 0).trans rfl; have hcz11_1 : w10.cell? ⟨gb116, 1, none⟩ = some (.int .i64 0) := (blk_cell BK116.out 1).trans rfl; have hcz11_2 : w10.cell? ⟨gb116, 2, none⟩ = some (.string (⟨#[]⟩ : ByteArray)) := (blk_cell BK116.out 2).trans rfl; have hcz11_3 : w10.cell? ⟨gb116, 3, none⟩ = some (.int .i64 0) := (blk_cell BK116.out 3).trans rfl; have hfz11_0 := blk_frozen BK116.out 0; have hfz11_1 := blk_frozen BK116.out 1; have hfz11_2 := blk_frozen BK116.out 2; have hfz11_3 := blk_frozen BK116.out 3) | ((with_reducible refine gate_builtin (b := .append) (xs := #[.tmp 28, .tmp 30]) rfl ?_); at_builtin; refine Kd.R_append k69 (w0 := w) w.heap.size rfl (.tmp 28) (.tmp 30) 48 69 (.agg #[(.int .i64 0), (.int .i64 0), (.string ⟨#[]⟩), (.int .i64 0)]) 40 rfl Try.underlying48 info69 rfl (by decide) (by omega) u5 x5_1 (⟨t111, t112, t113, t114⟩ : S69) [.int .i64 t111, .int .i64 t112, .string t113, .int .i64 t114] (fun k_ => k_ ≠ gb116) (fun _ => False) rfl (by first | (go_simp; done) | (go_simp; rfl)) ?aP (fun _ hk => hk.elim) ?aF ?aO ?aB ?aS ?aL ?_; (case aP => exact k69_mkM _ _ _ (⟨t111, t112, t113, t114⟩ : S69)); (case aB => exact (by repeat (first | (with_reducible first | exact HB.out | apply below_alloc | apply pw_below_drewN | apply below_drew1 | refine below_set ?_ GE116.out) | exact HB.out))); (case aF => exact (fun k_ hk => Kd.freshB (g := gb116) (o := .cells #[.int .i64 t111, .int .i64 t112, .string t113, .int .i64 t114] 69 (0, 0)) (by (with_reducible repeat (first | refine blk_drewN ?_ _ | refine blk_drew ?_ | refine blk_alloc ?_ _)); refine blk_put (cs := #[.int .i64 t111, .int .i64 t112, .string t113, .int .i64 0]) ?_ 3 _ rfl; (with_reducible repeat (first | refine blk_drewN ?_ _ | refine blk_drew ?_ | refine blk_alloc ?_ _)); refine blk_put (cs := #[.int .i64 t111, .int .i64 t112, .string (⟨#[]⟩ : ByteArray), .int .i64 0]) ?_ 2 _ rfl; (with_reducible repeat (first | refine blk_drewN ?_ _ | refine blk_drew ?_ | refine blk_alloc ?_ _)); refine blk_put (cs := #[.int .i64 t111, .int .i64 0, .string (⟨#[]⟩ : ByteArray), .int .i64 0]) ?_ 1 _ rfl; (with_reducible repeat (first | refine blk_drewN ?_ _ | refine blk_drew ?_ | refine blk_alloc ?_ _)); refine blk_put (cs := #[.int .i64 0, .int .i64 0, .string (⟨#[]⟩ : ByteArray), .int .i64 0]) ?_ 0 _ rfl; (with_reducible repeat (first | refine blk_drewN ?_ _ | refine blk_drew ?_ | refine blk_alloc ?_ _)); exact BK116.out) k_ hk)); (case aO => exact (by (with_reducible repeat (first | apply Kd.R_alloc | apply Kd.R_drewN | apply Kd.R_drew)); exact Kd.R_mono (Kd.R_far (p := ⟨gb116, 3, none⟩) (Kd.R_far (p := ⟨gb116, 2, none⟩) (Kd.R_far (p := ⟨gb116, 1, none⟩) (Kd.R_far (p := ⟨gb116, 0, none⟩) (Kd.R_mono HO_5.out (fun k_ hk => (⟨hk, hk.2⟩ : _ ∧ k_ ≠ gb116))) (fun _ hk => hk.2) (.int .i64 t111)) (fun _ hk => hk.2) (.int .i64 t112)) (fun _ hk => hk.2) (.string t113)) (fun _ hk => hk.2) (.int .i64 t114)) (fun _ hk => hk.1.2))); (case aS => exact (below_size (by repeat (first | (with_reducible first | exact HB.out | apply below_alloc | apply pw_below_drewN | apply below_drew1 | refine below_set ?_ GE116.out) | exact HB.out)))); (case aL => have := LMc7.out; omega); intro v118 w12 ho hb hg hat; rw [← Ny117.out] at ho; have n0_ := Aside0.mk (blk_grown (g := gb116) (o := .cells #[.int .i64 t111, .int .i64 t112, .string t113, .int .i64 t114] 69 (0, 0)) (by (with_reducible repeat (first | refine blk_drewN ?_ _ | refine blk_drew ?_ | refine blk_alloc ?_ _)); refine blk_put (cs := #[.int .i64 t111, .int .i64 t112, .string t113, .int .i64 0]) ?_ 3 _ rfl; (with_reducible repeat (first | refine blk_drewN ?_ _ | refine blk_drew ?_ | refine blk_alloc ?_ _)); refine blk_put (cs := #[.int .i64 t111, .int .i64 t112, .string (⟨#[]⟩ : ByteArray), .int .i64 0]) ?_ 2 _ rfl; (with_reducible repeat (first | refine blk_drewN ?_ _ | refine blk_drew ?_ | refine blk_alloc ?_ _)); refine blk_put (cs := #[.int .i64 t111, .int .i64 0, .string (⟨#[]⟩ : ByteArray), .int .i64 0]) ?_ 1 _ rfl; (with_reducible repeat (first | refine blk_drewN ?_ _ | refine blk_drew ?_ | refine blk_alloc ?_ _)); refine blk_put (cs := #[.int .i64 0, .int .i64 0, .string (⟨#[]⟩ : ByteArray), .int .i64 0]) ?_ 0 _ rfl; (with_reducible repeat (first | refine blk_drewN ?_ _ | refine blk_drew ?_ | refine blk_alloc ?_ _)); exact BK116.out) hg (Kd.R_away HO_5.out (fun _ hk => hk.2))); have n1_ := Aside0.mk (hb); have n2_ := Aside0.mk (ho); clear BK116; clear HB; clear HO_5; have BK116 := n0_; have HB := n1_; have HO119 := n2_; clear n0_ n1_ n2_; clear ho hb hg hat; have hcz13_0 : w12.cell? ⟨gb116, 0, none⟩ = some (.int .i64 t111) := (blk_cell BK116.out 0).trans rfl; have hcz13_1 : w12.cell? ⟨gb116, 1, none⟩ = some (.int .i64 t112) := (blk_cell BK116.out 1).trans rfl; have hcz13_2 : w12.cell? ⟨gb116, 2, none⟩ = some (.string t113) := (blk_cell BK116.out 2).trans rfl; have hcz13_3 : w12.cell? ⟨gb116, 3, none⟩ = some (.int .i64 t114) := (blk_cell BK116.out 3).trans rfl; have hfz13_0 := blk_frozen BK116.out 0; have hfz13_1 := blk_frozen BK116.out 1; have hfz13_2 := blk_frozen BK116.out 2; have hfz13_3 := blk_frozen BK116.out 3) | ((with_reducible refine gate_callee (f := 50) rfl ?_); refine goesL_ (some 38) rfl rfl Try.func50 (by kernel_rfl) rfl #[.string a0, .int .i64 (wrap64 (x6_1 + (t113.size : Int)))] rfl (by (try simp only [List.map_toArray, List.map_cons, List.map_nil]); first | done | rfl | (simp only [List.length_drop, List.length_take]; rfl)) ?_; (with_reducible refine (octroiref30_skip.calls k1 a0 (wrap64 (x6_1 + (t113.size : Int))) t120 _ A8.out).mono ?_); rintro e w' ⟨rfl, ⟨nd, rfl⟩⟩; refine ⟨_, rfl, ?_⟩))
              go_roundg k1
              case measure => have := HK1.out; omega
              case rel => exact ⟨(y117), (t120), (by first | rfl | (simp; done) | (simp [*]; done)), H', ⟨by have := HK1.out; omega⟩, ⟨by (with_reducible repeat (first | apply Kd.R_alloc | apply Kd.R_drewN | apply Kd.R_drew)); exact Kd.R_mono HO119.out (fun _ hk => trivial)⟩, ⟨by repeat (first | (with_reducible first | exact HB.out | apply below_alloc | apply pw_below_drewN | apply below_drew1 | refine below_set ?_ GE116.out) | exact HB.out)⟩⟩
            · rw [if_neg c7] at H
              exact absurd H (by simp)
          · rw [if_neg c6] at H
            have c6b0 : (t115 == 0) = false := beq_eq_false_iff_ne.mpr c6
            have c6b1 : (t115 != 0) = true := bne_iff_ne.mpr c6
            simp only [Option.some.injEq, Prod.mk.injEq] at H
            obtain ⟨rfl, rfl, rfl⟩ := H
            go_wp2_with (first | ((with_reducible refine gate_callee (f := 51) rfl ?_); refine goesL_ (some 21) rfl rfl Try.func51 (by kernel_rfl) rfl #[.string a0, .int .i64 x6_1] rfl (by (try simp only [List.map_toArray, List.map_cons, List.map_nil]); first | done | rfl | (simp only [List.length_drop, List.length_take]; rfl)) ?_; (with_reducible refine (octroiref30_one.calls a0 x6_1 t111 t112 t113 t114 t115 _ A5.out).mono ?_); rintro e w14 ⟨rfl, hb⟩; refine ⟨_, rfl, ?_⟩; have n0_ := Aside0.mk (Kd.R_below (by (with_reducible repeat (first | apply Kd.R_alloc | apply Kd.R_drewN | apply Kd.R_drew)); exact HO_5.out) hb); have n1_ := Aside0.mk (below_step (by repeat (first | (with_reducible first | exact HB.out | apply below_alloc | apply pw_below_drewN | apply below_drew1) | exact HB.out)) hb); clear HO_5; clear HB; have HO_5 := n0_; have HB := n1_; clear n0_ n1_; (try clear hb); (try clear hb2); (try clear hk); (try clear hi)) | ((with_reducible refine gate_dst (N := 7) rfl ?_); refine box_event ?hg (N := 7) ?hd (cs := #[.int .i64 0, .int .i64 0, .string (⟨#[]⟩ : ByteArray), .int .i64 0]) (t := 69) ?hr ?_; (case hd => rfl); (case hg => rfl); (case hr => first | (go_simp; done) | (go_simp; rfl)); intro gb116 hg w15 hbox hb; have n0_ := Aside0.mk (Kd.R_below (Kd.R_elderB (by (with_reducible repeat (first | apply Kd.R_alloc | apply Kd.R_drewN | apply Kd.R_drew)); exact HO_5.out) gb116 (Nat.le_of_eq hg.symm)) hb); have n1_ := Aside0.mk (below_step (by repeat (first | (with_reducible first | exact HB.out | apply below_alloc | apply pw_below_drewN | apply below_drew1) | exact HB.out)) hb); have n2_ := Aside0.mk (hbox); have n3_ := Aside0.mk ((by rw [hg]; exact (below_size (by repeat (first | (with_reducible first | exact HB.out | apply below_alloc | apply pw_below_drewN | apply below_drew1) | exact HB.out))) : w.heap.size ≤ gb116)); have n4_ := Aside0.mk ((by rw [hg]; exact (below_size (by repeat (first | (with_reducible first | exact HB.out | apply below_alloc | apply pw_below_drewN | apply below_drew1) | exact HB.out))) : w.heap.size ≤ gb116)); clear HO_5; clear HB; have HO_5 := n0_; have HB := n1_; have BK116 := n2_; have GW116 := n3_; have GE116 := n4_; clear n0_ n1_ n2_ n3_ n4_; clear hb hbox hg; have hcz16_0 : w15.cell? ⟨gb116, 0, none⟩ = some (.int .i64 0) := (blk_cell BK116.out 0).trans rfl; have hcz16_1 : w15.cell? ⟨gb116, 1, none⟩ = some (.int .i64 0) := (blk_cell BK116.out 1).trans rfl; have hcz16_2 : w15.cell? ⟨gb116, 2, none⟩ = some (.string (⟨#[]⟩ : ByteArray)) := (blk_cell BK116.out 2).trans rfl; have hcz16_3 : w15.cell? ⟨gb116, 3, none⟩ = some (.int .i64 0) := (blk_cell BK116.out 3).trans rfl; have hfz16_0 := blk_frozen BK116.out 0; have hfz16_1 := blk_frozen BK116.out 1; have hfz16_2 := blk_frozen BK116.out 2; have hfz16_3 := blk_frozen BK116.out 3))
            go_ret3
            exact ⟨_, by first | rfl | (simp [errW_none, errW_some] <;> rfl) | (simp [*, errW_none, errW_some] <;> rfl), by first | exact Kd.R_nil _ _ _ _ _ | exact Kd.N_nil _ _ _ _ _ | exact Kd.V_nil _ _ _ _ _ | exact Kd.Q_nil _ _ _ _ _ | exact Kd.S_nil _ _ _ _ _, by repeat (first | (with_reducible first | exact HB.out | apply below_alloc | apply pw_below_drewN | apply below_drew1 | refine below_set ?_ GE116.out) | exact HB.out)⟩
        · rw [if_neg c4] at H
          have c4b0 : decide (x6_1 < (a0.size : Int)) = false := decide_eq_false c4
          clear c4
          simp only [Option.some.injEq, Prod.mk.injEq] at H
          obtain ⟨rfl, rfl, rfl⟩ := H
          go_wp2
          go_ret3
          exact ⟨_, by first | rfl | (simp [errW_none, errW_some] <;> rfl) | (simp [*, errW_none, errW_some] <;> rfl), by (with_reducible repeat (first | apply Kd.R_alloc | apply Kd.R_drewN | apply Kd.R_drew)); exact HO_5.out, by repeat (first | (with_reducible first | exact HB.out | apply below_alloc | apply pw_below_drewN | apply below_drew1) | exact HB.out)⟩

end Go.Proofs.Ytejmbnahdkgpmaa.XLexerCovers
