-- WRITTEN BY wip/xprint.py (my own wrapper round the print, with contracts of my own in it)
import Derived.Test.YtejmbnahdkgpmaaXLexerCoversx0
namespace Go.Proofs.Ytejmbnahdkgpmaa.XLexerCovers
open Go.RowKit Go.Proofs.YtejmbnahdkgpmaaW.PrintWords Go.Proofs.YtejmbnahdkgpmaaW.PrintLast Go.Proofs.YtejmbnahdkgpmaaW.PrintMore
attribute [local go_sem] max2_int min2_int max_two min_two max_three min_three max_four min_four   -- for this text's walks alone
set_option linter.unusedVariables false
set_option linter.unusedSimpArgs false

-- NOT PRINTED: function 46 (lexer_gap)

-- NOT PRINTED: function 68 (bytealg_IndexByteString)

-- NOT PRINTED: function 65 (stringslite_IndexByte)

-- NOT PRINTED: function 58 (strings_IndexByte)

-- NOT PRINTED: function 47 (lexer_kind)

-- NOT PRINTED: function 48 (lexer_run)

-- NOT PRINTED: function 49 (lexer_number)

/-! ### lexer_Lex: function 31 (by hand) -/
def mk57 (t : LX.Tok) : S57 := ⟨t.1, t.2.1, t.2.2.1, t.2.2.2⟩
theorem infoT57 : (Try.prog.info? 57).map (fun i => (i.zero, i.size, i.bytes)) = some (some (.agg #[(.int .i64 0), (.int .i64 0), (.string ⟨#[]⟩), (.int .i64 0)]), 4, 40) := by kernel_rfl
/-- The frame of lexer.Lex: the text, the tokens so far, the place; whatever else. -/
def Frm (a0 : ByteArray) (v : Value) (at_ : Int) (a : Act) : Prop :=
  a.defers = [] ∧ a.tmps.size = 65 ∧ a.tmps.getD 0 undef = .string a0 ∧ a.tmps.getD 2 undef = v ∧ a.tmps.getD 3 undef = .int .i64 at_
theorem ofFn65 (f : Nat → Value) : Array.ofFn (n := 65) (fun k => f k.val) = #[f 0, f 1, f 2, f 3, f 4, f 5, f 6, f 7, f 8, f 9, f 10, f 11, f 12, f 13, f 14, f 15, f 16, f 17, f 18, f 19, f 20, f 21, f 22, f 23, f 24, f 25, f 26, f 27, f 28, f 29, f 30, f 31, f 32, f 33, f 34, f 35, f 36, f 37, f 38, f 39, f 40, f 41, f 42, f 43, f 44, f 45, f 46, f 47, f 48, f 49, f 50, f 51, f 52, f 53, f 54, f 55, f 56, f 57, f 58, f 59, f 60, f 61, f 62, f 63, f 64] := by
  rw [← Array.toList_inj, Array.toList_ofFn]
  simp only [List.ofFn_succ, List.ofFn_zero]
  rfl
theorem open65 (t : Array Value) (h : t.size = 65) : ∃ u : Nat → Value, t = #[u 0, u 1, u 2, u 3, u 4, u 5, u 6, u 7, u 8, u 9, u 10, u 11, u 12, u 13, u 14, u 15, u 16, u 17, u 18, u 19, u 20, u 21, u 22, u 23, u 24, u 25, u 26, u 27, u 28, u 29, u 30, u 31, u 32, u 33, u 34, u 35, u 36, u 37, u 38, u 39, u 40, u 41, u 42, u 43, u 44, u 45, u 46, u 47, u 48, u 49, u 50, u 51, u 52, u 53, u 54, u 55, u 56, u 57, u 58, u 59, u 60, u 61, u 62, u 63, u 64] ∧ ∀ k, u k = t.getD k undef := by
  refine ⟨fun k => t.getD k undef, ?_, fun _ => rfl⟩
  have e : Array.ofFn (n := 65) (fun k => t.getD k.val undef) = t := by
    apply Array.ext
    · simp [h]
    · intro k h1 h2
      simp [Array.getD, h2]
  exact e.symm.trans (ofFn65 (fun k => t.getD k undef))
theorem Frm.open_ {a0 : ByteArray} {v : Value} {at_ : Int} {a : Act} (h : Frm a0 v at_ a) : ∃ u : Nat → Value, a = { tmps := #[.string a0, u 1, v, .int .i64 at_, u 4, u 5, u 6, u 7, u 8, u 9, u 10, u 11, u 12, u 13, u 14, u 15, u 16, u 17, u 18, u 19, u 20, u 21, u 22, u 23, u 24, u 25, u 26, u 27, u 28, u 29, u 30, u 31, u 32, u 33, u 34, u 35, u 36, u 37, u 38, u 39, u 40, u 41, u 42, u 43, u 44, u 45, u 46, u 47, u 48, u 49, u 50, u 51, u 52, u 53, u 54, u 55, u 56, u 57, u 58, u 59, u 60, u 61, u 62, u 63, u 64], defers := [] } := by
  obtain ⟨hd, hs, h0, h2, h3⟩ := h
  obtain ⟨u, e, hu⟩ := open65 a.tmps hs
  refine ⟨u, ?_⟩
  have e0 := (hu 0).trans h0
  have e2 := (hu 2).trans h2
  have e3 := (hu 3).trans h3
  cases a
  simp only at hd e
  subst hd
  rw [e, e0, e2, e3]

def intOf57 : Value → Int | .int _ q => q | _ => 0

set_option maxHeartbeats 8000000 in
set_option maxRecDepth 1000000 in
theorem lex_walk (a0 : ByteArray) (toks : List LX.Tok) (r2 r3 : Int) (w : World) (h : LX.lex a0 = some (toks, r2, r3)) :
    Calls Try.prog 31 #[.string a0] w fun e w' => ∃ v0_ : Value, e = .returned (.tuple #[v0_, .int .i64 r2, .int .i64 r3]) ∧ Kd.R k57 57 w' w.heap.size (fun _ => True) v0_ (toks.map mk57) ∧ Below w.heap.size w w' := by
  unfold LX.lex at h
  by_cases hs : a0.size > 65536
  · rw [if_pos hs] at h
    simp only [Option.some.injEq, Prod.mk.injEq] at h
    obtain ⟨rfl, rfl, rfl⟩ := h
    go_enter Try.func31, Try.ntmps31
    go_wp2
    refine LX.wp_scope_two (fun _ _ => False) (fun _ _ => False) (fun _ _ => 0) rfl rfl (fun _ => ?_) (fun _ _ h => h.elim) (fun _ _ h => h.elim)
    go_wp2
    simp only [LX.jumpN]
    go_ret3
    exact ⟨_, rfl, Kd.R_nil _ _ _ _ _, Below.refl _ _⟩
  · rw [if_neg hs] at h
    have HH := Lib.hid h
    clear h
    go_enter Try.func31, Try.ntmps31
    go_wp2
    refine LX.wp_scope_two (fun a' w' => ∃ (i f : Nat) (acc : List LX.Tok) (v : Value), Frm a0 v (i : Int) a' ∧ Hid (i ≤ a0.size) ∧ Hid (a0.size < i + f) ∧ Hid (LX.lexF a0 f i acc = some (toks, r2, r3)) ∧ Hid (Kd.R k57 57 w' w.heap.size (fun _ => True) v (acc.map mk57)) ∧ Hid (Below w.heap.size w w') ∧ Hid (acc.length ≤ i)) (fun a' w' => ∃ (i : Nat) (v : Value), Frm a0 v (i : Int) a' ∧ Hid (toks = [] ∧ r2 = (i : Int) ∧ r3 = 80) ∧ Hid (Below w.heap.size w w')) (fun a' _ => a0.size - (intOf57 (a'.tmps.getD 3 undef)).toNat) rfl rfl (fun hround => ?_) ?_ ?_
    · have HR := Lib.hid hround
      clear hround
      go_wp2
      apply wp_label
      rename_i K hK
      refine hK _ _ ?_
      refine HR.out _ _ ⟨0, a0.size + 1, [], _, ⟨rfl, rfl, rfl, rfl, rfl⟩, Lib.hid (Nat.zero_le _), Lib.hid (by omega), HH, Lib.hid (Kd.R_nil _ _ _ _ _), Lib.hid (Below.refl _ _), Lib.hid (Nat.le_refl _)⟩
    · rintro a' w' ⟨i, f, acc, v, hfr, Hi, Hf, HL, HO, HB, HA⟩
      obtain ⟨u, rfl⟩ := hfr.open_
      clear hfr
      have hi := Hi.out
      have hgle := LX.gap_le a0 i hi
      have hL := HL.out
      cases f with
      | zero => exact absurd hL (by simp [LX.lexF])
      | succ f =>
        have hgap : ∀ wx, Calls Try.prog 46 #[.string (a0.extract i a0.size)] wx _ := fun wx => LX.gap_calls (a0.extract i a0.size) wx
        rw [LX.gap_extract] at hgap
        rw [LX.lexF] at hL
        generalize LX.gapL false (a0.data.toList.drop i) = g at hgap hL hgle
        have HG := Lib.hid hL
        have HLE := Lib.hid hgle
        clear hL HL
        go_upto_region 4 with (go_at_call 46; refine (hgap _).mono ?_; rintro e w1 ⟨rfl, hb⟩; have HB1 := Lib.hid (below_step HB.out hb); have HO1 := Lib.hid (Kd.R_below HO.out hb); clear hb)
        rw [show ((i : Int) + (g : Int)) = ((i + g : Nat) : Int) from (Int.natCast_add i g).symm]
        have hii : i ≤ i + g := Nat.le_add_right i g
        generalize hij : i + g = j at HLE HG hii
        clear hij
        have hgle := HLE.out
        clear hgap
        by_cases hend : j = a0.size
        · have hL := HG.out
          rw [if_pos hend] at hL
          have HL := Lib.hid hL
          clear hL HG
          go_wp2
          all_goals
            first
              | (exfalso; omega)
              | (simp only [LX.jumpN]
                 go_ret3
                 have hL := HL.out
                 simp only [Option.some.injEq, Prod.mk.injEq] at hL
                 obtain ⟨rfl, rfl, rfl⟩ := hL
                 exact ⟨_, rfl, HO1.out, HB1.out⟩)
        · have hj : j < a0.size := by omega
          have hL := HG.out
          rw [if_neg hend] at hL
          have hkr := LX.kind_range (LX.byt a0 j)
          have hby := LX.byt_at a0 j hj
          have hbr := (LX.byt_range a0 j).1
          have hm1 := LX.many_pos a0 j hj
          have hm2 := LX.many_le a0 (LX.kind (LX.byt a0 j)) j hj
          have hdig := LX.digits_extract a0 j
          have hmd := LX.many_eq a0 (LX.kind (LX.byt a0 j)) j
          have hkind : ∀ wx, Calls Try.prog 47 #[.int .i32 (LX.byt a0 j)] wx (fun e w' => e = .returned (.int .i64 (LX.kind (LX.byt a0 j))) ∧ Drawn0 wx w') := fun wx => LX.kind_calls (LX.byt a0 j) hbr wx
          generalize hkc : LX.kind (LX.byt a0 j) = kc at hL hkr hm1 hm2 hdig hmd hkind
          have hwr : wrap32 ((a0[j]'hj).toNat : Int) = LX.byt a0 j := by
            rw [hby]
            have := (a0[j]'hj).toNat_lt
            generalize (a0[j]'hj).toNat = n at this
            unfold wrap32
            omega
          rw [← hwr] at hkind
          clear hby hkc hbr hwr
          have HL := Lib.hid hL
          have HM1 := Lib.hid hm1
          have HM2 := Lib.hid hm2
          have HD := Lib.hid hdig
          have HMD := Lib.hid hmd
          clear hL HG hm1 hm2 hdig hmd
          go_upto_region 7 with (go_at_call 47; refine (hkind _).mono ?_; rintro e w2 ⟨rfl, hdr⟩; have HB2 := Lib.hid (below_step HB1.out hdr.below); have HO2 := Lib.hid (Kd.R_below HO1.out hdr.below); clear hdr)
          generalize hW : w2.alloc (Obj.cells #[Value.int IntKind.i64 kc, Value.int IntKind.i64 (j : Int), Value.string { data := #[] }, Value.int IntKind.i64 0] 57) = W3
          have hbox : W3.heap[w2.heap.size]? = some (.cells #[Value.int IntKind.i64 kc, Value.int IntKind.i64 (j : Int), Value.string { data := #[] }, Value.int IntKind.i64 0] 57 (0, 0)) := by
            rw [← hW]
            exact Go.heap_alloc_new w2 _
          have HB3 := Lib.hid (HB2.out.alloc HB2.out.size (Obj.cells #[Value.int IntKind.i64 kc, Value.int IntKind.i64 (j : Int), Value.string { data := #[] }, Value.int IntKind.i64 0] 57))
          have HO3 := Lib.hid (Kd.R_alloc (Kd.R_elderB HO2.out w2.heap.size (Nat.le_refl _)) (Obj.cells #[Value.int IntKind.i64 kc, Value.int IntKind.i64 (j : Int), Value.string { data := #[] }, Value.int IntKind.i64 0] 57))
          rw [hW] at HB3 HO3
          have HG3 := Lib.hid HB2.out.size
          generalize hgb : w2.heap.size = gb at hbox HO3 HG3
          have BK := Lib.hid hbox
          clear hW hbox hgb HB2 HO2 HB1 HO1 HB HO hkind
          have hc0 : W3.cell? ⟨gb, 0, none⟩ = some (.int .i64 kc) := (blk_cell BK.out 0).trans rfl
          have hc1 : W3.cell? ⟨gb, 1, none⟩ = some (.int .i64 (j : Int)) := (blk_cell BK.out 1).trans rfl
          have hc2 : W3.cell? ⟨gb, 2, none⟩ = some (.string { data := #[] }) := (blk_cell BK.out 2).trans rfl
          have hc3 : W3.cell? ⟨gb, 3, none⟩ = some (.int .i64 0) := (blk_cell BK.out 3).trans rfl
          have hf2 := blk_frozen BK.out 2
          have hf3 := blk_frozen BK.out 3
          have hglt := blk_lt BK.out
          rcases hkr with rfl | rfl | rfl | rfl
          · have hL := HL.out
            rw [if_pos rfl] at hL
            simp only [Option.some.injEq, Prod.mk.injEq] at hL
            have HQ : Hid (toks = [] ∧ r2 = (j : Int) ∧ r3 = 80) := Lib.hid ⟨hL.1.symm, hL.2.1.symm, hL.2.2.symm⟩
            clear hL HL
            go_wp2
            go_step3
            exact Or.inr ⟨rfl, j, v, ⟨rfl, rfl, rfl, rfl, rfl⟩, HQ, HB3⟩
          · have hmd := HMD.out
            rw [if_neg (by decide)] at hmd
            have hrun : ∀ wx, Calls Try.prog 48 #[.string (a0.extract j a0.size), .int .i64 1] wx (fun e w' => e = .returned (.int .i64 (LX.run (a0.extract j a0.size) 1 : Nat)) ∧ Below wx.heap.size wx w') := fun wx => LX.run_calls _ _ (by decide) wx
            rw [← hmd] at hrun
            clear hmd HMD
            have hm1 := HM1.out (by decide)
            have hm2 := HM2.out
            have hL := HL.out
            rw [if_neg (by decide), if_neg (fun h => absurd h.1 (by decide))] at hL
            have HL1 := Lib.hid hL
            clear hL HL HM1 HM2 HD
            generalize LX.many a0 1 j = m at *
            have HRUN := Lib.hid hrun
            clear hrun
            go_upto_region 12 with (fail)
            have hcu := fun (u : YtejmbnahdkgpmaaK.Sub W3) => YtejmbnahdkgpmaaK.sub_cell u
            refine YtejmbnahdkgpmaaK.wp_region_sub (by kernel_rfl) (by kernel_rfl) ?_
            repeat (go_big_quiet_step ((go_at_call 48; exact YtejmbnahdkgpmaaK.calls_sub (HRUN.out _))))
            refine wpQuiet_nil ?_
            rintro _ ⟨u4, rfl⟩
            have hu := Lib.hid u4.property
            generalize u4.val = W4 at *
            clear hcu u4 hc0 hc1 hc2 hc3 hf2 hf3
            have BK4 := Lib.hid ((hu.out.block gb hglt).trans BK.out)
            have HB4 := Lib.hid (below_step HB3.out hu.out)
            have HO4 := Lib.hid (Kd.R_below HO3.out hu.out)
            clear BK HB3 HO3 hu hglt
            have hc0 : W4.cell? ⟨gb, 0, none⟩ = some (.int .i64 1) := (blk_cell BK4.out 0).trans rfl
            have hc1 : W4.cell? ⟨gb, 1, none⟩ = some (.int .i64 (j : Int)) := (blk_cell BK4.out 1).trans rfl
            have hc2 : W4.cell? ⟨gb, 2, none⟩ = some (.string { data := #[] }) := (blk_cell BK4.out 2).trans rfl
            have hc3 : W4.cell? ⟨gb, 3, none⟩ = some (.int .i64 0) := (blk_cell BK4.out 3).trans rfl
            have hf2 := blk_frozen BK4.out 2
            go_upto_region 17 with (fail)
            generalize htx : a0.extract j (j + m) = tx at HL1
            have BK5 := Lib.hid (blk_put (cs' := #[.int .i64 1, .int .i64 (j : Int), .string tx, .int .i64 0]) BK4.out 2 (.string tx) rfl)
            have HB5 := Lib.hid (below_set (j := 2) (v := .string tx) HB4.out HG3.out)
            have HO5 := Lib.hid (Kd.R_far (p := ⟨gb, 2, none⟩) HO4.out (fun _ hk => hk.2) (.string tx))
            generalize hW5 : W4.setCell { block := gb, off := 2 } (Value.string tx) = W5 at BK5 HB5 HO5
            clear htx hW5 BK4 HB4 HO4 hc0 hc1 hc2 hc3 hf2
            rw [show LX.nOf a0 1 j m = 0 from rfl] at HL1
            have hc0 : W5.cell? ⟨gb, 0, none⟩ = some (.int .i64 1) := (blk_cell BK5.out 0).trans rfl
            have hc1 : W5.cell? ⟨gb, 1, none⟩ = some (.int .i64 (j : Int)) := (blk_cell BK5.out 1).trans rfl
            have hc2 : W5.cell? ⟨gb, 2, none⟩ = some (.string tx) := (blk_cell BK5.out 2).trans rfl
            have hc3 : W5.cell? ⟨gb, 3, none⟩ = some (.int .i64 0) := (blk_cell BK5.out 3).trans rfl
            have HLen : Hid ((acc.map mk57).length ≤ 65536) := Lib.hid (by have := HA.out; rw [List.length_map]; omega)
            go_wp2_with ((with_reducible refine gate_builtin (b := .append) (xs := #[.tmp 57, .tmp 59]) rfl ?_); at_builtin; refine Kd.R_append k57 (w0 := w) w.heap.size rfl (.tmp 57) (.tmp 59) 45 57 (.agg #[(.int .i64 0), (.int .i64 0), (.string ⟨#[]⟩), (.int .i64 0)]) 40 rfl Try.underlying45 infoT57 rfl (by decide) (by omega) v (acc.map mk57) (mk57 ((1 : Int), (j : Int), tx, 0)) [.int .i64 1, .int .i64 (j : Int), .string tx, .int .i64 0] (fun k_ => k_ ≠ gb) (fun _ => False) rfl (by first | (go_simp; done) | (go_simp; rfl)) ?aP (fun _ hk => hk.elim) ?aF ?aO ?aB ?aS ?aL ?_)
            case aP => exact k57_mkM _ _ _ (mk57 ((1 : Int), (j : Int), tx, 0))
            case aF => exact fun k_ hk => Kd.freshB (g := gb) (o := .cells #[.int .i64 1, .int .i64 (j : Int), .string tx, .int .i64 0] 57 (0, 0)) (by (with_reducible repeat (first | refine blk_drewN ?_ _ | refine blk_drew ?_ | refine blk_alloc ?_ _)); exact BK5.out) k_ hk
            case aO =>
              (with_reducible repeat (first | apply Kd.R_alloc | apply Kd.R_drewN | apply Kd.R_drew))
              exact Kd.R_mono HO5.out (fun _ hk => hk.2)
            case aB => exact (by repeat (first | (with_reducible first | exact HB5.out | apply below_alloc | apply pw_below_drewN | apply below_drew1) | exact HB5.out))
            case aS => exact (below_size (by repeat (first | (with_reducible first | exact HB5.out | apply below_alloc | apply pw_below_drewN | apply below_drew1) | exact HB5.out)))
            case aL => have := HLen.out; omega
            intro v6 w6 ho hb hg hat
            have HO6 := Lib.hid ho
            have HB6 := Lib.hid hb
            clear ho hb hg hat hc0 hc1 hc2 hc3 BK5 HB5 HO5
            go_wp2
            go_step3
            have hHf := Hf.out
            have hHA := HA.out
            refine Or.inl ⟨rfl, ⟨j + m, f, acc ++ [((1 : Int), (j : Int), tx, 0)], v6, ⟨rfl, rfl, rfl, rfl, ?_⟩, Lib.hid hm2, Lib.hid (by omega), HL1, Lib.hid ?_, HB6, Lib.hid ?_⟩, ?_⟩
            · show Value.int .i64 ((j : Int) + (m : Int)) = _
              rw [Int.natCast_add]
            · rw [List.map_append]
              exact Kd.R_mono HO6.out (fun _ _ => trivial)
            · rw [List.length_append]
              simp only [List.length_cons, List.length_nil]
              omega
            · show a0.size - ((j : Int) + (m : Int)).toNat < a0.size - ((i : Int)).toNat
              omega
          · have hmd := HMD.out
            rw [if_neg (by decide)] at hmd
            have hrun : ∀ wx, Calls Try.prog 48 #[.string (a0.extract j a0.size), .int .i64 2] wx (fun e w' => e = .returned (.int .i64 (LX.run (a0.extract j a0.size) 2 : Nat)) ∧ Below wx.heap.size wx w') := fun wx => LX.run_calls _ _ (by decide) wx
            rw [← hmd] at hrun
            clear hmd HMD
            have hm1 := HM1.out (by decide)
            have hm2 := HM2.out
            have hL := HL.out
            have hdg := HD.out rfl
            rw [if_neg (by decide)] at hL
            have HL0 := Lib.hid hL
            have HDG := Lib.hid hdg
            clear hL HL HM1 HM2 HD hdg
            generalize LX.many a0 2 j = m at *
            have HRUN := Lib.hid hrun
            clear hrun
            go_upto_region 12 with (fail)
            have hcu := fun (u : YtejmbnahdkgpmaaK.Sub W3) => YtejmbnahdkgpmaaK.sub_cell u
            refine YtejmbnahdkgpmaaK.wp_region_sub (by kernel_rfl) (by kernel_rfl) ?_
            repeat (go_big_quiet_step ((go_at_call 48; exact YtejmbnahdkgpmaaK.calls_sub (HRUN.out _))))
            refine wpQuiet_nil ?_
            rintro _ ⟨u4, rfl⟩
            have hu := Lib.hid u4.property
            generalize u4.val = W4 at *
            clear hcu u4 hc0 hc1 hc2 hc3 hf2 hf3
            have BK4 := Lib.hid ((hu.out.block gb hglt).trans BK.out)
            have HB4 := Lib.hid (below_step HB3.out hu.out)
            have HO4 := Lib.hid (Kd.R_below HO3.out hu.out)
            clear BK HB3 HO3 hu hglt
            have hc0 : W4.cell? ⟨gb, 0, none⟩ = some (.int .i64 2) := (blk_cell BK4.out 0).trans rfl
            have hc1 : W4.cell? ⟨gb, 1, none⟩ = some (.int .i64 (j : Int)) := (blk_cell BK4.out 1).trans rfl
            have hc2 : W4.cell? ⟨gb, 2, none⟩ = some (.string { data := #[] }) := (blk_cell BK4.out 2).trans rfl
            have hc3 : W4.cell? ⟨gb, 3, none⟩ = some (.int .i64 0) := (blk_cell BK4.out 3).trans rfl
            have hf2 := blk_frozen BK4.out 2
            by_cases h18 : m > 18
            · have hL := HL0.out
              rw [if_pos ⟨rfl, h18⟩] at hL
              simp only [Option.some.injEq, Prod.mk.injEq] at hL
              have HQ : Hid (toks = [] ∧ r2 = (j : Int) ∧ r3 = 80) := Lib.hid ⟨hL.1.symm, hL.2.1.symm, hL.2.2.symm⟩
              clear hL HL0
              go_wp2
              go_step3
              exact Or.inr ⟨rfl, j, v, ⟨rfl, rfl, rfl, rfl, rfl⟩, HQ, Lib.hid (below_set HB4.out HG3.out)⟩
            · have hL := HL0.out
              rw [if_neg (fun h => h18 h.2)] at hL
              have HL1 := Lib.hid hL
              clear hL HL0
              go_upto_region 16 with (fail)
              rw [show LX.nOf a0 2 j m = LX.number (a0.extract j (j + m)) from rfl] at HL1
              generalize htx : a0.extract j (j + m) = tx at HL1 HDG
              have BK5 := Lib.hid (blk_put (cs' := #[.int .i64 2, .int .i64 (j : Int), .string tx, .int .i64 0]) BK4.out 2 (.string tx) rfl)
              have HB5 := Lib.hid (below_set (j := 2) (v := .string tx) HB4.out HG3.out)
              have HO5 := Lib.hid (Kd.R_far (p := ⟨gb, 2, none⟩) HO4.out (fun _ hk => hk.2) (.string tx))
              generalize hW5 : W4.setCell { block := gb, off := 2 } (Value.string tx) = W5 at BK5 HB5 HO5
              clear htx hW5 BK4 HB4 HO4 hc0 hc1 hc2 hc3 hf2
              have hnum : ∀ wx, Calls Try.prog 49 #[.string tx] wx (fun e w' => e = .returned (.int .i64 (LX.number tx)) ∧ Below wx.heap.size wx w') := fun wx => LX.number_calls tx HDG.out wx
              generalize LX.number tx = nn at hnum HL1
              have HNUM := Lib.hid hnum
              clear hnum
              have hc2 : W5.cell? ⟨gb, 2, none⟩ = some (.string tx) := (blk_cell BK5.out 2).trans rfl
              go_upto_region 17 with (go_at_call 49; refine (HNUM.out _).mono ?_; rintro e w7 ⟨rfl, hb⟩; have BK7 := Lib.hid ((hb.block gb (blk_lt BK5.out)).trans BK5.out); have HB7 := Lib.hid (below_step HB5.out hb); have HO7 := Lib.hid (Kd.R_below HO5.out hb); have hc3 : w7.cell? ⟨gb, 3, none⟩ = some (.int .i64 0) := (blk_cell BK7.out 3).trans rfl; have hf3 := blk_frozen BK7.out 3; clear hb hc2 BK5 HB5 HO5)
              have BK5 := Lib.hid (blk_put (cs' := #[.int .i64 2, .int .i64 (j : Int), .string tx, .int .i64 nn]) BK7.out 3 (.int .i64 nn) rfl)
              have HB5 := Lib.hid (below_set (j := 3) (v := .int .i64 nn) HB7.out HG3.out)
              have HO5 := Lib.hid (Kd.R_far (p := ⟨gb, 3, none⟩) HO7.out (fun _ hk => hk.2) (.int .i64 nn))
              generalize hW8 : w7.setCell { block := gb, off := 3 } (Value.int IntKind.i64 nn) = W8 at BK5 HB5 HO5
              clear hW8 BK7 HB7 HO7 hc3 hf3
              have hc0 : W8.cell? ⟨gb, 0, none⟩ = some (.int .i64 2) := (blk_cell BK5.out 0).trans rfl
              have hc1 : W8.cell? ⟨gb, 1, none⟩ = some (.int .i64 (j : Int)) := (blk_cell BK5.out 1).trans rfl
              have hc2 : W8.cell? ⟨gb, 2, none⟩ = some (.string tx) := (blk_cell BK5.out 2).trans rfl
              have hc3 : W8.cell? ⟨gb, 3, none⟩ = some (.int .i64 nn) := (blk_cell BK5.out 3).trans rfl
              have HLen : Hid ((acc.map mk57).length ≤ 65536) := Lib.hid (by have := HA.out; rw [List.length_map]; omega)
              go_wp2_with ((with_reducible refine gate_builtin (b := .append) (xs := #[.tmp 57, .tmp 59]) rfl ?_); at_builtin; refine Kd.R_append k57 (w0 := w) w.heap.size rfl (.tmp 57) (.tmp 59) 45 57 (.agg #[(.int .i64 0), (.int .i64 0), (.string ⟨#[]⟩), (.int .i64 0)]) 40 rfl Try.underlying45 infoT57 rfl (by decide) (by omega) v (acc.map mk57) (mk57 ((2 : Int), (j : Int), tx, nn)) [.int .i64 2, .int .i64 (j : Int), .string tx, .int .i64 nn] (fun k_ => k_ ≠ gb) (fun _ => False) rfl (by first | (go_simp; done) | (go_simp; rfl)) ?aP (fun _ hk => hk.elim) ?aF ?aO ?aB ?aS ?aL ?_)
              case aP => exact k57_mkM _ _ _ (mk57 ((2 : Int), (j : Int), tx, nn))
              case aF => exact fun k_ hk => Kd.freshB (g := gb) (o := .cells #[.int .i64 2, .int .i64 (j : Int), .string tx, .int .i64 nn] 57 (0, 0)) (by (with_reducible repeat (first | refine blk_drewN ?_ _ | refine blk_drew ?_ | refine blk_alloc ?_ _)); exact BK5.out) k_ hk
              case aO =>
                (with_reducible repeat (first | apply Kd.R_alloc | apply Kd.R_drewN | apply Kd.R_drew))
                exact Kd.R_mono HO5.out (fun _ hk => hk.2)
              case aB => exact (by repeat (first | (with_reducible first | exact HB5.out | apply below_alloc | apply pw_below_drewN | apply below_drew1) | exact HB5.out))
              case aS => exact (below_size (by repeat (first | (with_reducible first | exact HB5.out | apply below_alloc | apply pw_below_drewN | apply below_drew1) | exact HB5.out)))
              case aL => have := HLen.out; omega
              intro v6 w6 ho hb hg hat
              have HO6 := Lib.hid ho
              have HB6 := Lib.hid hb
              clear ho hb hg hat hc0 hc1 hc2 hc3 BK5 HB5 HO5
              go_wp2
              go_step3
              have hHf := Hf.out
              have hHA := HA.out
              refine Or.inl ⟨rfl, ⟨j + m, f, acc ++ [((2 : Int), (j : Int), tx, nn)], v6, ⟨rfl, rfl, rfl, rfl, ?_⟩, Lib.hid hm2, Lib.hid (by omega), HL1, Lib.hid ?_, HB6, Lib.hid ?_⟩, ?_⟩
              · show Value.int .i64 ((j : Int) + (m : Int)) = _
                rw [Int.natCast_add]
              · rw [List.map_append]
                exact Kd.R_mono HO6.out (fun _ _ => trivial)
              · rw [List.length_append]
                simp only [List.length_cons, List.length_nil]
                omega
              · show a0.size - ((j : Int) + (m : Int)).toNat < a0.size - ((i : Int)).toNat
                omega
          · have hm2 := HM2.out
            have hL := HL.out
            rw [if_neg (by decide), if_neg (fun h => absurd h.1 (by decide))] at hL
            have hone : LX.many a0 3 j = 1 := by rw [HMD.out, if_pos rfl]
            rw [hone] at hL hm2
            have HL1 := Lib.hid hL
            clear hL HL HM1 HM2 HD HMD hone
            go_upto_region 17 with (fail)
            generalize htx : a0.extract j (j + 1) = tx at HL1
            have BK5 := Lib.hid (blk_put (cs' := #[.int .i64 3, .int .i64 (j : Int), .string tx, .int .i64 0]) BK.out 2 (.string tx) rfl)
            have HB5 := Lib.hid (below_set (j := 2) (v := .string tx) HB3.out HG3.out)
            have HO5 := Lib.hid (Kd.R_far (p := ⟨gb, 2, none⟩) HO3.out (fun _ hk => hk.2) (.string tx))
            generalize hW5 : W3.setCell { block := gb, off := 2 } (Value.string tx) = W5 at BK5 HB5 HO5
            clear htx hW5 BK HB3 HO3 hc0 hc1 hc2 hc3 hf2 hf3 hglt
            rw [show LX.nOf a0 3 j 1 = 0 from rfl] at HL1
            have hc0 : W5.cell? ⟨gb, 0, none⟩ = some (.int .i64 3) := (blk_cell BK5.out 0).trans rfl
            have hc1 : W5.cell? ⟨gb, 1, none⟩ = some (.int .i64 (j : Int)) := (blk_cell BK5.out 1).trans rfl
            have hc2 : W5.cell? ⟨gb, 2, none⟩ = some (.string tx) := (blk_cell BK5.out 2).trans rfl
            have hc3 : W5.cell? ⟨gb, 3, none⟩ = some (.int .i64 0) := (blk_cell BK5.out 3).trans rfl
            have HLen : Hid ((acc.map mk57).length ≤ 65536) := Lib.hid (by have := HA.out; rw [List.length_map]; omega)
            go_wp2_with ((with_reducible refine gate_builtin (b := .append) (xs := #[.tmp 57, .tmp 59]) rfl ?_); at_builtin; refine Kd.R_append k57 (w0 := w) w.heap.size rfl (.tmp 57) (.tmp 59) 45 57 (.agg #[(.int .i64 0), (.int .i64 0), (.string ⟨#[]⟩), (.int .i64 0)]) 40 rfl Try.underlying45 infoT57 rfl (by decide) (by omega) v (acc.map mk57) (mk57 ((3 : Int), (j : Int), tx, 0)) [.int .i64 3, .int .i64 (j : Int), .string tx, .int .i64 0] (fun k_ => k_ ≠ gb) (fun _ => False) rfl (by first | (go_simp; done) | (go_simp; rfl)) ?aP (fun _ hk => hk.elim) ?aF ?aO ?aB ?aS ?aL ?_)
            case aP => exact k57_mkM _ _ _ (mk57 ((3 : Int), (j : Int), tx, 0))
            case aF => exact fun k_ hk => Kd.freshB (g := gb) (o := .cells #[.int .i64 3, .int .i64 (j : Int), .string tx, .int .i64 0] 57 (0, 0)) (by (with_reducible repeat (first | refine blk_drewN ?_ _ | refine blk_drew ?_ | refine blk_alloc ?_ _)); exact BK5.out) k_ hk
            case aO =>
              (with_reducible repeat (first | apply Kd.R_alloc | apply Kd.R_drewN | apply Kd.R_drew))
              exact Kd.R_mono HO5.out (fun _ hk => hk.2)
            case aB => exact (by repeat (first | (with_reducible first | exact HB5.out | apply below_alloc | apply pw_below_drewN | apply below_drew1) | exact HB5.out))
            case aS => exact (below_size (by repeat (first | (with_reducible first | exact HB5.out | apply below_alloc | apply pw_below_drewN | apply below_drew1) | exact HB5.out)))
            case aL => have := HLen.out; omega
            intro v6 w6 ho hb hg hat
            have HO6 := Lib.hid ho
            have HB6 := Lib.hid hb
            clear ho hb hg hat hc0 hc1 hc2 hc3 BK5 HB5 HO5
            go_wp2
            go_step3
            have hHf := Hf.out
            have hHA := HA.out
            refine Or.inl ⟨rfl, ⟨j + 1, f, acc ++ [((3 : Int), (j : Int), tx, 0)], v6, ⟨rfl, rfl, rfl, rfl, ?_⟩, Lib.hid hm2, Lib.hid (by omega), HL1, Lib.hid ?_, HB6, Lib.hid ?_⟩, ?_⟩
            · show Value.int .i64 ((j : Int) + 1) = _
              rw [Int.natCast_add]
              rfl
            · rw [List.map_append]
              exact Kd.R_mono HO6.out (fun _ _ => trivial)
            · rw [List.length_append]
              simp only [List.length_cons, List.length_nil]
              omega
            · show a0.size - ((j : Int) + 1).toNat < a0.size - ((i : Int)).toNat
              omega
    · rintro a' w' ⟨i, v, hfr, hq, hb⟩
      obtain ⟨u, rfl⟩ := hfr.open_
      clear hfr
      go_wp2
      simp only [LX.jumpN]
      go_ret3
      obtain ⟨rfl, rfl, rfl⟩ := hq.out
      exact ⟨_, rfl, Kd.R_nil _ _ _ _ _, hb.out⟩


def lexer_Lex.f (a0 : ByteArray) : Option ((List (S57)) × Int × Int) := (LX.lex a0).map fun r => (r.1.map mk57, r.2.1, r.2.2)
theorem lexer_Lex.calls (a0 : ByteArray) (r1 : List (S57)) (r2 : Int) (r3 : Int) (w : World) (h : lexer_Lex.f a0 = some (r1, r2, r3)) :
    Calls Try.prog 31 #[.string a0] w fun e w' => ∃ v0_ : Value, e = .returned (.tuple #[v0_, .int .i64 r2, .int .i64 r3]) ∧ Kd.R k57 57 w' w.heap.size (fun _ => True) v0_ r1 ∧ Below w.heap.size w w' := by
  unfold lexer_Lex.f at h
  obtain ⟨⟨t, b, c⟩, h1, h2⟩ := Option.map_eq_some_iff.1 h
  simp only [Prod.mk.injEq] at h2
  obtain ⟨rfl, rfl, rfl⟩ := h2
  exact lex_walk a0 t b c w h1

-- NOT PRINTED: function 66 (abi_NoEscape)

-- NOT PRINTED: function 63 (strings_Builder_copyCheck)

-- NOT PRINTED: function 52 (strings_Builder_WriteByte)

-- NOT PRINTED: function 53 (strings_Builder_WriteString)

-- NOT PRINTED: function 54 (strings_Builder_String)

/-! ### lexer_Show: function 34 (by hand) -/
def lexer_Show.f (l0 : List (S57)) : Option (ByteArray) := if l0.length ≤ 9223372036854775807 ∧ (LX.joinF (fun i => (rd_T57 l0 i).f2) l0.length).length ≤ 140737488355328 then some ⟨(LX.joinF (fun i => (rd_T57 l0 i).f2) l0.length).toArray⟩ else none
theorem lexer_Show.calls (A0 : Option Addr) (c0 : Nat) (l0 : List (S57)) (r : ByteArray) (w : World) (hr0 : Kd.C k57 w A0 l0.length l0) (hc0 : l0.length ≤ c0) (h : lexer_Show.f l0 = some r) :
    Calls Try.prog 34 #[.slice A0 l0.length c0] w fun e w' => e = .returned (.string r) ∧ Below w.heap.size w w' := by
  unfold lexer_Show.f at h
  split at h
  · rename_i hb
    obtain rfl := Option.some.inj h
    refine LX.show_calls A0 l0.length c0 (fun i => (rd_T57 l0 i).f0) (fun i => (rd_T57 l0 i).f1) (fun i => (rd_T57 l0 i).f3) (fun i => (rd_T57 l0 i).f2) w ?_ hc0 hb.1 hb.2
    intro i hi
    have := at_T57 hr0 (i : Int) (by omega) (by omega)
    simpa using this
  · exact absurd h (by simp)

/-! ### lexer_Keyword: function 36 -/
def lexer_Keyword.f (a0 : ByteArray) : Option (Bool) := if a0.toList = ([98, 111, 120] : List UInt8) then (some true) else (if a0.toList = ([115, 117, 109] : List UInt8) then (some true) else (if a0.toList = ([109, 105, 110] : List UInt8) then (some true) else (if a0.toList = ([109, 97, 120] : List UInt8) then (some true) else (if a0.toList = ([99, 108, 97, 109, 112] : List UInt8) then (some true) else (some false)))))
set_option maxHeartbeats 8000000 in
set_option maxRecDepth 100000 in
theorem lexer_Keyword.calls (a0 : ByteArray) (r : Bool) (w : World) (h : lexer_Keyword.f a0 = some r) :
    Calls Try.prog 36 #[.string a0] w fun e w' => e = .returned (.bool r) ∧ Drawn0 w w' := by
  have H : (if a0.toList = ([98, 111, 120] : List UInt8) then (some true) else (if a0.toList = ([115, 117, 109] : List UInt8) then (some true) else (if a0.toList = ([109, 105, 110] : List UInt8) then (some true) else (if a0.toList = ([109, 97, 120] : List UInt8) then (some true) else (if a0.toList = ([99, 108, 97, 109, 112] : List UInt8) then (some true) else (some false)))))) = some r := h
  clear h
  by_cases c2 : a0.toList = ([98, 111, 120] : List UInt8)
  · rw [if_pos c2] at H
    have c2b0 : (a0.toList == ([98, 111, 120] : List UInt8)) = true := beq_iff_eq.mpr c2
    have c2b1 : (a0.toList != ([98, 111, 120] : List UInt8)) = false := bne_eq_false_iff_eq.mpr c2
    clear c2
    obtain rfl := Option.some.inj H
    go_enter Try.func36, Try.ntmps36
    go_wp2
    go_ret
    exact ⟨by first | rfl | (simp; done) | (simp [*]; done), by repeat (first | exact Drawn0.refl _ | apply Drawn0.step)⟩
  · rw [if_neg c2] at H
    have c2b0 : (a0.toList == ([98, 111, 120] : List UInt8)) = false := beq_eq_false_iff_ne.mpr c2
    have c2b1 : (a0.toList != ([98, 111, 120] : List UInt8)) = true := bne_iff_ne.mpr c2
    by_cases c3 : a0.toList = ([115, 117, 109] : List UInt8)
    · rw [if_pos c3] at H
      have c3b0 : (a0.toList == ([115, 117, 109] : List UInt8)) = true := beq_iff_eq.mpr c3
      have c3b1 : (a0.toList != ([115, 117, 109] : List UInt8)) = false := bne_eq_false_iff_eq.mpr c3
      clear c3
      obtain rfl := Option.some.inj H
      go_enter Try.func36, Try.ntmps36
      go_wp2
      go_ret
      exact ⟨by first | rfl | (simp; done) | (simp [*]; done), by repeat (first | exact Drawn0.refl _ | apply Drawn0.step)⟩
    · rw [if_neg c3] at H
      have c3b0 : (a0.toList == ([115, 117, 109] : List UInt8)) = false := beq_eq_false_iff_ne.mpr c3
      have c3b1 : (a0.toList != ([115, 117, 109] : List UInt8)) = true := bne_iff_ne.mpr c3
      by_cases c4 : a0.toList = ([109, 105, 110] : List UInt8)
      · rw [if_pos c4] at H
        have c4b0 : (a0.toList == ([109, 105, 110] : List UInt8)) = true := beq_iff_eq.mpr c4
        have c4b1 : (a0.toList != ([109, 105, 110] : List UInt8)) = false := bne_eq_false_iff_eq.mpr c4
        clear c4
        obtain rfl := Option.some.inj H
        go_enter Try.func36, Try.ntmps36
        go_wp2
        go_ret
        exact ⟨by first | rfl | (simp; done) | (simp [*]; done), by repeat (first | exact Drawn0.refl _ | apply Drawn0.step)⟩
      · rw [if_neg c4] at H
        have c4b0 : (a0.toList == ([109, 105, 110] : List UInt8)) = false := beq_eq_false_iff_ne.mpr c4
        have c4b1 : (a0.toList != ([109, 105, 110] : List UInt8)) = true := bne_iff_ne.mpr c4
        by_cases c5 : a0.toList = ([109, 97, 120] : List UInt8)
        · rw [if_pos c5] at H
          have c5b0 : (a0.toList == ([109, 97, 120] : List UInt8)) = true := beq_iff_eq.mpr c5
          have c5b1 : (a0.toList != ([109, 97, 120] : List UInt8)) = false := bne_eq_false_iff_eq.mpr c5
          clear c5
          obtain rfl := Option.some.inj H
          go_enter Try.func36, Try.ntmps36
          go_wp2
          go_ret
          exact ⟨by first | rfl | (simp; done) | (simp [*]; done), by repeat (first | exact Drawn0.refl _ | apply Drawn0.step)⟩
        · rw [if_neg c5] at H
          have c5b0 : (a0.toList == ([109, 97, 120] : List UInt8)) = false := beq_eq_false_iff_ne.mpr c5
          have c5b1 : (a0.toList != ([109, 97, 120] : List UInt8)) = true := bne_iff_ne.mpr c5
          by_cases c6 : a0.toList = ([99, 108, 97, 109, 112] : List UInt8)
          · rw [if_pos c6] at H
            have c6b0 : (a0.toList == ([99, 108, 97, 109, 112] : List UInt8)) = true := beq_iff_eq.mpr c6
            have c6b1 : (a0.toList != ([99, 108, 97, 109, 112] : List UInt8)) = false := bne_eq_false_iff_eq.mpr c6
            clear c6
            obtain rfl := Option.some.inj H
            go_enter Try.func36, Try.ntmps36
            go_wp2
            go_ret
            exact ⟨by first | rfl | (simp; done) | (simp [*]; done), by repeat (first | exact Drawn0.refl _ | apply Drawn0.step)⟩
          · rw [if_neg c6] at H
            have c6b0 : (a0.toList == ([99, 108, 97, 109, 112] : List UInt8)) = false := beq_eq_false_iff_ne.mpr c6
            have c6b1 : (a0.toList != ([99, 108, 97, 109, 112] : List UInt8)) = true := bne_iff_ne.mpr c6
            obtain rfl := Option.some.inj H
            go_enter Try.func36, Try.ntmps36
            go_wp2
            go_ret
            exact ⟨by first | rfl | (simp; done) | (simp [*]; done), by repeat (first | exact Drawn0.refl _ | apply Drawn0.step)⟩

/-! ### octroilaw30_lives: function 30 -/
def octroilaw30_lives.f  : Option (Bool) := (lexer_Lex.f (⟨#[98, 111, 120, 32, 49, 61, 115, 117, 109, 40, 98, 97, 115, 101, 41, 32, 59, 32, 35, 32, 97, 108, 108]⟩ : ByteArray)).bind fun bt101 => (if bt101.2.2 = 0 then ((lexer_Show.f bt101.1).bind fun t106 => (if t106.toList = ([98, 111, 120, 32, 49, 32, 61, 32, 115, 117, 109, 32, 40, 32, 98, 97, 115, 101, 32, 41, 32, 59] : List UInt8) then ((lexer_Keyword.f (⟨#[99, 108, 97, 109, 112]⟩ : ByteArray)).bind fun t107 => (if t107 = true then ((lexer_Keyword.f (⟨#[98, 97, 115, 101]⟩ : ByteArray)).bind fun t108 => (some (!t108))) else (some false))) else (some false))) else (some false))
set_option maxHeartbeats 8000000 in
set_option maxRecDepth 100000 in
theorem octroilaw30_lives.calls  (r : Bool) (w : World) (h : octroilaw30_lives.f  = some r) :
    Calls Try.prog 30 #[] w fun e w' => e = .returned (.bool r) ∧ Below w.heap.size w w' := by
  have HB := Aside0.mk (Below.refl w.heap.size w)
  have H : ((lexer_Lex.f (⟨#[98, 111, 120, 32, 49, 61, 115, 117, 109, 40, 98, 97, 115, 101, 41, 32, 59, 32, 35, 32, 97, 108, 108]⟩ : ByteArray)).bind fun bt101 => (if bt101.2.2 = 0 then ((lexer_Show.f bt101.1).bind fun t106 => (if t106.toList = ([98, 111, 120, 32, 49, 32, 61, 32, 115, 117, 109, 32, 40, 32, 98, 97, 115, 101, 32, 41, 32, 59] : List UInt8) then ((lexer_Keyword.f (⟨#[99, 108, 97, 109, 112]⟩ : ByteArray)).bind fun t107 => (if t107 = true then ((lexer_Keyword.f (⟨#[98, 97, 115, 101]⟩ : ByteArray)).bind fun t108 => (some (!t108))) else (some false))) else (some false))) else (some false))) = some r := h
  clear h
  replace H := Option.bind_eq_some_iff.mp H
  obtain ⟨⟨t101, t102, t103⟩, A10, H⟩ := H
  replace H : (if t103 = 0 then ((lexer_Show.f t101).bind fun t106 => (if t106.toList = ([98, 111, 120, 32, 49, 32, 61, 32, 115, 117, 109, 32, 40, 32, 98, 97, 115, 101, 32, 41, 32, 59] : List UInt8) then ((lexer_Keyword.f (⟨#[99, 108, 97, 109, 112]⟩ : ByteArray)).bind fun t107 => (if t107 = true then ((lexer_Keyword.f (⟨#[98, 97, 115, 101]⟩ : ByteArray)).bind fun t108 => (some (!t108))) else (some false))) else (some false))) else (some false)) = some r := H
  have A1 := Aside0.mk A10
  clear A10
  by_cases c2 : t103 = 0
  · rw [if_pos c2] at H
    have c2b0 : (t103 == 0) = true := beq_iff_eq.mpr c2
    have c2b1 : (t103 != 0) = false := bne_eq_false_iff_eq.mpr c2
    clear c2
    replace H := Option.bind_eq_some_iff.mp H
    obtain ⟨t106, A30, H⟩ := H
    replace H : (if t106.toList = ([98, 111, 120, 32, 49, 32, 61, 32, 115, 117, 109, 32, 40, 32, 98, 97, 115, 101, 32, 41, 32, 59] : List UInt8) then ((lexer_Keyword.f (⟨#[99, 108, 97, 109, 112]⟩ : ByteArray)).bind fun t107 => (if t107 = true then ((lexer_Keyword.f (⟨#[98, 97, 115, 101]⟩ : ByteArray)).bind fun t108 => (some (!t108))) else (some false))) else (some false)) = some r := H
    have A3 := Aside0.mk A30
    clear A30
    by_cases c4 : t106.toList = ([98, 111, 120, 32, 49, 32, 61, 32, 115, 117, 109, 32, 40, 32, 98, 97, 115, 101, 32, 41, 32, 59] : List UInt8)
    · rw [if_pos c4] at H
      have c4b0 : (t106.toList == ([98, 111, 120, 32, 49, 32, 61, 32, 115, 117, 109, 32, 40, 32, 98, 97, 115, 101, 32, 41, 32, 59] : List UInt8)) = true := beq_iff_eq.mpr c4
      have c4b1 : (t106.toList != ([98, 111, 120, 32, 49, 32, 61, 32, 115, 117, 109, 32, 40, 32, 98, 97, 115, 101, 32, 41, 32, 59] : List UInt8)) = false := bne_eq_false_iff_eq.mpr c4
      clear c4
      replace H := Option.bind_eq_some_iff.mp H
      obtain ⟨t107, A50, H⟩ := H
      replace H : (if t107 = true then ((lexer_Keyword.f (⟨#[98, 97, 115, 101]⟩ : ByteArray)).bind fun t108 => (some (!t108))) else (some false)) = some r := H
      have A5 := Aside0.mk A50
      clear A50
      by_cases c6 : t107 = true
      · subst c6
        have H1 : ((lexer_Keyword.f (⟨#[98, 97, 115, 101]⟩ : ByteArray)).bind fun t108 => (some (!t108))) = some r := by rw [if_pos rfl] at H; exact H
        clear H
        have H := H1
        clear H1
        replace H := Option.bind_eq_some_iff.mp H
        obtain ⟨t108, A70, H⟩ := H
        replace H : (some (!t108)) = some r := H
        have A7 := Aside0.mk A70
        clear A70
        obtain rfl := Option.some.inj H
        go_enter Try.func30, Try.ntmps30
        go_wp2_with (first | ((with_reducible refine gate_callee (f := 31) rfl ?_); refine goesL_ (some 5) rfl rfl Try.func31 (by kernel_rfl) rfl #[.string (⟨#[98, 111, 120, 32, 49, 61, 115, 117, 109, 40, 98, 97, 115, 101, 41, 32, 59, 32, 35, 32, 97, 108, 108]⟩ : ByteArray)] rfl (by (try simp only [List.map_toArray, List.map_cons, List.map_nil]); first | done | rfl | (simp only [List.length_drop, List.length_take]; rfl)) ?_; (with_reducible refine (lexer_Lex.calls (⟨#[98, 111, 120, 32, 49, 61, 115, 117, 109, 40, 98, 97, 115, 101, 41, 32, 59, 32, 35, 32, 97, 108, 108]⟩ : ByteArray) t101 t102 t103 _ A1.out).mono ?_); rintro e w8 ⟨v104, rfl, ho0, hb⟩; refine ⟨_, rfl, ?_⟩; have n0_ := Aside0.mk (Kd.R_lower ho0 (below_size (by repeat (first | (with_reducible first | exact HB.out | apply below_alloc | apply pw_below_drewN | apply below_drew1) | exact HB.out)))); have n1_ := Aside0.mk (below_step (by repeat (first | (with_reducible first | exact HB.out | apply below_alloc | apply pw_below_drewN | apply below_drew1) | exact HB.out)) hb); clear HB; have HO105 := n0_; have HB := n1_; clear n0_ n1_; (try clear hb); (try clear hb2); (try clear hk); (try clear hi); (try clear ho0); obtain ⟨Ao9, co9, eo9⟩ := Kd.R_slice HO105.out; subst eo9) | (go_at_call 34; (with_reducible refine (lexer_Show.calls _ _ t101 t106 _ ?side1 ?side2 A3.out).mono ?_); (case side1 => repeat (first | exact (Kd.R_reads' HO105.out).2.2 | (with_reducible refine Kd.C_alloc ?_ _) | (with_reducible refine Kd.C_drewN ?_ _) | (with_reducible refine Kd.C_drew ?_))); (case side2 => exact (Kd.R_reads' HO105.out).2.1); rintro e w10 ⟨rfl, hb⟩; have n0_ := Aside0.mk (Kd.R_below (by (with_reducible repeat (first | apply Kd.R_alloc | apply Kd.R_drewN | apply Kd.R_drew)); exact HO105.out) hb); have n1_ := Aside0.mk (below_step (by repeat (first | (with_reducible first | exact HB.out | apply below_alloc | apply pw_below_drewN | apply below_drew1) | exact HB.out)) hb); clear HO105; clear HB; have HO105 := n0_; have HB := n1_; clear n0_ n1_; (try clear hb); (try clear hb2); (try clear hk); (try clear hi)) | (go_at_call 36; (with_reducible refine (lexer_Keyword.calls (⟨#[99, 108, 97, 109, 112]⟩ : ByteArray) true _ A5.out).mono ?_); rintro e w' ⟨rfl, ⟨nd, rfl⟩⟩) | (go_at_call 36; (with_reducible refine (lexer_Keyword.calls (⟨#[98, 97, 115, 101]⟩ : ByteArray) t108 _ A7.out).mono ?_); rintro e w' ⟨rfl, ⟨nd, rfl⟩⟩))
        go_ret
        exact ⟨by first | rfl | (simp [errW_none, errW_some] <;> rfl) | (simp [*, errW_none, errW_some] <;> rfl), by repeat (first | (with_reducible first | exact HB.out | apply below_alloc | apply pw_below_drewN | apply below_drew1) | exact HB.out)⟩
      · replace c6 := Bool.eq_false_iff.mpr c6
        subst c6
        have H1 : (some false) = some r := by rw [if_neg (show ¬ (false = true) by decide)] at H; exact H
        clear H
        have H := H1
        clear H1
        obtain rfl := Option.some.inj H
        go_enter Try.func30, Try.ntmps30
        go_wp2_with (first | ((with_reducible refine gate_callee (f := 31) rfl ?_); refine goesL_ (some 5) rfl rfl Try.func31 (by kernel_rfl) rfl #[.string (⟨#[98, 111, 120, 32, 49, 61, 115, 117, 109, 40, 98, 97, 115, 101, 41, 32, 59, 32, 35, 32, 97, 108, 108]⟩ : ByteArray)] rfl (by (try simp only [List.map_toArray, List.map_cons, List.map_nil]); first | done | rfl | (simp only [List.length_drop, List.length_take]; rfl)) ?_; (with_reducible refine (lexer_Lex.calls (⟨#[98, 111, 120, 32, 49, 61, 115, 117, 109, 40, 98, 97, 115, 101, 41, 32, 59, 32, 35, 32, 97, 108, 108]⟩ : ByteArray) t101 t102 t103 _ A1.out).mono ?_); rintro e w11 ⟨v104, rfl, ho0, hb⟩; refine ⟨_, rfl, ?_⟩; have n0_ := Aside0.mk (Kd.R_lower ho0 (below_size (by repeat (first | (with_reducible first | exact HB.out | apply below_alloc | apply pw_below_drewN | apply below_drew1) | exact HB.out)))); have n1_ := Aside0.mk (below_step (by repeat (first | (with_reducible first | exact HB.out | apply below_alloc | apply pw_below_drewN | apply below_drew1) | exact HB.out)) hb); clear HB; have HO105 := n0_; have HB := n1_; clear n0_ n1_; (try clear hb); (try clear hb2); (try clear hk); (try clear hi); (try clear ho0); obtain ⟨Ao12, co12, eo12⟩ := Kd.R_slice HO105.out; subst eo12) | (go_at_call 34; (with_reducible refine (lexer_Show.calls _ _ t101 t106 _ ?side1 ?side2 A3.out).mono ?_); (case side1 => repeat (first | exact (Kd.R_reads' HO105.out).2.2 | (with_reducible refine Kd.C_alloc ?_ _) | (with_reducible refine Kd.C_drewN ?_ _) | (with_reducible refine Kd.C_drew ?_))); (case side2 => exact (Kd.R_reads' HO105.out).2.1); rintro e w13 ⟨rfl, hb⟩; have n0_ := Aside0.mk (Kd.R_below (by (with_reducible repeat (first | apply Kd.R_alloc | apply Kd.R_drewN | apply Kd.R_drew)); exact HO105.out) hb); have n1_ := Aside0.mk (below_step (by repeat (first | (with_reducible first | exact HB.out | apply below_alloc | apply pw_below_drewN | apply below_drew1) | exact HB.out)) hb); clear HO105; clear HB; have HO105 := n0_; have HB := n1_; clear n0_ n1_; (try clear hb); (try clear hb2); (try clear hk); (try clear hi)) | (go_at_call 36; (with_reducible refine (lexer_Keyword.calls (⟨#[99, 108, 97, 109, 112]⟩ : ByteArray) false _ A5.out).mono ?_); rintro e w' ⟨rfl, ⟨nd, rfl⟩⟩))
        go_ret
        exact ⟨by first | rfl | (simp [errW_none, errW_some] <;> rfl) | (simp [*, errW_none, errW_some] <;> rfl), by repeat (first | (with_reducible first | exact HB.out | apply below_alloc | apply pw_below_drewN | apply below_drew1) | exact HB.out)⟩
    · rw [if_neg c4] at H
      have c4b0 : (t106.toList == ([98, 111, 120, 32, 49, 32, 61, 32, 115, 117, 109, 32, 40, 32, 98, 97, 115, 101, 32, 41, 32, 59] : List UInt8)) = false := beq_eq_false_iff_ne.mpr c4
      have c4b1 : (t106.toList != ([98, 111, 120, 32, 49, 32, 61, 32, 115, 117, 109, 32, 40, 32, 98, 97, 115, 101, 32, 41, 32, 59] : List UInt8)) = true := bne_iff_ne.mpr c4
      obtain rfl := Option.some.inj H
      go_enter Try.func30, Try.ntmps30
      go_wp2_with (first | ((with_reducible refine gate_callee (f := 31) rfl ?_); refine goesL_ (some 5) rfl rfl Try.func31 (by kernel_rfl) rfl #[.string (⟨#[98, 111, 120, 32, 49, 61, 115, 117, 109, 40, 98, 97, 115, 101, 41, 32, 59, 32, 35, 32, 97, 108, 108]⟩ : ByteArray)] rfl (by (try simp only [List.map_toArray, List.map_cons, List.map_nil]); first | done | rfl | (simp only [List.length_drop, List.length_take]; rfl)) ?_; (with_reducible refine (lexer_Lex.calls (⟨#[98, 111, 120, 32, 49, 61, 115, 117, 109, 40, 98, 97, 115, 101, 41, 32, 59, 32, 35, 32, 97, 108, 108]⟩ : ByteArray) t101 t102 t103 _ A1.out).mono ?_); rintro e w14 ⟨v104, rfl, ho0, hb⟩; refine ⟨_, rfl, ?_⟩; have n0_ := Aside0.mk (Kd.R_lower ho0 (below_size (by repeat (first | (with_reducible first | exact HB.out | apply below_alloc | apply pw_below_drewN | apply below_drew1) | exact HB.out)))); have n1_ := Aside0.mk (below_step (by repeat (first | (with_reducible first | exact HB.out | apply below_alloc | apply pw_below_drewN | apply below_drew1) | exact HB.out)) hb); clear HB; have HO105 := n0_; have HB := n1_; clear n0_ n1_; (try clear hb); (try clear hb2); (try clear hk); (try clear hi); (try clear ho0); obtain ⟨Ao15, co15, eo15⟩ := Kd.R_slice HO105.out; subst eo15) | (go_at_call 34; (with_reducible refine (lexer_Show.calls _ _ t101 t106 _ ?side1 ?side2 A3.out).mono ?_); (case side1 => repeat (first | exact (Kd.R_reads' HO105.out).2.2 | (with_reducible refine Kd.C_alloc ?_ _) | (with_reducible refine Kd.C_drewN ?_ _) | (with_reducible refine Kd.C_drew ?_))); (case side2 => exact (Kd.R_reads' HO105.out).2.1); rintro e w16 ⟨rfl, hb⟩; have n0_ := Aside0.mk (Kd.R_below (by (with_reducible repeat (first | apply Kd.R_alloc | apply Kd.R_drewN | apply Kd.R_drew)); exact HO105.out) hb); have n1_ := Aside0.mk (below_step (by repeat (first | (with_reducible first | exact HB.out | apply below_alloc | apply pw_below_drewN | apply below_drew1) | exact HB.out)) hb); clear HO105; clear HB; have HO105 := n0_; have HB := n1_; clear n0_ n1_; (try clear hb); (try clear hb2); (try clear hk); (try clear hi)))
      go_ret
      exact ⟨by first | rfl | (simp [errW_none, errW_some] <;> rfl) | (simp [*, errW_none, errW_some] <;> rfl), by repeat (first | (with_reducible first | exact HB.out | apply below_alloc | apply pw_below_drewN | apply below_drew1) | exact HB.out)⟩
  · rw [if_neg c2] at H
    have c2b0 : (t103 == 0) = false := beq_eq_false_iff_ne.mpr c2
    have c2b1 : (t103 != 0) = true := bne_iff_ne.mpr c2
    obtain rfl := Option.some.inj H
    go_enter Try.func30, Try.ntmps30
    go_wp2_with (first | ((with_reducible refine gate_callee (f := 31) rfl ?_); refine goesL_ (some 5) rfl rfl Try.func31 (by kernel_rfl) rfl #[.string (⟨#[98, 111, 120, 32, 49, 61, 115, 117, 109, 40, 98, 97, 115, 101, 41, 32, 59, 32, 35, 32, 97, 108, 108]⟩ : ByteArray)] rfl (by (try simp only [List.map_toArray, List.map_cons, List.map_nil]); first | done | rfl | (simp only [List.length_drop, List.length_take]; rfl)) ?_; (with_reducible refine (lexer_Lex.calls (⟨#[98, 111, 120, 32, 49, 61, 115, 117, 109, 40, 98, 97, 115, 101, 41, 32, 59, 32, 35, 32, 97, 108, 108]⟩ : ByteArray) t101 t102 t103 _ A1.out).mono ?_); rintro e w17 ⟨v104, rfl, ho0, hb⟩; refine ⟨_, rfl, ?_⟩; have n0_ := Aside0.mk (Kd.R_lower ho0 (below_size (by repeat (first | (with_reducible first | exact HB.out | apply below_alloc | apply pw_below_drewN | apply below_drew1) | exact HB.out)))); have n1_ := Aside0.mk (below_step (by repeat (first | (with_reducible first | exact HB.out | apply below_alloc | apply pw_below_drewN | apply below_drew1) | exact HB.out)) hb); clear HB; have HO105 := n0_; have HB := n1_; clear n0_ n1_; (try clear hb); (try clear hb2); (try clear hk); (try clear hi); (try clear ho0)))
    go_ret
    exact ⟨by first | rfl | (simp [errW_none, errW_some] <;> rfl) | (simp [*, errW_none, errW_some] <;> rfl), by repeat (first | (with_reducible first | exact HB.out | apply below_alloc | apply pw_below_drewN | apply below_drew1) | exact HB.out)⟩

/-! ### octroiref30_blank: function 59 -/
def octroiref30_blank.f (a0 : Int) : Option (Bool) := if a0 = 32 then (some true) else (if a0 = 9 then (some true) else (if a0 = 13 then (some true) else (some (a0 == 10))))
set_option maxHeartbeats 8000000 in
set_option maxRecDepth 100000 in
theorem octroiref30_blank.calls (a0 : Int) (r : Bool) (w : World) (h : octroiref30_blank.f a0 = some r) :
    Calls Try.prog 59 #[.int .u8 a0] w fun e w' => e = .returned (.bool r) ∧ Drawn0 w w' := by
  have H : (if a0 = 32 then (some true) else (if a0 = 9 then (some true) else (if a0 = 13 then (some true) else (some (a0 == 10))))) = some r := h
  clear h
  by_cases c2 : a0 = 32
  · rw [if_pos c2] at H
    have c2b0 : (a0 == 32) = true := beq_iff_eq.mpr c2
    have c2b1 : (a0 != 32) = false := bne_eq_false_iff_eq.mpr c2
    clear c2
    obtain rfl := Option.some.inj H
    go_enter Try.func59, Try.ntmps59
    go_wp2
    go_ret
    exact ⟨by first | rfl | (simp; done) | (simp [*]; done), by repeat (first | exact Drawn0.refl _ | apply Drawn0.step)⟩
  · rw [if_neg c2] at H
    have c2b0 : (a0 == 32) = false := beq_eq_false_iff_ne.mpr c2
    have c2b1 : (a0 != 32) = true := bne_iff_ne.mpr c2
    by_cases c3 : a0 = 9
    · rw [if_pos c3] at H
      have c3b0 : (a0 == 9) = true := beq_iff_eq.mpr c3
      have c3b1 : (a0 != 9) = false := bne_eq_false_iff_eq.mpr c3
      clear c3
      obtain rfl := Option.some.inj H
      go_enter Try.func59, Try.ntmps59
      go_wp2
      go_ret
      exact ⟨by first | rfl | (simp; done) | (simp [*]; done), by repeat (first | exact Drawn0.refl _ | apply Drawn0.step)⟩
    · rw [if_neg c3] at H
      have c3b0 : (a0 == 9) = false := beq_eq_false_iff_ne.mpr c3
      have c3b1 : (a0 != 9) = true := bne_iff_ne.mpr c3
      by_cases c4 : a0 = 13
      · rw [if_pos c4] at H
        have c4b0 : (a0 == 13) = true := beq_iff_eq.mpr c4
        have c4b1 : (a0 != 13) = false := bne_eq_false_iff_eq.mpr c4
        clear c4
        obtain rfl := Option.some.inj H
        go_enter Try.func59, Try.ntmps59
        go_wp2
        go_ret
        exact ⟨by first | rfl | (simp; done) | (simp [*]; done), by repeat (first | exact Drawn0.refl _ | apply Drawn0.step)⟩
      · rw [if_neg c4] at H
        have c4b0 : (a0 == 13) = false := beq_eq_false_iff_ne.mpr c4
        have c4b1 : (a0 != 13) = true := bne_iff_ne.mpr c4
        obtain rfl := Option.some.inj H
        go_enter Try.func59, Try.ntmps59
        go_wp2
        go_ret
        exact ⟨by first | rfl | (simp; done) | (simp [*]; done), by repeat (first | exact Drawn0.refl _ | apply Drawn0.step)⟩

end Go.Proofs.Ytejmbnahdkgpmaa.XLexerCovers
