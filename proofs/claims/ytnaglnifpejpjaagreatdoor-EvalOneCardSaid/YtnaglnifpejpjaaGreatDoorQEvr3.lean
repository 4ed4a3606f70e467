/-
  octroiref34.value (written by mkevr3.py).
-/
import Derived.Test.YtnaglnifpejpjaaGreatDoorQEvr2
import Derived.Test.YtnaglnifpejpjaaGreatDoorQEv4
import Derived.Test.YtnaglnifpejpjaaGreatDoorQNumS
namespace Go.Proofs.YtnaglnifpejpjaaGreatDoor.Ch
set_option linter.unusedVariables false
set_option linter.unusedSimpArgs false
set_option linter.unnecessarySimpa false
open Go.RowKit Go.Proofs.YtnaglnifpejpjaaGreatDoorK Go.Proofs.YtnaglnifpejpjaaGreatDoor.XEvalRuns Go.Proofs.YtnaglnifpejpjaaGreatDoorW.PrintWords Go.Proofs.YtnaglnifpejpjaaGreatDoorW.PrintLast
open Go.Proofs.YtnaglnifpejpjaaGreatDoorW.PrintMore in
attribute [local go_sem] max2_int min2_int max_two min_two

theorem sumR : SumR := fun l hl => Num.sum_all l hl
theorem subr_any (a b : Int) (ha : mayM a = true) (hb : mayM b = true) (w : World) : Calls Tryz.prog 65 #[.int .i64 a, .int .i64 b] w fun e w' => e = .returned (.tuple #[.int .i64 (subE a b).1, .int .i64 (subE a b).2]) ∧ Below w.heap.size w w' := by
 obtain ⟨k, hk⟩ := Num.sub_all a b ((Num.may_iff a).1 ha) ((Num.may_iff b).1 hb)
 have e : subE a b = if Num.May (a - b) then (a - b, 0) else (0, 3) := by
  have hn : mayM (-b) = true := by
   rw [mayM_iff] at hb ⊢
   omega
  have hs : sumL [a, -b] = a - b := by rw [sumL_cons, sumL_cons, sumL_nil]; omega
  unfold subE sumV sumE
  rw [if_pos hb, hs]
  have hall : [a, -b].all mayM = true := by simp [ha, hn]
  rw [if_pos hall, if_pos hall]
  by_cases h : Num.May (a - b)
  ·rw [if_pos h, if_pos ((Num.may_iff _).2 h), if_pos ((Num.may_iff _).2 h)]
  ·rw [if_neg h, if_neg (fun e => h ((Num.may_iff _).1 e)), if_neg (fun e => h ((Num.may_iff _).1 e))]
 rw [← e] at hk
 exact octroiref01_Sub.calls k a b _ _ w hk
/-- What the reference's boxes tell. -/
def lookR : List S35 → Int → Int × Bool
 | [], _ => (0, false)
 | b :: bs, n => if b.f0 = n ∧ b.f2 = true then (b.f1, true) else lookR bs n
theorem rdRV (L : List S35) (i : Nat) (h : i < L.length) : rd_T35 L (i : Int) = L[i] := by unfold rd_T35; rw [Int.toNat_natCast, List.getD_eq_getElem?_getD, List.getElem?_eq_getElem h]; rfl
theorem known_l (n : Int) (bs : List S35) (hb : bs.length ≤ 1000000) : ∀ (q i k : Nat), i + q = bs.length → 2 * q + 2 ≤ k → octroiref34_known.l0 k n bs (i : Int) = some (refE (lookR (bs.drop i)) n)
 | 0, i, k, h, hk => by
   obtain ⟨k, rfl⟩ : ∃ z, k = z + 1 := ⟨k - 1, by omega⟩
   rw [octroiref34_known.l0, if_neg (by omega), List.drop_eq_nil_of_le (by omega)]
   rfl
 | q + 1, i, k, h, hk => by
   obtain ⟨k, rfl⟩ : ∃ z, k = z + 2 := ⟨k - 2, by omega⟩
   have hi : i < bs.length := by omega
   have hd : bs.drop i = bs[i] :: bs.drop (i + 1) := List.drop_eq_getElem_cons hi
   have ih := known_l n bs hb q (i + 1) k (by omega) (by omega)
   have hw : wrap64 ((i : Int) + 1) = ((i + 1 : Nat) : Int) := by unfold wrap64; omega
   rw [hd]
   have hj : ∀ (z : Bool), octroiref34_known.j1 (k + 1) n bs (i : Int) z = if z = true then some (if mayM bs[i].f1 = true then (bs[i].f1, 0) else (0, 2)) else octroiref34_known.l0 k n bs ((i + 1 : Nat) : Int) := fun z => by
    rw [octroiref34_known.j1, hw]
    by_cases hz : z = true
    ·rw [if_pos hz, if_pos hz, if_pos (by omega), if_pos (by omega), rdRV bs i hi, Num.may_f, Option.bind_some]
     by_cases hm : Num.May bs[i].f1
     ·rw [if_pos (decide_eq_true hm), if_pos ((Num.may_iff _).2 hm)]
     ·rw [if_neg (by rw [decide_eq_true_iff]; exact hm), if_neg (fun e => hm ((Num.may_iff _).1 e))]
    ·rw [if_neg hz, if_neg hz]
   rw [octroiref34_known.l0, if_pos (by omega), if_pos (by omega), rdRV bs i hi, hj, hj]
   have hR : ∀ (A B : Prop) [Decidable A] [Decidable B], True := fun _ _ _ _ => trivial
   by_cases h1 : bs[i].f0 = n
   ·rw [if_pos h1]
    by_cases h2 : bs[i].f2 = true
    ·rw [if_pos h2]
     have e : lookR (bs[i] :: bs.drop (i + 1)) n = (bs[i].f1, true) := by rw [lookR, if_pos ⟨h1, h2⟩]
     unfold refE
     rw [e]
     simp
    ·rw [if_neg h2, ih]
     have e : lookR (bs[i] :: bs.drop (i + 1)) n = lookR (bs.drop (i + 1)) n := by rw [lookR, if_neg (fun hh => h2 hh.2)]
     unfold refE
     rw [e]
   ·rw [if_neg h1, if_neg (by decide), ih]
    have e : lookR (bs[i] :: bs.drop (i + 1)) n = lookR (bs.drop (i + 1)) n := by rw [lookR, if_neg (fun hh => h1 hh.1)]
    unfold refE
    rw [e]
theorem knownr_any (n : Int) (A : Option Addr) (c : Nat) (bs : List S35) (w : World) (hr : Kd.C k35 w A bs.length bs) (hc : bs.length ≤ c) (hl : bs.length ≤ 1000000) : Calls Tryz.prog 63 #[.int .i64 n, .slice A bs.length c] w fun e w' => e = .returned (.tuple #[.int .i64 (refE (lookR bs) n).1, .int .i64 (refE (lookR bs) n).2]) ∧ Below w.heap.size w w' := by
 have h := known_l n bs hl bs.length 0 (2 * bs.length + 2) (by omega) (Nat.le_refl _)
 rw [List.drop_zero] at h
 exact (octroiref34_known.calls (2 * bs.length + 2) n A c bs _ _ w hr hc h).mono fun _ _ ⟨h1, h2⟩ => ⟨h1, h2.below⟩
/-- What an expression comes to without an error is an amount. -/
def AmountAt (rows : List S45) (K : Int → Int × Bool) (x : S25) : Prop := (evB rows K x).2 = 0 → mayM (evB rows K x).1 = true
theorem sum_may (l : List Int) (h : sumE l = 0) : mayM (sumV l) = true := by
 unfold sumE at h
 unfold sumV
 split at h
 ·rename_i h1
  rw [if_pos h1]
  split at h
  ·rename_i h2
   rw [if_pos h2]; exact h2
  ·cases h
 ·cases h
theorem evL_may (rows : List S45) (K : Int → Int × Bool) : ∀ (l : List S25), (∀ y ∈ l, AmountAt rows K y) → (evL rows K l).2 = 0 → ∀ v ∈ (evL rows K l).1, mayM v = true
 | [], _, _, v, hv => by rw [evL] at hv; simp at hv
 | x :: xs, ha, h0, v, hv => by
   rw [evL] at h0 hv
   split at h0
   ·rename_i h1
    rw [if_pos h1] at hv
    rcases List.mem_cons.1 hv with e | hv
    ·rw [e]; exact ha x List.mem_cons_self h1
    ·exact evL_may rows K xs (fun y hy => ha y (List.mem_cons_of_mem _ hy)) h0 v hv
   ·rename_i h1
    exact absurd h0 h1
theorem evL_len (rows : List S45) (K : Int → Int × Bool) : ∀ (l : List S25), (evL rows K l).2 = 0 → (evL rows K l).1.length = l.length
 | [], _ => by rw [evL]; rfl
 | x :: xs, h0 => by
   rw [evL] at h0 ⊢
   split at h0
   ·rename_i h1
    rw [if_pos h1]
    have := evL_len rows K xs h0
    simp [this]
   ·rename_i h1
    exact absurd h0 h1
theorem made_may (k : Int) (L : List Int) (hL : ∀ v ∈ L, mayM v = true) (h : (madeE k L).2 = 0) : mayM (madeE k L).1 = true := by
 match L with
 | [] =>
   show mayM 0 = true
   decide
 | [a] =>
   have ha := hL a (by simp)
   have e : madeE k [a] = (-a, 0) := by show negE a = _; unfold negE; rw [if_pos ha]
   rw [e]
   rw [mayM_iff] at ha ⊢
   dsimp only
   omega
 | [a, b] =>
   have ha := hL a (by simp)
   have hb := hL b (by simp)
   have e : madeE k [a, b] = if k = 4 then (Go.Proofs.YtnaglnifpejpjaaGreatDoorK.sumV [a, b], Go.Proofs.YtnaglnifpejpjaaGreatDoorK.sumE [a, b]) else if k = 5 then subE a b else if k = 7 then (if b < a then b else a, 0) else (if a < b then b else a, 0) := rfl
   rw [e] at h ⊢
   clear e
   by_cases h4 : k = 4
   ·rw [if_pos h4] at h ⊢; exact sum_may _ h
   rw [if_neg h4] at h ⊢
   by_cases h5 : k = 5
   ·rw [if_pos h5] at h ⊢
    unfold subE at h ⊢
    rw [if_pos hb] at h ⊢
    exact sum_may _ h
   rw [if_neg h5] at h ⊢
   by_cases h7 : k = 7
   ·rw [if_pos h7]
    dsimp only
    split
    ·exact hb
    ·exact ha
   ·rw [if_neg h7]
    dsimp only
    split
    ·exact hb
    ·exact ha
 | [a, b, c] =>
   have ha := hL a (by simp)
   have hb := hL b (by simp)
   have hc := hL c (by simp)
   show mayM (clampZ a b c) = true
   unfold clampZ
   split
   ·exact hb
   split
   ·exact hc
   ·exact ha
 | a :: b :: c :: d :: l =>
   show mayM 0 = true
   decide
theorem amount_n (rows : List S45) (K : Int → Int × Bool) : ∀ (n : Nat) (x : S25), SizeOf.sizeOf x < n → rightB x = true → AmountAt rows K x
 | 0, x, h, _ => by omega
 | n + 1, x, h, hg => by
   intro h0
   rw [evB_eq] at h0 ⊢
   rcases right_split hg with ⟨h1, hn⟩ | h2 | h3 | ⟨hk, hkids⟩
   ·rw [if_pos h1]
    have := of_decide_eq_true hn
    rw [mayM_iff]
    dsimp only
    omega
   ·rw [if_neg (by omega), if_pos h2] at h0 ⊢
    unfold refE at h0 ⊢
    split at h0
    ·cases h0
    ·rename_i hq
     rw [if_neg hq]
     split at h0
     ·rename_i hm
      rw [if_pos hm]; exact hm
     ·cases h0
   ·rw [if_neg (by omega), if_neg (by omega), if_pos h3] at h0 ⊢
    unfold totE at h0 ⊢
    split at h0
    ·rename_i hq
     rw [if_pos hq]
     exact sum_may _ h0
    ·cases h0
   ·rw [if_neg (by omega), if_neg (by omega), if_neg (by omega)] at h0 ⊢
    by_cases hq : (evL rows K x.f4).2 = 0
    ·rw [if_pos hq] at h0 ⊢
     exact made_may _ _ (evL_may rows K x.f4 (fun y hy => amount_n rows K n y (by have := kid_lt hy; omega) (hkids y hy)) hq) h0
    ·rw [if_neg hq] at h0
     exact absurd h0 hq
theorem amount_any (rows : List S45) (K : Int → Int × Bool) (x : S25) (hg : rightB x = true) : AmountAt rows K x := amount_n rows K (SizeOf.sizeOf x + 1) x (Nat.lt_succ_self _) hg
theorem clamp_ways (a b d : Int) : (decide (a < b) = true ∧ clampZ a b d = b) ∨ (decide (a < b) = false ∧ decide (a > d) = true ∧ decide (d < a) = true ∧ clampZ a b d = d) ∨ (decide (a < b) = false ∧ decide (a > d) = false ∧ decide (d < a) = false ∧ clampZ a b d = a) := by
 unfold clampZ
 by_cases h : a < b
 ·exact .inl ⟨decide_eq_true h, if_pos h⟩
 by_cases h2 : a > d
 ·exact .inr (.inl ⟨decide_eq_false h, decide_eq_true h2, decide_eq_true h2, by rw [if_neg h, if_pos h2]⟩)
 ·exact .inr (.inr ⟨decide_eq_false h, decide_eq_false h2, decide_eq_false h2, by rw [if_neg h, if_neg h2]⟩)
/-- octroiref34.value at x. -/
def ValueR (rows : List S45) (bs : List S35) (x : S25) : Prop := ∀ (A4 : Option Addr) (c4 : Nat) (A5 : Option Addr) (c5 : Nat) (A : Option Addr) (c : Nat) (A2 : Option Addr) (c2 : Nat) (w : World), EIn w x A4 c4 A5 c5 → Kd.C k45 w A rows.length rows → rows.length ≤ c → Kd.C k35 w A2 bs.length bs → bs.length ≤ c2 →
 Calls Tryz.prog 29 #[eV x A4 c4 A5 c5, .slice A rows.length c, .slice A2 bs.length c2] w fun e w' => e = .returned (.tuple #[.int .i64 (evB rows (lookR bs) x).1, .int .i64 (evB rows (lookR bs) x).2]) ∧ Below w.heap.size w w'
set_option maxRecDepth 100000 in
set_option maxHeartbeats 16000000 in
theorem valr_step (rows : List S45) (hl : rows.length ≤ 700) (bs : List S35) (hbl : bs.length ≤ 1000000) (x : S25) (hf : Fit x) (hs : Small x) (hg : rightB x = true) (ih : ∀ y ∈ x.f4, rightB y = true → ValueR rows bs y) : ValueR rows bs x := by
 intro A4 c4 A5 c5 A c A2 c2 w hin hr hc hr2 hc2
 have hE := evB_eq rows (lookR bs) x
 have hsp := right_split hg
 obtain ⟨i0, hi0, hz0, hzs, hzb⟩ := info_parts infoI
 have hx1 : (w.alloc (.cells #[.int .i64 x.f0, .int .i64 x.f1, .string x.f2, .slice A4 x.f3.length c4, .slice A5 x.f4.length c5] 25)).heap[w.heap.size]? = some (.cells #[.int .i64 x.f0, .int .i64 x.f1, .string x.f2, .slice A4 x.f3.length c4, .slice A5 x.f4.length c5] 25 (0, 0)) := heap_alloc_last _ _
 have hb0 : Below w.heap.size w (w.alloc (.cells #[.int .i64 x.f0, .int .i64 x.f1, .string x.f2, .slice A4 x.f3.length c4, .slice A5 x.f4.length c5] 25)) := s_alloc (Below.refl _ _) _
 obtain ⟨W1, hW⟩ : ∃ W : World, W = (w.alloc (.cells #[.int .i64 x.f0, .int .i64 x.f1, .string x.f2, .slice A4 x.f3.length c4, .slice A5 x.f4.length c5] 25)) := ⟨_, rfl⟩
 rw [← hW] at hx1 hb0
 have HX1 := Lib.hid hx1
 have HB0 := Lib.hid hb0
 have HR := Lib.hid (Kd.C_below hr hb0)
 have HR2 := Lib.hid (Kd.C_below hr2 hb0)
 have HIN := Lib.hid (hin.below hb0)
 obtain ⟨y0, y1, y2, y3, y4⟩ := cells5 hx1
 clear hr hr2 hin hx1 hb0 hg
 rw [hE]
 clear hE
 rcases hsp with ⟨h1, _⟩ | h2 | h3 | ⟨hk, hkids⟩
 ·have b1 : (x.f0 == 1) = true := beq_iff_eq.2 h1
  rw [if_pos h1]
  clear h1 ih hs
  go_enter Tryz.func29, Tryz.ntmps29
  go_upto_region 1 with fail
  rw [← hW]
  clear hW
  go_wp2
  go_ret2
  exact ⟨rfl, HB0.out⟩
 ·have b1 : (x.f0 == 1) = false := beq_eq_false_iff_ne.2 (by omega)
  have b2 : (x.f0 == 2) = true := beq_iff_eq.2 h2
  rw [if_neg (by omega), if_pos h2]
  clear h2 ih hs
  go_enter Tryz.func29, Tryz.ntmps29
  go_upto_region 1 with fail
  rw [← hW]
  clear hW
  go_wp2_with (go_at_call 63; refine (knownr_any x.f1 A2 c2 bs _ HR2.out hc2 hbl).mono ?_; rintro e w2 ⟨rfl, hb⟩; have HB2 := Lib.hid (s_trans HB0.out hb); clear hb)
  go_ret2
  exact ⟨rfl, HB2.out⟩
 ·have b1 : (x.f0 == 1) = false := beq_eq_false_iff_ne.2 (by omega)
  have b2 : (x.f0 == 2) = false := beq_eq_false_iff_ne.2 (by omega)
  have b3 : (x.f0 == 3) = true := beq_iff_eq.2 h3
  rw [if_neg (by omega), if_neg (by omega), if_pos h3]
  have htt := totr_any sumR x hf hs A4 c4 A5 c5 A c rows W1 HIN.out HR.out hc hl
  have HTT := Lib.hid htt
  clear h3 ih hs htt
  go_enter Tryz.func29, Tryz.ntmps29
  go_upto_region 1 with fail
  rw [← hW]
  clear hW
  go_wp2_with (go_at_call 64; refine HTT.out.mono ?_; rintro e w2 ⟨rfl, hb⟩; have HB2 := Lib.hid (s_trans HB0.out hb); clear hb)
  go_ret2
  exact ⟨rfl, HB2.out⟩
 ·have b1 : (x.f0 == 1) = false := beq_eq_false_iff_ne.2 (by omega)
  have b2 : (x.f0 == 2) = false := beq_eq_false_iff_ne.2 (by omega)
  have b3 : (x.f0 == 3) = false := beq_eq_false_iff_ne.2 (by omega)
  rw [if_neg (by omega), if_neg (by omega), if_neg (by omega)]
  have hih : ∀ y ∈ x.f4, ValueR rows bs y := fun y hy => ih y hy (hkids y hy)
  have ham : ∀ y ∈ x.f4, AmountAt rows (lookR bs) y := fun y hy => amount_any rows (lookR bs) y (hkids y hy)
  have hkl : x.f4.length ≤ 3 := by omega
  obtain ⟨E, hEv⟩ : ∃ E, evL rows (lookR bs) x.f4 = E := ⟨_, rfl⟩
  rw [hEv]
  obtain ⟨RES, hRS⟩ : ∃ RES, (if E.2 = 0 then madeE x.f0 E.1 else (0, E.2)) = RES := ⟨_, rfl⟩
  rw [hRS]
  have HRS := Lib.hid hRS
  clear hRS
  have HEV := Lib.hid hEv
  have HIH := Lib.hid hih
  have HAM := Lib.hid ham
  have HK := Lib.hid hk
  clear ih hs hk hkids hih hEv ham
  go_enter Tryz.func29, Tryz.ntmps29
  go_upto_region 1 with fail
  rw [← hW]
  clear hW
  go_wp2
  clear y0 y1 y2 y3 y4
  go_loopw [8, 9] (fun v i wr => ∃ (q : Nat) (L : List Int), q ≤ x.f4.length ∧ i = .int .i64 q ∧ Hid (L.length = q) ∧ Hid (∀ v ∈ L, mayM v = true) ∧ Hid (E = (L ++ (evL rows (lookR bs) (x.f4.drop q)).1, (evL rows (lookR bs) (x.f4.drop q)).2)) ∧ Hid (Below W1.heap.size W1 wr) ∧ Hid (wr.ownsRow W1.heap.size 3 1 v L.length (L.map (Value.int .i64)))) (fun _ i _ => x.f4.length - (intOf i).toNat)
  case atStart => exact ⟨0, [], Nat.zero_le _, rfl, Lib.hid rfl, Lib.hid (fun v hv => by simp at hv), by rw [List.drop_zero, HEV.out]; exact Lib.hid rfl, Lib.hid (Below.refl _ _), Lib.hid (World.ownsRow_nil _ _ _ _)⟩
  case round =>
   obtain ⟨q, L, hq, rfl, HL, HM, HE, HB, HO⟩ := hrel
   obtain ⟨y0, y1, y2, y3, y4⟩ := cells5 (block_on HB.out HX1.out)
   by_cases hlt : q < x.f4.length
   ·obtain ⟨ad0, A6, c6, A7, c7, e0, q0, q1, q2, q3, q4, g5, g6, g7, g8⟩ := at_T25 (Kd.C_below HIN.out.c4 HB.out) (q : Int) (by omega) (by omega)
    have hy : rd_T25 x.f4 (q : Int) = x.f4[q] := by unfold rd_T25; rw [Int.toNat_natCast, List.getD_eq_getElem?_getD, List.getElem?_eq_getElem hlt]; rfl
    have hed := evL_drop rows (lookR bs) x.f4 q hlt
    have hmem := List.getElem_mem hlt
    rw [hy] at q0 q1 q2 q3 q4 g5 g6 g7 g8
    rw [Int.toNat_natCast] at q0 q1 q2 q3 q4
    cases e0
    generalize x.f4[q] = y at *
    clear hy
    have hval := HIH.out y hmem A6 c6 A7 c7 A c A2 c2 wr ⟨g5, g6, g7, g8⟩ (Kd.C_below HR.out HB.out) hc (Kd.C_below HR2.out HB.out) hc2
    have hamy := HAM.out y hmem
    unfold AmountAt at hamy
    clear g5 g6 g7 g8
    obtain ⟨R, hR⟩ : ∃ R, evL rows (lookR bs) (x.f4.drop (q + 1)) = R := ⟨_, rfl⟩
    rw [hR] at hed
    have HRR := Lib.hid hR
    clear hR
    obtain ⟨v, e, hve⟩ : ∃ v e, evB rows (lookR bs) y = (v, e) := ⟨_, _, rfl⟩
    rw [hve] at hed hval hamy
    have hE2 := HE.out
    rw [hed] at hE2
    clear hed hve
    by_cases he : e = 0
    ·subst he
     rw [if_pos rfl] at hE2
     have hE3 : E = ((L ++ [v]) ++ R.1, R.2) := by rw [hE2, List.append_assoc]; rfl
     have hM2 : ∀ z ∈ L ++ [v], mayM z = true := fun z hz => by
      rcases List.mem_append.1 hz with hz | hz
      ·exact HM.out z hz
      ·rw [List.mem_singleton.1 hz]; exact hamy rfl
     have HM2 := Lib.hid hM2
     have HE3 := Lib.hid hE3
     have HVAL := Lib.hid hval
     clear hE2 hE3 hval hamy hM2
     have HXB := Lib.hid (block_on HB.out HX1.out)
     go_upto_region 15 with (go_at_call 29; refine HVAL.out.mono ?_; rintro e w3 ⟨rfl, hb⟩; have HB3 := Lib.hid hb; clear hb)
     clear q0 q1 q2 q3 q4 y0 y1 y2 y3 y4
     obtain ⟨wy, hwy⟩ : ∃ W : World, W = w3.alloc (.cells #[.int .i64 v] 3) := ⟨_, rfl⟩
     have hby : Below w3.heap.size w3 wy := by rw [hwy]; exact s_alloc (Below.refl _ _) _
     have hOy := own_on (own_on HO.out HB3.out) hby
     have hnews := int_news w3 v
     rw [← hwy] at hnews
     have hBy := s_trans (s_trans HB.out HB3.out) hby
     have hbase : W1.heap.size ≤ wy.heap.size := hBy.size
     have HOY := Lib.hid hOy
     have HNW := Lib.hid hnews
     have HBY := Lib.hid hBy
     obtain ⟨ad5, cap5, e5⟩ := own_slice hOy
     cases e5
     have hLle : L.length ≤ 3 := by have := HL.out; omega
     clear hby hOy hnews hBy
     go_wp2_with (at_builtin; (try rw [← hwy]); refine wpList_append_own_at _ rfl _ _ 49 rfl W1.heap.size 3 i0 _ 1 8 Tryz.underlying49 hi0 hz0 hzs hzb rfl (by decide) _ _ _ rfl HOY.out ⟨w3.heap.size, 0, none⟩ 1 1 [.int .i64 v] rfl rfl HNW.out (by simp [Value.oneCell']) (by unfold maxLen; omega) (by omega) hbase ?_; intro v' w5 hown5 hg5 _ hat5; obtain ⟨ad', cap', rfl⟩ := own_slice hown5; have HO5 := Lib.hid hown5; have HG5 := Lib.hid hg5; clear hown5 hg5 hat5 hwy)
     go_roundw
     case rel => exact ⟨q + 1, L ++ [v], by omega, by go_num, Lib.hid (by rw [List.length_append, HL.out]; rfl), HM2, by rw [HRR.out]; exact HE3, Lib.hid (low_grow HBY.out HOY.out HG5.out), by rw [List.length_append, List.map_append]; exact HO5⟩
     case measure => simp [intOf]; omega
    ·rw [if_neg he] at hE2
     have hres : RES = (0, e) := by rw [← HRS.out, hE2]; exact if_neg he
     have hne : (e != 0) = true := by simp [bne, he]
     have HRES := Lib.hid hres
     have HVAL := Lib.hid hval
     clear hE2 hval hres he hamy
     go_wp2_with (go_at_call 29; refine HVAL.out.mono ?_; rintro e' w3 ⟨rfl, hb⟩; have HB3 := Lib.hid hb; clear hb)
     go_ret2
     exact ⟨by rw [HRES.out]; rfl, s_trans HB0.out (s_trans HB.out HB3.out)⟩
   ·obtain rfl : q = x.f4.length := by omega
    have hE2 := HE.out
    rw [List.drop_length, evL, List.append_nil] at hE2
    have hres : RES = madeE x.f0 L := by rw [← HRS.out, hE2]; exact if_pos rfl
    have hO := HO.out
    obtain ⟨ad5, cap5, rfl⟩ := own_slice hO
    have hk := HK.out
    clear hE2
    rcases hk with ⟨hkk, hln⟩ | ⟨hkk | hkk | hkk | hkk, hln⟩ | ⟨hkk, hln⟩
    ·skip -- 6
     have hri := own_rint hO (by rw [HL.out, hln]; omega)
     obtain ⟨a, rfl⟩ : ∃ a, L = [a] := by
      match L, (HL.out.trans hln : L.length = 1) with
      | [a], _ => exact ⟨_, rfl⟩
     have hm := HM.out
     have hm0 : mayM a = true := hm a (by simp)
     obtain ⟨ad, rfl, q0⟩ := hri.2.2 0 (by simp)
     have hyy : wr.cell? ad = some (.int .i64 a) := q0
     have hcc : ∀ W : World, Below wr.heap.size wr W → W.cell? ad = some (.int .i64 a) := fun W hb => by
      have q : ∀ (p : Addr) (v : Value), wr.cell? p = some v → W.cell? p = some v := fun p v e => (hb.cell (p := p) (World.block_lt_of_cell? wr _ e)).trans e
      exact q _ _ q0
     have HC := Lib.hid hcc
     have HY := Lib.hid hyy
     clear hcc hyy hri q0 hm
     have hres2 : RES = (-a, 0) := by rw [hres, hkk]; exact if_pos hm0
     have hneg : wrap64 (-a) = -a := by have := (mayM_iff a).1 hm0; unfold wrap64; omega
     have b4 : (x.f0 == 4) = false := beq_eq_false_iff_ne.2 (by omega)
     have b5 : (x.f0 == 5) = false := beq_eq_false_iff_ne.2 (by omega)
     have b6 : (x.f0 == 6) = true := beq_iff_eq.2 hkk
     have HRES := Lib.hid hres2
     have HNEG := Lib.hid hneg
     have z0 := HY.out
     clear hres hres2 hneg
     go_wp2
     rw [HNEG.out]
     go_ret2
     exact ⟨by rw [HRES.out]; rfl, s_trans HB0.out HB.out⟩
    ·skip -- 4
     have hkd := own_kd hO (by rw [HL.out, hln]; omega)
     have hln2 : L.length = 2 := HL.out.trans hln
     have HSUM := Lib.hid (sumr_any sumR ad5 cap5 L wr hkd.1 hkd.2 (by omega))
     obtain ⟨a, b, hLab⟩ : ∃ a b, L = [a, b] := by
      match L, hln2 with
      | [a, b], _ => exact ⟨_, _, rfl⟩
     have hres2 : RES = (Go.Proofs.YtnaglnifpejpjaaGreatDoorK.sumV L, Go.Proofs.YtnaglnifpejpjaaGreatDoorK.sumE L) := by rw [hres, hkk, hLab]; rfl
     have b4 : (x.f0 == 4) = true := beq_iff_eq.2 hkk
     have HRES := Lib.hid hres2
     clear hres hres2 hkd hLab hln2
     go_wp2_with (go_at_call 16; refine HSUM.out.mono ?_; rintro e w3 ⟨rfl, hb⟩; have HB3 := Lib.hid (s_trans HB.out hb); clear hb)
     go_ret2
     exact ⟨by rw [HRES.out]; rfl, s_trans HB0.out HB3.out⟩
    ·skip -- 5
     have hri := own_rint hO (by rw [HL.out, hln]; omega)
     obtain ⟨a, b, rfl⟩ : ∃ a b, L = [a, b] := by
      match L, (HL.out.trans hln : L.length = 2) with
      | [a, b], _ => exact ⟨_, _, rfl⟩
     have hm := HM.out
     have hm0 : mayM a = true := hm a (by simp)
     have hm1 : mayM b = true := hm b (by simp)
     obtain ⟨ad, rfl, q0⟩ := hri.2.2 0 (by simp)
     obtain ⟨_, e1, q1⟩ := hri.2.2 1 (by simp)
     cases e1
     have hyy : (fun W : World => W.cell? ad = some (.int .i64 a) ∧ W.cell? (ad.add 1) = some (.int .i64 b) ∧ W.cell? ⟨ad.block, ad.off + 1, none⟩ = some (.int .i64 b)) wr := ⟨q0, q1, q1⟩
     have hcc : ∀ W : World, Below wr.heap.size wr W → W.cell? ad = some (.int .i64 a) ∧ W.cell? (ad.add 1) = some (.int .i64 b) ∧ W.cell? ⟨ad.block, ad.off + 1, none⟩ = some (.int .i64 b) := fun W hb => by
      have q : ∀ (p : Addr) (v : Value), wr.cell? p = some v → W.cell? p = some v := fun p v e => (hb.cell (p := p) (World.block_lt_of_cell? wr _ e)).trans e
      exact ⟨q _ _ q0, q _ _ q1, q _ _ q1⟩
     have HC := Lib.hid hcc
     have HY := Lib.hid hyy
     clear hcc hyy hri q0 q1 hm
     have b4 : (x.f0 == 4) = false := beq_eq_false_iff_ne.2 (by omega)
     have b5 : (x.f0 == 5) = true := beq_iff_eq.2 hkk
     have hres2 : RES = subE a b := by rw [hres, hkk]; rfl
     have HRES := Lib.hid hres2
     clear hres hres2
     go_upto_region 20 with fail
     have hy := HY.out
     refine start_ (n := 11) (S := fun w' => w'.cell? ad = some (.int .i64 a) ∧ w'.cell? (ad.add 1) = some (.int .i64 b) ∧ w'.cell? ⟨ad.block, ad.off + 1, none⟩ = some (.int .i64 b)) (ds := []) #[false, false, false, false, false, false, false, false, false, false, false] (by kernel_rfl) rfl rfl ⟨hy.1, hy.2.1, hy.2.2⟩ (fun hHeld => ?_)
     obtain ⟨wd, hwd⟩ : ∃ W, W = wr.drew := ⟨_, rfl⟩
     rw [← hwd] at hHeld
     rw [← hwd]
     have hdr : Below wr.heap.size wr wd := by rw [hwd]; exact s_drew (Below.refl _ _)
     have HBd := Lib.hid hdr
     clear hwd hdr
     refine pure_ (i := 0) (N := some 68) (v := ?_) (a' := ?_) #[true, false, false, false, false, false, false, false, false, false, false] rfl rfl (by kernel_rfl) (fun _ _ _ h => h) (Or.inl ⟨by rfl, ?_⟩) ?_ ?_
     rotate_left
     ·intro w'
      go_simp
      with_reducible rfl
     rotate_left
     ·simp only [Act.put, List.setIfInBounds_toArray, List.set_cons_zero, List.set_cons_succ, i64_w, i32_w]
      rfl
     refine pure_ (i := 1) (N := some 69) (v := ?_) (a' := ?_) #[true, true, false, false, false, false, false, false, false, false, false] rfl rfl (by kernel_rfl) (fun _ _ _ h => h) (Or.inl ⟨by rfl, ?_⟩) ?_ ?_
     rotate_left
     ·intro w'
      go_simp
      with_reducible rfl
     rotate_left
     ·simp only [Act.put, List.setIfInBounds_toArray, List.set_cons_zero, List.set_cons_succ, i64_w, i32_w]
      rfl
     refine pure_ (i := 3) (N := some 71) (v := ?_) (a' := ?_) #[true, true, false, true, false, false, false, false, false, false, false] rfl rfl (by kernel_rfl) (fun _ _ _ h => h) (Or.inl ⟨by rfl, ?_⟩) ?_ ?_
     rotate_left
     ·intro w'
      go_simp
      with_reducible rfl
     rotate_left
     ·simp only [Act.put, List.setIfInBounds_toArray, List.set_cons_zero, List.set_cons_succ, i64_w, i32_w]
      rfl
     refine pure_ (i := 4) (N := some 72) (v := ?_) (a' := ?_) #[true, true, false, true, true, false, false, false, false, false, false] rfl rfl (by kernel_rfl) (fun _ _ _ h => h) (Or.inl ⟨by rfl, ?_⟩) ?_ ?_
     rotate_left
     ·intro w'
      go_simp
      with_reducible rfl
     rotate_left
     ·simp only [Act.put, List.setIfInBounds_toArray, List.set_cons_zero, List.set_cons_succ, i64_w, i32_w]
      rfl
     refine take_ (i := 2) (N := some 70) (v := ?_) (a' := ?_) #[true, true, true, true, true, false, false, false, false, false, false] rfl rfl (by kernel_rfl) (fun _ _ _ h => h) (Or.inl ⟨by rfl, ?_⟩) hHeld ?_ ?_
     rotate_left
     ·rintro w' ⟨s0, s1, s2⟩
      go_simp
      with_reducible rfl
     rotate_left
     ·simp only [Act.put, List.setIfInBounds_toArray, List.set_cons_zero, List.set_cons_succ, i64_w, i32_w]
      rfl
     refine take_ (i := 5) (N := some 73) (v := ?_) (a' := ?_) #[true, true, true, true, true, true, false, false, false, false, false] rfl rfl (by kernel_rfl) (fun _ _ _ h => h) (Or.inl ⟨by rfl, ?_⟩) hHeld ?_ ?_
     rotate_left
     ·rintro w' ⟨s0, s1, s2⟩
      go_simp
      with_reducible rfl
     rotate_left
     ·simp only [Act.put, List.setIfInBounds_toArray, List.set_cons_zero, List.set_cons_succ, i64_w, i32_w]
      rfl
     refine one_ (i := 6) (N := some 74) #[true, true, true, true, true, true, true, false, false, false, false] rfl rfl (by kernel_rfl) (by decide) (fun K hK => ?_)
     refine goes_ Tryz.func65 (by kernel_rfl) rfl #[.int .i64 a, .int .i64 b] (by rfl) rfl rfl (by simp only [List.map_toArray, List.map_cons, List.map_nil]; rfl) ?_
     with_reducible refine (subr_any a b hm0 hm1 wd).mono ?_
     rintro e w4 ⟨rfl, hb4⟩
     refine ⟨_, rfl, ?_⟩
     have HB4 := Lib.hid (s_trans HBd.out hb4)
     have hz := HC.out _ HB4.out
     clear hb4
     refine hK.out _ _ ⟨hz.1, hz.2.1, hz.2.2⟩ (fun hHeld => ?_)
     clear hK K
     refine norm_ (a' := ?_) ?_ ?_
     rotate_left
     ·show Act.put _ (some 74) _ = _
      simp only [Act.put, List.setIfInBounds_toArray, List.set_cons_zero, List.set_cons_succ, i64_w, i32_w]
      rfl
     refine pure_ (i := 7) (N := some 75) (v := ?_) (a' := ?_) #[true, true, true, true, true, true, true, true, false, false, false] rfl rfl (by kernel_rfl) (fun _ _ _ h => h) (Or.inl ⟨by rfl, ?_⟩) ?_ ?_
     rotate_left
     ·intro w'
      go_simp
      with_reducible rfl
     rotate_left
     ·simp only [Act.put, List.setIfInBounds_toArray, List.set_cons_zero, List.set_cons_succ, i64_w, i32_w]
      rfl
     refine pure_ (i := 8) (N := some 76) (v := ?_) (a' := ?_) #[true, true, true, true, true, true, true, true, true, false, false] rfl rfl (by kernel_rfl) (fun _ _ _ h => h) (Or.inl ⟨by rfl, ?_⟩) ?_ ?_
     rotate_left
     ·intro w'
      go_simp
      with_reducible rfl
     rotate_left
     ·simp only [Act.put, List.setIfInBounds_toArray, List.set_cons_zero, List.set_cons_succ, i64_w, i32_w]
      rfl
     refine pure_ (i := 9) (N := some 6) (v := ?_) (a' := ?_) #[true, true, true, true, true, true, true, true, true, true, false] rfl rfl (by kernel_rfl) (fun _ _ _ h => h) (Or.inl ⟨by rfl, ?_⟩) ?_ ?_
     rotate_left
     ·intro w'
      go_simp
      with_reducible rfl
     rotate_left
     ·simp only [Act.put, List.setIfInBounds_toArray, List.set_cons_zero, List.set_cons_succ, i64_w, i32_w]
      rfl
     refine pure_ (i := 10) (N := some 7) (v := ?_) (a' := ?_) #[true, true, true, true, true, true, true, true, true, true, true] rfl rfl (by kernel_rfl) (fun _ _ _ h => h) (Or.inl ⟨by rfl, ?_⟩) ?_ ?_
     rotate_left
     ·intro w'
      go_simp
      with_reducible rfl
     rotate_left
     ·simp only [Act.put, List.setIfInBounds_toArray, List.set_cons_zero, List.set_cons_succ, i64_w, i32_w]
      rfl
     refine done_ (by kernel_rfl) ?_
     go_wp2
     go_ret2
     exact ⟨by rw [HRES.out]; rfl, s_trans HB0.out (s_trans HB.out HB4.out)⟩
    ·skip -- 7
     have hri := own_rint hO (by rw [HL.out, hln]; omega)
     obtain ⟨a, b, rfl⟩ : ∃ a b, L = [a, b] := by
      match L, (HL.out.trans hln : L.length = 2) with
      | [a, b], _ => exact ⟨_, _, rfl⟩
     have hm := HM.out
     have hm0 : mayM a = true := hm a (by simp)
     have hm1 : mayM b = true := hm b (by simp)
     obtain ⟨ad, rfl, q0⟩ := hri.2.2 0 (by simp)
     obtain ⟨_, e1, q1⟩ := hri.2.2 1 (by simp)
     cases e1
     have hyy : (fun W : World => W.cell? ad = some (.int .i64 a) ∧ W.cell? (ad.add 1) = some (.int .i64 b) ∧ W.cell? ⟨ad.block, ad.off + 1, none⟩ = some (.int .i64 b)) wr := ⟨q0, q1, q1⟩
     have hcc : ∀ W : World, Below wr.heap.size wr W → W.cell? ad = some (.int .i64 a) ∧ W.cell? (ad.add 1) = some (.int .i64 b) ∧ W.cell? ⟨ad.block, ad.off + 1, none⟩ = some (.int .i64 b) := fun W hb => by
      have q : ∀ (p : Addr) (v : Value), wr.cell? p = some v → W.cell? p = some v := fun p v e => (hb.cell (p := p) (World.block_lt_of_cell? wr _ e)).trans e
      exact ⟨q _ _ q0, q _ _ q1, q _ _ q1⟩
     have HC := Lib.hid hcc
     have HY := Lib.hid hyy
     clear hcc hyy hri q0 q1 hm
     have b4 : (x.f0 == 4) = false := beq_eq_false_iff_ne.2 (by omega)
     have b5 : (x.f0 == 5) = false := beq_eq_false_iff_ne.2 (by omega)
     have b6 : (x.f0 == 6) = false := beq_eq_false_iff_ne.2 (by omega)
     have b7 : (x.f0 == 7) = true := beq_iff_eq.2 hkk
     obtain ⟨m, hmm⟩ : ∃ m, (if b < a then b else a) = m := ⟨_, rfl⟩
     have hres2 : RES = (m, 0) := by rw [hres, hkk, ← hmm]; rfl
     have HRES := Lib.hid hres2
     clear hres hres2
     go_upto_region 24 with fail
     have hy := HY.out
     refine start_ (n := 9) (S := fun w' => w'.cell? ad = some (.int .i64 a) ∧ w'.cell? (ad.add 1) = some (.int .i64 b) ∧ w'.cell? ⟨ad.block, ad.off + 1, none⟩ = some (.int .i64 b)) (ds := []) #[false, false, false, false, false, false, false, false, false] (by kernel_rfl) rfl rfl ⟨hy.1, hy.2.1, hy.2.2⟩ (fun hHeld => ?_)
     obtain ⟨wd, hwd⟩ : ∃ W, W = wr.drew := ⟨_, rfl⟩
     rw [← hwd] at hHeld
     rw [← hwd]
     have hdr : Below wr.heap.size wr wd := by rw [hwd]; exact s_drew (Below.refl _ _)
     have HBd := Lib.hid hdr
     clear hwd hdr
     refine pure_ (i := 0) (N := some 85) (v := ?_) (a' := ?_) #[true, false, false, false, false, false, false, false, false] rfl rfl (by kernel_rfl) (fun _ _ _ h => h) (Or.inl ⟨by rfl, ?_⟩) ?_ ?_
     rotate_left
     ·intro w'
      go_simp
      with_reducible rfl
     rotate_left
     ·simp only [Act.put, List.setIfInBounds_toArray, List.set_cons_zero, List.set_cons_succ, i64_w, i32_w]
      rfl
     refine pure_ (i := 1) (N := some 86) (v := ?_) (a' := ?_) #[true, true, false, false, false, false, false, false, false] rfl rfl (by kernel_rfl) (fun _ _ _ h => h) (Or.inl ⟨by rfl, ?_⟩) ?_ ?_
     rotate_left
     ·intro w'
      go_simp
      with_reducible rfl
     rotate_left
     ·simp only [Act.put, List.setIfInBounds_toArray, List.set_cons_zero, List.set_cons_succ, i64_w, i32_w]
      rfl
     refine pure_ (i := 3) (N := some 88) (v := ?_) (a' := ?_) #[true, true, false, true, false, false, false, false, false] rfl rfl (by kernel_rfl) (fun _ _ _ h => h) (Or.inl ⟨by rfl, ?_⟩) ?_ ?_
     rotate_left
     ·intro w'
      go_simp
      with_reducible rfl
     rotate_left
     ·simp only [Act.put, List.setIfInBounds_toArray, List.set_cons_zero, List.set_cons_succ, i64_w, i32_w]
      rfl
     refine pure_ (i := 4) (N := some 89) (v := ?_) (a' := ?_) #[true, true, false, true, true, false, false, false, false] rfl rfl (by kernel_rfl) (fun _ _ _ h => h) (Or.inl ⟨by rfl, ?_⟩) ?_ ?_
     rotate_left
     ·intro w'
      go_simp
      with_reducible rfl
     rotate_left
     ·simp only [Act.put, List.setIfInBounds_toArray, List.set_cons_zero, List.set_cons_succ, i64_w, i32_w]
      rfl
     refine take_ (i := 2) (N := some 87) (v := ?_) (a' := ?_) #[true, true, true, true, true, false, false, false, false] rfl rfl (by kernel_rfl) (fun _ _ _ h => h) (Or.inl ⟨by rfl, ?_⟩) hHeld ?_ ?_
     rotate_left
     ·rintro w' ⟨s0, s1, s2⟩
      go_simp
      with_reducible rfl
     rotate_left
     ·simp only [Act.put, List.setIfInBounds_toArray, List.set_cons_zero, List.set_cons_succ, i64_w, i32_w]
      rfl
     refine take_ (i := 5) (N := some 90) (v := ?_) (a' := ?_) #[true, true, true, true, true, true, false, false, false] rfl rfl (by kernel_rfl) (fun _ _ _ h => h) (Or.inl ⟨by rfl, ?_⟩) hHeld ?_ ?_
     rotate_left
     ·rintro w' ⟨s0, s1, s2⟩
      go_simp
      with_reducible rfl
     rotate_left
     ·simp only [Act.put, List.setIfInBounds_toArray, List.set_cons_zero, List.set_cons_succ, i64_w, i32_w]
      rfl
     refine pure_ (i := 6) (N := some 91) (v := ?_) (a' := ?_) #[true, true, true, true, true, true, true, false, false] rfl rfl (by kernel_rfl) (fun _ _ _ h => h) (Or.inl ⟨by rfl, ?_⟩) ?_ ?_
     rotate_left
     ·intro w'
      go_simp
      with_reducible rfl
     rotate_left
     ·simp only [Act.put, List.setIfInBounds_toArray, List.set_cons_zero, List.set_cons_succ, i64_w, i32_w]
      rfl
     refine pure_ (i := 7) (N := some 6) (v := ?_) (a' := ?_) #[true, true, true, true, true, true, true, true, false] rfl rfl (by kernel_rfl) (fun _ _ _ h => h) (Or.inl ⟨by rfl, ?_⟩) ?_ ?_
     rotate_left
     ·intro w'
      go_simp
      with_reducible rfl
     rotate_left
     ·simp only [Act.put, List.setIfInBounds_toArray, List.set_cons_zero, List.set_cons_succ, i64_w, i32_w]
      rfl
     refine pure_ (i := 8) (N := some 7) (v := ?_) (a' := ?_) #[true, true, true, true, true, true, true, true, true] rfl rfl (by kernel_rfl) (fun _ _ _ h => h) (Or.inl ⟨by rfl, ?_⟩) ?_ ?_
     rotate_left
     ·intro w'
      go_simp
      with_reducible rfl
     rotate_left
     ·simp only [Act.put, List.setIfInBounds_toArray, List.set_cons_zero, List.set_cons_succ, i64_w, i32_w]
      rfl
     refine done_ (by kernel_rfl) ?_
     go_wp2
     all_goals
      go_ret2
      exact ⟨by rw [HRES.out]; simp_all, s_trans HB0.out (s_trans HB.out HBd.out)⟩
    ·skip -- 8
     have hri := own_rint hO (by rw [HL.out, hln]; omega)
     obtain ⟨a, b, rfl⟩ : ∃ a b, L = [a, b] := by
      match L, (HL.out.trans hln : L.length = 2) with
      | [a, b], _ => exact ⟨_, _, rfl⟩
     have hm := HM.out
     have hm0 : mayM a = true := hm a (by simp)
     have hm1 : mayM b = true := hm b (by simp)
     obtain ⟨ad, rfl, q0⟩ := hri.2.2 0 (by simp)
     obtain ⟨_, e1, q1⟩ := hri.2.2 1 (by simp)
     cases e1
     have hyy : (fun W : World => W.cell? ad = some (.int .i64 a) ∧ W.cell? (ad.add 1) = some (.int .i64 b) ∧ W.cell? ⟨ad.block, ad.off + 1, none⟩ = some (.int .i64 b)) wr := ⟨q0, q1, q1⟩
     have hcc : ∀ W : World, Below wr.heap.size wr W → W.cell? ad = some (.int .i64 a) ∧ W.cell? (ad.add 1) = some (.int .i64 b) ∧ W.cell? ⟨ad.block, ad.off + 1, none⟩ = some (.int .i64 b) := fun W hb => by
      have q : ∀ (p : Addr) (v : Value), wr.cell? p = some v → W.cell? p = some v := fun p v e => (hb.cell (p := p) (World.block_lt_of_cell? wr _ e)).trans e
      exact ⟨q _ _ q0, q _ _ q1, q _ _ q1⟩
     have HC := Lib.hid hcc
     have HY := Lib.hid hyy
     clear hcc hyy hri q0 q1 hm
     have b4 : (x.f0 == 4) = false := beq_eq_false_iff_ne.2 (by omega)
     have b5 : (x.f0 == 5) = false := beq_eq_false_iff_ne.2 (by omega)
     have b6 : (x.f0 == 6) = false := beq_eq_false_iff_ne.2 (by omega)
     have b7 : (x.f0 == 7) = false := beq_eq_false_iff_ne.2 (by omega)
     have b8 : (x.f0 == 8) = true := beq_iff_eq.2 hkk
     obtain ⟨m, hmm⟩ : ∃ m, (if a < b then b else a) = m := ⟨_, rfl⟩
     have hres2 : RES = (m, 0) := by rw [hres, hkk, ← hmm]; rfl
     have HRES := Lib.hid hres2
     clear hres hres2
     go_upto_region 26 with fail
     have hy := HY.out
     refine start_ (n := 9) (S := fun w' => w'.cell? ad = some (.int .i64 a) ∧ w'.cell? (ad.add 1) = some (.int .i64 b) ∧ w'.cell? ⟨ad.block, ad.off + 1, none⟩ = some (.int .i64 b)) (ds := []) #[false, false, false, false, false, false, false, false, false] (by kernel_rfl) rfl rfl ⟨hy.1, hy.2.1, hy.2.2⟩ (fun hHeld => ?_)
     obtain ⟨wd, hwd⟩ : ∃ W, W = wr.drew := ⟨_, rfl⟩
     rw [← hwd] at hHeld
     rw [← hwd]
     have hdr : Below wr.heap.size wr wd := by rw [hwd]; exact s_drew (Below.refl _ _)
     have HBd := Lib.hid hdr
     clear hwd hdr
     refine pure_ (i := 0) (N := some 94) (v := ?_) (a' := ?_) #[true, false, false, false, false, false, false, false, false] rfl rfl (by kernel_rfl) (fun _ _ _ h => h) (Or.inl ⟨by rfl, ?_⟩) ?_ ?_
     rotate_left
     ·intro w'
      go_simp
      with_reducible rfl
     rotate_left
     ·simp only [Act.put, List.setIfInBounds_toArray, List.set_cons_zero, List.set_cons_succ, i64_w, i32_w]
      rfl
     refine pure_ (i := 1) (N := some 95) (v := ?_) (a' := ?_) #[true, true, false, false, false, false, false, false, false] rfl rfl (by kernel_rfl) (fun _ _ _ h => h) (Or.inl ⟨by rfl, ?_⟩) ?_ ?_
     rotate_left
     ·intro w'
      go_simp
      with_reducible rfl
     rotate_left
     ·simp only [Act.put, List.setIfInBounds_toArray, List.set_cons_zero, List.set_cons_succ, i64_w, i32_w]
      rfl
     refine pure_ (i := 3) (N := some 97) (v := ?_) (a' := ?_) #[true, true, false, true, false, false, false, false, false] rfl rfl (by kernel_rfl) (fun _ _ _ h => h) (Or.inl ⟨by rfl, ?_⟩) ?_ ?_
     rotate_left
     ·intro w'
      go_simp
      with_reducible rfl
     rotate_left
     ·simp only [Act.put, List.setIfInBounds_toArray, List.set_cons_zero, List.set_cons_succ, i64_w, i32_w]
      rfl
     refine pure_ (i := 4) (N := some 98) (v := ?_) (a' := ?_) #[true, true, false, true, true, false, false, false, false] rfl rfl (by kernel_rfl) (fun _ _ _ h => h) (Or.inl ⟨by rfl, ?_⟩) ?_ ?_
     rotate_left
     ·intro w'
      go_simp
      with_reducible rfl
     rotate_left
     ·simp only [Act.put, List.setIfInBounds_toArray, List.set_cons_zero, List.set_cons_succ, i64_w, i32_w]
      rfl
     refine take_ (i := 2) (N := some 96) (v := ?_) (a' := ?_) #[true, true, true, true, true, false, false, false, false] rfl rfl (by kernel_rfl) (fun _ _ _ h => h) (Or.inl ⟨by rfl, ?_⟩) hHeld ?_ ?_
     rotate_left
     ·rintro w' ⟨s0, s1, s2⟩
      go_simp
      with_reducible rfl
     rotate_left
     ·simp only [Act.put, List.setIfInBounds_toArray, List.set_cons_zero, List.set_cons_succ, i64_w, i32_w]
      rfl
     refine take_ (i := 5) (N := some 99) (v := ?_) (a' := ?_) #[true, true, true, true, true, true, false, false, false] rfl rfl (by kernel_rfl) (fun _ _ _ h => h) (Or.inl ⟨by rfl, ?_⟩) hHeld ?_ ?_
     rotate_left
     ·rintro w' ⟨s0, s1, s2⟩
      go_simp
      with_reducible rfl
     rotate_left
     ·simp only [Act.put, List.setIfInBounds_toArray, List.set_cons_zero, List.set_cons_succ, i64_w, i32_w]
      rfl
     refine pure_ (i := 6) (N := some 100) (v := ?_) (a' := ?_) #[true, true, true, true, true, true, true, false, false] rfl rfl (by kernel_rfl) (fun _ _ _ h => h) (Or.inl ⟨by rfl, ?_⟩) ?_ ?_
     rotate_left
     ·intro w'
      go_simp
      with_reducible rfl
     rotate_left
     ·simp only [Act.put, List.setIfInBounds_toArray, List.set_cons_zero, List.set_cons_succ, i64_w, i32_w]
      rfl
     refine pure_ (i := 7) (N := some 6) (v := ?_) (a' := ?_) #[true, true, true, true, true, true, true, true, false] rfl rfl (by kernel_rfl) (fun _ _ _ h => h) (Or.inl ⟨by rfl, ?_⟩) ?_ ?_
     rotate_left
     ·intro w'
      go_simp
      with_reducible rfl
     rotate_left
     ·simp only [Act.put, List.setIfInBounds_toArray, List.set_cons_zero, List.set_cons_succ, i64_w, i32_w]
      rfl
     refine pure_ (i := 8) (N := some 7) (v := ?_) (a' := ?_) #[true, true, true, true, true, true, true, true, true] rfl rfl (by kernel_rfl) (fun _ _ _ h => h) (Or.inl ⟨by rfl, ?_⟩) ?_ ?_
     rotate_left
     ·intro w'
      go_simp
      with_reducible rfl
     rotate_left
     ·simp only [Act.put, List.setIfInBounds_toArray, List.set_cons_zero, List.set_cons_succ, i64_w, i32_w]
      rfl
     refine done_ (by kernel_rfl) ?_
     go_wp2
     all_goals
      go_ret2
      exact ⟨by rw [HRES.out]; simp_all, s_trans HB0.out (s_trans HB.out HBd.out)⟩
    ·skip -- 9
     have hri := own_rint hO (by rw [HL.out, hln]; omega)
     obtain ⟨a, b, d, rfl⟩ : ∃ a b d, L = [a, b, d] := by
      match L, (HL.out.trans hln : L.length = 3) with
      | [a, b, d], _ => exact ⟨_, _, _, rfl⟩
     have hm := HM.out
     have hm0 : mayM a = true := hm a (by simp)
     have hm1 : mayM b = true := hm b (by simp)
     have hm2 : mayM d = true := hm d (by simp)
     obtain ⟨ad, rfl, q0⟩ := hri.2.2 0 (by simp)
     obtain ⟨_, e1, q1⟩ := hri.2.2 1 (by simp)
     cases e1
     obtain ⟨_, e2, q2⟩ := hri.2.2 2 (by simp)
     cases e2
     have hyy : (fun W : World => W.cell? ad = some (.int .i64 a) ∧ W.cell? (ad.add 1) = some (.int .i64 b) ∧ W.cell? ⟨ad.block, ad.off + 1, none⟩ = some (.int .i64 b) ∧ W.cell? (ad.add 2) = some (.int .i64 d) ∧ W.cell? ⟨ad.block, ad.off + 2, none⟩ = some (.int .i64 d)) wr := ⟨q0, q1, q1, q2, q2⟩
     have hcc : ∀ W : World, Below wr.heap.size wr W → W.cell? ad = some (.int .i64 a) ∧ W.cell? (ad.add 1) = some (.int .i64 b) ∧ W.cell? ⟨ad.block, ad.off + 1, none⟩ = some (.int .i64 b) ∧ W.cell? (ad.add 2) = some (.int .i64 d) ∧ W.cell? ⟨ad.block, ad.off + 2, none⟩ = some (.int .i64 d) := fun W hb => by
      have q : ∀ (p : Addr) (v : Value), wr.cell? p = some v → W.cell? p = some v := fun p v e => (hb.cell (p := p) (World.block_lt_of_cell? wr _ e)).trans e
      exact ⟨q _ _ q0, q _ _ q1, q _ _ q1, q _ _ q2, q _ _ q2⟩
     have HC := Lib.hid hcc
     have HY := Lib.hid hyy
     clear hcc hyy hri q0 q1 q2 hm
     have b4 : (x.f0 == 4) = false := beq_eq_false_iff_ne.2 (by omega)
     have b5 : (x.f0 == 5) = false := beq_eq_false_iff_ne.2 (by omega)
     have b6 : (x.f0 == 6) = false := beq_eq_false_iff_ne.2 (by omega)
     have b7 : (x.f0 == 7) = false := beq_eq_false_iff_ne.2 (by omega)
     have b8 : (x.f0 == 8) = false := beq_eq_false_iff_ne.2 (by omega)
     have hres2 : RES = (clampZ a b d, 0) := by rw [hres, hkk]; rfl
     have HRES := Lib.hid hres2
     clear hres hres2
     have hw := clamp_ways a b d
     obtain ⟨CL, hCL⟩ : ∃ CL, clampZ a b d = CL := ⟨_, rfl⟩
     rw [hCL] at hw
     have HCL := Lib.hid hCL
     clear hCL
     rcases hw with ⟨g1, hcl⟩ | ⟨g1, g2, g3, hcl⟩ | ⟨g1, g2, g3, hcl⟩
     all_goals
      have HCL2 := Lib.hid (HCL.out.trans hcl)
      clear hcl HCL
      go_upto_region 27 with fail
      have hy := HY.out
      refine start_ (n := 7) (S := fun w' => w'.cell? ad = some (.int .i64 a) ∧ w'.cell? (ad.add 1) = some (.int .i64 b) ∧ w'.cell? ⟨ad.block, ad.off + 1, none⟩ = some (.int .i64 b) ∧ w'.cell? (ad.add 2) = some (.int .i64 d) ∧ w'.cell? ⟨ad.block, ad.off + 2, none⟩ = some (.int .i64 d)) (ds := []) #[false, false, false, false, false, false, false] (by kernel_rfl) rfl rfl ⟨hy.1, hy.2.1, hy.2.2.1, hy.2.2.2.1, hy.2.2.2.2⟩ (fun hHeld => ?_)
      obtain ⟨wd, hwd⟩ : ∃ W, W = wr.drew := ⟨_, rfl⟩
      rw [← hwd] at hHeld
      rw [← hwd]
      have hdr : Below wr.heap.size wr wd := by rw [hwd]; exact s_drew (Below.refl _ _)
      have HBd := Lib.hid hdr
      clear hwd hdr
      refine pure_ (i := 0) (N := some 101) (v := ?_) (a' := ?_) #[true, false, false, false, false, false, false] rfl rfl (by kernel_rfl) (fun _ _ _ h => h) (Or.inl ⟨by rfl, ?_⟩) ?_ ?_
      rotate_left
      ·intro w'
       go_simp
       with_reducible rfl
      rotate_left
      ·simp only [Act.put, List.setIfInBounds_toArray, List.set_cons_zero, List.set_cons_succ, i64_w, i32_w]
       rfl
      refine pure_ (i := 1) (N := some 102) (v := ?_) (a' := ?_) #[true, true, false, false, false, false, false] rfl rfl (by kernel_rfl) (fun _ _ _ h => h) (Or.inl ⟨by rfl, ?_⟩) ?_ ?_
      rotate_left
      ·intro w'
       go_simp
       with_reducible rfl
      rotate_left
      ·simp only [Act.put, List.setIfInBounds_toArray, List.set_cons_zero, List.set_cons_succ, i64_w, i32_w]
       rfl
      refine pure_ (i := 3) (N := some 104) (v := ?_) (a' := ?_) #[true, true, false, true, false, false, false] rfl rfl (by kernel_rfl) (fun _ _ _ h => h) (Or.inl ⟨by rfl, ?_⟩) ?_ ?_
      rotate_left
      ·intro w'
       go_simp
       with_reducible rfl
      rotate_left
      ·simp only [Act.put, List.setIfInBounds_toArray, List.set_cons_zero, List.set_cons_succ, i64_w, i32_w]
       rfl
      refine pure_ (i := 4) (N := some 105) (v := ?_) (a' := ?_) #[true, true, false, true, true, false, false] rfl rfl (by kernel_rfl) (fun _ _ _ h => h) (Or.inl ⟨by rfl, ?_⟩) ?_ ?_
      rotate_left
      ·intro w'
       go_simp
       with_reducible rfl
      rotate_left
      ·simp only [Act.put, List.setIfInBounds_toArray, List.set_cons_zero, List.set_cons_succ, i64_w, i32_w]
       rfl
      refine take_ (i := 2) (N := some 103) (v := ?_) (a' := ?_) #[true, true, true, true, true, false, false] rfl rfl (by kernel_rfl) (fun _ _ _ h => h) (Or.inl ⟨by rfl, ?_⟩) hHeld ?_ ?_
      rotate_left
      ·rintro w' ⟨s0, s1, s2, s3, s4⟩
       go_simp
       with_reducible rfl
      rotate_left
      ·simp only [Act.put, List.setIfInBounds_toArray, List.set_cons_zero, List.set_cons_succ, i64_w, i32_w]
       rfl
      refine take_ (i := 5) (N := some 106) (v := ?_) (a' := ?_) #[true, true, true, true, true, true, false] rfl rfl (by kernel_rfl) (fun _ _ _ h => h) (Or.inl ⟨by rfl, ?_⟩) hHeld ?_ ?_
      rotate_left
      ·rintro w' ⟨s0, s1, s2, s3, s4⟩
       go_simp
       with_reducible rfl
      rotate_left
      ·simp only [Act.put, List.setIfInBounds_toArray, List.set_cons_zero, List.set_cons_succ, i64_w, i32_w]
       rfl
      refine pure_ (i := 6) (N := some 107) (v := ?_) (a' := ?_) #[true, true, true, true, true, true, true] rfl rfl (by kernel_rfl) (fun _ _ _ h => h) (Or.inl ⟨by rfl, ?_⟩) ?_ ?_
      rotate_left
      ·intro w'
       go_simp
       with_reducible rfl
      rotate_left
      ·simp only [Act.put, List.setIfInBounds_toArray, List.set_cons_zero, List.set_cons_succ, i64_w, i32_w]
       rfl
      refine done_ (by kernel_rfl) ?_
      first
       | (go_upto_region 29 with fail
          have hy := HC.out _ HBd.out
          refine start_ (n := 7) (S := fun w' => w'.cell? ad = some (.int .i64 a) ∧ w'.cell? (ad.add 1) = some (.int .i64 b) ∧ w'.cell? ⟨ad.block, ad.off + 1, none⟩ = some (.int .i64 b) ∧ w'.cell? (ad.add 2) = some (.int .i64 d) ∧ w'.cell? ⟨ad.block, ad.off + 2, none⟩ = some (.int .i64 d)) (ds := []) #[false, false, false, false, false, false, false] (by kernel_rfl) rfl rfl ⟨hy.1, hy.2.1, hy.2.2.1, hy.2.2.2.1, hy.2.2.2.2⟩ (fun hHeld => ?_)
          obtain ⟨we, hwe⟩ : ∃ W, W = wd.drew := ⟨_, rfl⟩
          rw [← hwe] at hHeld
          rw [← hwe]
          have hdr2 : Below wd.heap.size wd we := by rw [hwe]; exact s_drew (Below.refl _ _)
          have HBe := Lib.hid (s_trans HBd.out hdr2)
          clear hwe hdr2
          refine pure_ (i := 0) (N := some 111) (v := ?_) (a' := ?_) #[true, false, false, false, false, false, false] rfl rfl (by kernel_rfl) (fun _ _ _ h => h) (Or.inl ⟨by rfl, ?_⟩) ?_ ?_
          rotate_left
          ·intro w'
           go_simp
           with_reducible rfl
          rotate_left
          ·simp only [Act.put, List.setIfInBounds_toArray, List.set_cons_zero, List.set_cons_succ, i64_w, i32_w]
           rfl
          refine pure_ (i := 1) (N := some 112) (v := ?_) (a' := ?_) #[true, true, false, false, false, false, false] rfl rfl (by kernel_rfl) (fun _ _ _ h => h) (Or.inl ⟨by rfl, ?_⟩) ?_ ?_
          rotate_left
          ·intro w'
           go_simp
           with_reducible rfl
          rotate_left
          ·simp only [Act.put, List.setIfInBounds_toArray, List.set_cons_zero, List.set_cons_succ, i64_w, i32_w]
           rfl
          refine pure_ (i := 3) (N := some 114) (v := ?_) (a' := ?_) #[true, true, false, true, false, false, false] rfl rfl (by kernel_rfl) (fun _ _ _ h => h) (Or.inl ⟨by rfl, ?_⟩) ?_ ?_
          rotate_left
          ·intro w'
           go_simp
           with_reducible rfl
          rotate_left
          ·simp only [Act.put, List.setIfInBounds_toArray, List.set_cons_zero, List.set_cons_succ, i64_w, i32_w]
           rfl
          refine pure_ (i := 4) (N := some 115) (v := ?_) (a' := ?_) #[true, true, false, true, true, false, false] rfl rfl (by kernel_rfl) (fun _ _ _ h => h) (Or.inl ⟨by rfl, ?_⟩) ?_ ?_
          rotate_left
          ·intro w'
           go_simp
           with_reducible rfl
          rotate_left
          ·simp only [Act.put, List.setIfInBounds_toArray, List.set_cons_zero, List.set_cons_succ, i64_w, i32_w]
           rfl
          refine take_ (i := 2) (N := some 113) (v := ?_) (a' := ?_) #[true, true, true, true, true, false, false] rfl rfl (by kernel_rfl) (fun _ _ _ h => h) (Or.inl ⟨by rfl, ?_⟩) hHeld ?_ ?_
          rotate_left
          ·rintro w' ⟨s0, s1, s2, s3, s4⟩
           go_simp
           with_reducible rfl
          rotate_left
          ·simp only [Act.put, List.setIfInBounds_toArray, List.set_cons_zero, List.set_cons_succ, i64_w, i32_w]
           rfl
          refine take_ (i := 5) (N := some 116) (v := ?_) (a' := ?_) #[true, true, true, true, true, true, false] rfl rfl (by kernel_rfl) (fun _ _ _ h => h) (Or.inl ⟨by rfl, ?_⟩) hHeld ?_ ?_
          rotate_left
          ·rintro w' ⟨s0, s1, s2, s3, s4⟩
           go_simp
           with_reducible rfl
          rotate_left
          ·simp only [Act.put, List.setIfInBounds_toArray, List.set_cons_zero, List.set_cons_succ, i64_w, i32_w]
           rfl
          refine pure_ (i := 6) (N := some 117) (v := ?_) (a' := ?_) #[true, true, true, true, true, true, true] rfl rfl (by kernel_rfl) (fun _ _ _ h => h) (Or.inl ⟨by rfl, ?_⟩) ?_ ?_
          rotate_left
          ·intro w'
           go_simp
           with_reducible rfl
          rotate_left
          ·simp only [Act.put, List.setIfInBounds_toArray, List.set_cons_zero, List.set_cons_succ, i64_w, i32_w]
           rfl
          refine done_ (by kernel_rfl) ?_
          obtain ⟨z0, z1, z2, z3, z4⟩ := HC.out _ HBe.out
          go_wp2
          go_ret2
          exact ⟨by rw [HRES.out, HCL2.out]; rfl, s_trans HB0.out (s_trans HB.out HBe.out)⟩)
       | (obtain ⟨z0, z1, z2, z3, z4⟩ := HC.out _ HBd.out
          go_wp2
          go_ret2
          exact ⟨by rw [HRES.out, HCL2.out]; rfl, s_trans HB0.out (s_trans HB.out HBd.out)⟩)
theorem valr_n (rows : List S45) (hl : rows.length ≤ 700) (bs : List S35) (hbl : bs.length ≤ 1000000) : ∀ (n : Nat) (x : S25), SizeOf.sizeOf x < n → Fit x → Small x → rightB x = true → ValueR rows bs x
 | 0, x, h, _, _, _ => by omega
 | n + 1, x, h, hf, hs, hg => valr_step rows hl bs hbl x hf hs hg (fun y hy hg2 => valr_n rows hl bs hbl n y (by have := kid_lt hy; omega) (hf.kids.2.2 y hy) (hs.kids.2 y hy) hg2)
theorem valr_any (rows : List S45) (hl : rows.length ≤ 700) (bs : List S35) (hbl : bs.length ≤ 1000000) (x : S25) (hf : Fit x) (hs : Small x) (hg : rightB x = true) : ValueR rows bs x := valr_n rows hl bs hbl (SizeOf.sizeOf x + 1) x (Nat.lt_succ_self _) hf hs hg
end Go.Proofs.YtnaglnifpejpjaaGreatDoor.Ch
