/-
  What an expression is (plain); desk.value.
-/
import Derived.Test.YtnaglnifpejpjaaGreatDoorREvA
import Derived.Test.YtnaglnifpejpjaaGreatDoorRCkA
namespace Go.Proofs.YtnaglnifpejpjaaGreatDoor.Ch
set_option linter.unusedVariables false
set_option linter.unusedSimpArgs false
set_option linter.unnecessarySimpa false
open Go.RowKit Go.Proofs.YtnaglnifpejpjaaGreatDoorK Go.Proofs.YtnaglnifpejpjaaGreatDoor.XEvalRuns Go.Proofs.YtnaglnifpejpjaaGreatDoorW.PrintWords Go.Proofs.YtnaglnifpejpjaaGreatDoorW.PrintLast

mutual
def evB (rows : List S45) (K : Int → Int × Bool) : S25 → Int × Int
 | ⟨k, n, f, fs, ks⟩ => if k = 1 then (n, 0) else if k = 2 then refE K n else if k = 3 then totE rows ⟨k, n, f, fs, ks⟩ else if (evL rows K ks).2 = 0 then madeE k (evL rows K ks).1 else (0, (evL rows K ks).2)
def evL (rows : List S45) (K : Int → Int × Bool) : List S25 → List Int × Int
 | [] => ([], 0)
 | x :: xs => if (evB rows K x).2 = 0 then ((evB rows K x).1 :: (evL rows K xs).1, (evL rows K xs).2) else ([], (evB rows K x).2)
end
theorem evB_eq (rows : List S45) (K : Int → Int × Bool) (x : S25) : evB rows K x = if x.f0 = 1 then (x.f1, 0) else if x.f0 = 2 then refE K x.f1 else if x.f0 = 3 then totE rows x else if (evL rows K x.f4).2 = 0 then madeE x.f0 (evL rows K x.f4).1 else (0, (evL rows K x.f4).2) := by
 obtain ⟨k, n, f, fs, ks⟩ := x
 rw [evB]
theorem evL_drop (rows : List S45) (K : Int → Int × Bool) (l : List S25) (q : Nat) (h : q < l.length) : evL rows K (l.drop q) = if (evB rows K l[q]).2 = 0 then ((evB rows K l[q]).1 :: (evL rows K (l.drop (q + 1))).1, (evL rows K (l.drop (q + 1))).2) else ([], (evB rows K l[q]).2) := by
 rw [List.drop_eq_getElem_cons h, evL]
theorem rightL_mem {l : List S25} (h : rightL l = true) (y : S25) (hy : y ∈ l) : rightB y = true := by
 rw [rightL_all] at h
 cases hb : rightB y with
 | true => rfl
 | false =>
   have : l.any (fun y => !rightB y) = true := List.any_eq_true.2 ⟨y, hy, by simp [hb]⟩
   rw [this] at h
   cases h
theorem right_split {x : S25} (h : rightB x = true) : (x.f0 = 1 ∧ numB x.f1 = true) ∨ x.f0 = 2 ∨ x.f0 = 3 ∨ ((x.f0 = 6 ∧ x.f4.length = 1 ∨ (x.f0 = 4 ∨ x.f0 = 5 ∨ x.f0 = 7 ∨ x.f0 = 8) ∧ x.f4.length = 2 ∨ x.f0 = 9 ∧ x.f4.length = 3) ∧ ∀ y ∈ x.f4, rightB y = true) := by
 rw [right_eq] at h
 by_cases h1 : x.f0 = 1
 ·left
  refine ⟨h1, ?_⟩
  split at h
  ·cases h
  split at h
  ·cases h
  split at h
  ·cases h
  split at h
  ·cases h
  exact h
 by_cases h2 : x.f0 = 2
 ·exact .inr (.inl h2)
 by_cases h3 : x.f0 = 3
 ·exact .inr (.inr (.inl h3))
 right; right; right
 split at h
 ·cases h
 rename_i hk
 split at h
 ·cases h
 rename_i hlen
 split at h
 ·cases h
 split at h
 ·cases h
 first
  | rw [if_neg h1, if_neg h2] at h
  | skip
 split at h
 ·cases h
 first
  | rw [if_neg h3] at h
  | skip
 refine ⟨?_, rightL_mem h⟩
 unfold kidsB at hk hlen
 rw [if_neg (by omega)] at hk hlen
 by_cases h6 : x.f0 = 6
 ·rw [if_pos h6] at hlen
  exact .inl ⟨h6, by simp at hlen; omega⟩
 rw [if_neg h6] at hk hlen
 by_cases h4 : x.f0 = 4 ∨ x.f0 = 5 ∨ x.f0 = 7 ∨ x.f0 = 8
 ·rw [if_pos h4] at hlen
  exact .inr (.inl ⟨h4, by simp at hlen; omega⟩)
 rw [if_neg h4] at hk hlen
 by_cases h9 : x.f0 = 9
 ·rw [if_pos h9] at hlen
  exact .inr (.inr ⟨h9, by simp at hlen; omega⟩)
 ·rw [if_neg h9] at hk
  simp at hk
/-- desk.value at x. -/
def ValueAt (rows : List S45) (K : Int → Int × Bool) (x : S25) : Prop := ∀ (A4 : Option Addr) (c4 : Nat) (A5 : Option Addr) (c5 : Nat) (fv : Value) (A : Option Addr) (c : Nat) (w : World), EIn w x A4 c4 A5 c5 → KnownF w fv K → Kd.C k45 w A rows.length rows → rows.length ≤ c →
 Calls Tryz.prog 27 #[.agg #[.slice A rows.length c, fv], eV x A4 c4 A5 c5] w fun e w' => e = .returned (.tuple #[.int .i64 (evB rows K x).1, .int .i64 (evB rows K x).2]) ∧ Below w.heap.size w w'
/-- made, at what may be. -/
theorem made_any (k : Int) (A : Option Addr) (c : Nat) (L : List Int) (w : World) (h : Money.RInt w A L.length L) (hk : k = 6 ∧ L.length = 1 ∨ (k = 4 ∨ k = 5 ∨ k = 7 ∨ k = 8) ∧ L.length = 2 ∨ k = 9 ∧ L.length = 3) :
 Calls Tryz.prog 60 #[.int .i64 k, .slice A L.length c] w fun e w' => e = .returned (.tuple #[.int .i64 (madeE k L).1, .int .i64 (madeE k L).2]) ∧ Below w.heap.size w w' := by
 rcases hk with ⟨rfl, hl⟩ | ⟨hk, hl⟩ | ⟨rfl, hl⟩
 ·match L, hl with
  | [a], _ => exact made_6 A c a w h
 ·match L, hl with
  | [a, b], _ =>
    rcases hk with rfl | rfl | rfl | rfl
    ·exact made_4 A c a b w h
    ·exact made_5 A c a b w h
    ·exact made_7 A c a b w h
    ·exact made_8 A c a b w h
 ·match L, hl with
  | [a, b, d], _ => exact made_9 A c a b d w h
set_option maxRecDepth 100000 in
set_option maxHeartbeats 4000000 in
theorem value_step (rows : List S45) (hl : rows.length ≤ 1000000) (K : Int → Int × Bool) (x : S25) (hs : Small x) (hg : rightB x = true) (ih : ∀ y ∈ x.f4, rightB y = true → ValueAt rows K y) : ValueAt rows K x := by
 intro A4 c4 A5 c5 fv A c w hin hkn hr hc
 have hmf : ∀ (fn : Fn) (first cap : Array Value) (w : World), (Instr.makeFunc fn first cap).run Tryz.prog w = .ok (.func fn first cap) w := fun _ _ _ _ => rfl
 have hE := evB_eq rows K x
 have hsp := right_split hg
 obtain ⟨i0, hi0, hz0, hzs, hzb⟩ := info_parts infoI
 have hx0 : ((w.alloc (.cells #[.slice A rows.length c, fv] 73)).alloc (.cells #[.int .i64 x.f0, .int .i64 x.f1, .string x.f2, .slice A4 x.f3.length c4, .slice A5 x.f4.length c5] 25)).heap[w.heap.size]? = some (.cells #[.slice A rows.length c, fv] 73 (0, 0)) := two_old
 have hx1 : ((w.alloc (.cells #[.slice A rows.length c, fv] 73)).alloc (.cells #[.int .i64 x.f0, .int .i64 x.f1, .string x.f2, .slice A4 x.f3.length c4, .slice A5 x.f4.length c5] 25)).heap[w.heap.size + 1]? = some (.cells #[.int .i64 x.f0, .int .i64 x.f1, .string x.f2, .slice A4 x.f3.length c4, .slice A5 x.f4.length c5] 25 (0, 0)) := two_new
 have hb0 : Below w.heap.size w ((w.alloc (.cells #[.slice A rows.length c, fv] 73)).alloc (.cells #[.int .i64 x.f0, .int .i64 x.f1, .string x.f2, .slice A4 x.f3.length c4, .slice A5 x.f4.length c5] 25)) := s_alloc (s_alloc (Below.refl _ _) _) _
 obtain ⟨W1, hW⟩ : ∃ W : World, W = ((w.alloc (.cells #[.slice A rows.length c, fv] 73)).alloc (.cells #[.int .i64 x.f0, .int .i64 x.f1, .string x.f2, .slice A4 x.f3.length c4, .slice A5 x.f4.length c5] 25)) := ⟨_, rfl⟩
 rw [← hW] at hx0 hx1 hb0
 have HX0 := Lib.hid hx0
 have HX1 := Lib.hid hx1
 have HB0 := Lib.hid hb0
 have HR := Lib.hid (Kd.C_below hr hb0)
 have HIN := Lib.hid (hin.below hb0)
 have HKN := Lib.hid (hkn.below hb0)
 obtain ⟨y0, y1, y2, y3, y4⟩ := cells5 hx1
 obtain ⟨z0, z1⟩ := cells2 hx0
 clear hr hin hkn hx0 hx1 hb0 hg
 rw [hE]
 clear hE
 rcases hsp with ⟨h1, _⟩ | h2 | h3 | ⟨hk, hkids⟩
 ·have b1 : (x.f0 == 1) = true := beq_iff_eq.2 h1
  rw [if_pos h1]
  clear h1 ih hs
  go_enter Tryz.func27, Tryz.ntmps27
  go_upto_region 1 with fail
  rw [← hW]
  clear hW
  go_wp2_with (go_at_call 57; refine (kept_any _ _).mono ?_; rintro e w2 ⟨rfl, hb⟩; have HB2 := Lib.hid (s_trans HB0.out hb); clear hb)
  go_ret2
  exact ⟨rfl, HB2.out⟩
 ·have b1 : (x.f0 == 1) = false := beq_eq_false_iff_ne.2 (by omega)
  have b2 : (x.f0 == 2) = true := beq_iff_eq.2 h2
  rw [if_neg (by omega), if_pos h2]
  clear h2 ih hs
  go_enter Tryz.func27, Tryz.ntmps27
  go_upto_region 1 with fail
  rw [← hW]
  clear hW
  go_wp2_with (go_at_call 58; refine (ref_any K fv A rows.length c x.f1 _ HKN.out).mono ?_; rintro e w2 ⟨rfl, hb⟩; have HB2 := Lib.hid (s_trans HB0.out hb); clear hb)
  go_ret2
  exact ⟨rfl, HB2.out⟩
 ·have b1 : (x.f0 == 1) = false := beq_eq_false_iff_ne.2 (by omega)
  have b2 : (x.f0 == 2) = false := beq_eq_false_iff_ne.2 (by omega)
  have b3 : (x.f0 == 3) = true := beq_iff_eq.2 h3
  rw [if_neg (by omega), if_neg (by omega), if_pos h3]
  have htt := total_any x hs A4 c4 A5 c5 fv A c rows W1 HIN.out HR.out hc hl
  have HTT := Lib.hid htt
  clear h3 ih hs htt
  go_enter Tryz.func27, Tryz.ntmps27
  go_upto_region 1 with fail
  rw [← hW]
  clear hW
  go_wp2_with (go_at_call 59; refine HTT.out.mono ?_; rintro e w2 ⟨rfl, hb⟩; have HB2 := Lib.hid (s_trans HB0.out hb); clear hb)
  go_ret2
  exact ⟨rfl, HB2.out⟩
 ·have b1 : (x.f0 == 1) = false := beq_eq_false_iff_ne.2 (by omega)
  have b2 : (x.f0 == 2) = false := beq_eq_false_iff_ne.2 (by omega)
  have b3 : (x.f0 == 3) = false := beq_eq_false_iff_ne.2 (by omega)
  rw [if_neg (by omega), if_neg (by omega), if_neg (by omega)]
  have hih : ∀ y ∈ x.f4, ValueAt rows K y := fun y hy => ih y hy (hkids y hy)
  have hkl : x.f4.length ≤ 3 := by omega
  obtain ⟨E, hEv⟩ : ∃ E, evL rows K x.f4 = E := ⟨_, rfl⟩
  rw [hEv]
  obtain ⟨RES, hRS⟩ : ∃ RES, (if E.2 = 0 then madeE x.f0 E.1 else (0, E.2)) = RES := ⟨_, rfl⟩
  rw [hRS]
  have HRS := Lib.hid hRS
  clear hRS
  have HEV := Lib.hid hEv
  have HIH := Lib.hid hih
  have HK := Lib.hid hk
  clear ih hs hk hkids hih hEv
  go_enter Tryz.func27, Tryz.ntmps27
  go_upto_region 1 with fail
  rw [← hW]
  clear hW
  go_wp2
  clear y0 y1 y2 y3 y4 z0 z1
  go_loopw [7, 41] (fun v i wr => ∃ (q : Nat) (L : List Int), q ≤ x.f4.length ∧ i = .int .i64 q ∧ Hid (L.length = q) ∧ Hid (E = (L ++ (evL rows K (x.f4.drop q)).1, (evL rows K (x.f4.drop q)).2)) ∧ Hid (Below W1.heap.size W1 wr) ∧ Hid (wr.ownsRow W1.heap.size 3 1 v L.length (L.map (Value.int .i64)))) (fun _ i _ => x.f4.length - (intOf i).toNat)
  case atStart => exact ⟨0, [], Nat.zero_le _, rfl, Lib.hid rfl, by rw [List.drop_zero, HEV.out]; exact Lib.hid rfl, Lib.hid (Below.refl _ _), Lib.hid (World.ownsRow_nil _ _ _ _)⟩
  case round =>
   obtain ⟨q, L, hq, rfl, HL, HE, HB, HO⟩ := hrel
   by_cases hlt : q < x.f4.length
   ·obtain ⟨ad0, A6, c6, A7, c7, e0, q0, q1, q2, q3, q4, g5, g6, g7, g8⟩ := at_T25 (Kd.C_below HIN.out.c4 HB.out) (q : Int) (by omega) (by omega)
    have hy : rd_T25 x.f4 (q : Int) = x.f4[q] := by unfold rd_T25; rw [Int.toNat_natCast, List.getD_eq_getElem?_getD, List.getElem?_eq_getElem hlt]; rfl
    have hed := evL_drop rows K x.f4 q hlt
    have hmem := List.getElem_mem hlt
    rw [hy] at q0 q1 q2 q3 q4 g5 g6 g7 g8
    rw [Int.toNat_natCast] at q0 q1 q2 q3 q4
    cases e0
    generalize x.f4[q] = y at *
    clear hy
    have hval := fun W (hb : Below wr.heap.size wr W) => HIH.out y hmem A6 c6 A7 c7 fv A c W (EIn.below ⟨g5, g6, g7, g8⟩ hb) (HKN.out.below (s_trans HB.out hb)) (Kd.C_below HR.out (s_trans HB.out hb)) hc
    clear g5 g6 g7 g8
    obtain ⟨R, hR⟩ : ∃ R, evL rows K (x.f4.drop (q + 1)) = R := ⟨_, rfl⟩
    rw [hR] at hed
    have HRR := Lib.hid hR
    clear hR
    obtain ⟨v, e, hve⟩ : ∃ v e, evB rows K y = (v, e) := ⟨_, _, rfl⟩
    rw [hve] at hed hval
    have hE2 := HE.out
    rw [hed] at hE2
    clear hed hve
    by_cases he : e = 0
    ·subst he
     rw [if_pos rfl] at hE2
     have hE3 : E = ((L ++ [v]) ++ R.1, R.2) := by rw [hE2, List.append_assoc]; rfl
     have HE3 := Lib.hid hE3
     have HVAL := Lib.hid hval
     clear hE2 hE3 hval
     go_upto_region 16 with (go_at_call 27; refine (HVAL.out _ (s_alloc (Below.refl _ _) _)).mono ?_; rintro e w3 ⟨rfl, hb⟩; have HB3 := Lib.hid (s_trans (s_alloc (Below.refl _ _) _) hb); clear hb)
     clear q0 q1 q2 q3 q4
     obtain ⟨wy, hwy⟩ : ∃ W : World, W = w3.alloc (.cells #[.int .i64 v] 3) := ⟨_, rfl⟩
     have hby : Below w3.heap.size w3 wy := by rw [hwy]; exact s_alloc (Below.refl _ _) _
     have hOy := own_on (own_on HO.out HB3.out) hby
     have hnews := int_news w3 v
     rw [← hwy] at hnews
     have hBy := s_trans (s_trans HB.out HB3.out) hby
     have hbase : W1.heap.size ≤ wy.heap.size := hBy.size
     have HOY := Lib.hid hOy
     have HNW := Lib.hid hnews
     have HBY := Lib.hid hBy
     obtain ⟨ad5, cap5, e5⟩ := own_slice hOy
     cases e5
     have hLle : L.length ≤ 3 := by have := HL.out; omega
     clear hby hOy hnews hBy
     go_wp2_with (at_builtin; (try rw [← hwy]); refine wpList_append_own_at _ rfl _ _ 49 rfl W1.heap.size 3 i0 _ 1 8 Tryz.underlying49 hi0 hz0 hzs hzb rfl (by decide) _ _ _ rfl HOY.out ⟨w3.heap.size, 0, none⟩ 1 1 [.int .i64 v] rfl rfl HNW.out (by simp [Value.oneCell']) (by unfold maxLen; omega) (by omega) hbase ?_; intro v' w5 hown5 hg5 _ hat5; obtain ⟨ad', cap', rfl⟩ := own_slice hown5; have HO5 := Lib.hid hown5; have HG5 := Lib.hid hg5; clear hown5 hg5 hat5 hwy)
     go_roundw
     case rel => exact ⟨q + 1, L ++ [v], by omega, by go_num, Lib.hid (by rw [List.length_append, HL.out]; rfl), by rw [HRR.out]; exact HE3, Lib.hid (low_grow HBY.out HOY.out HG5.out), by rw [List.length_append, List.map_append]; exact HO5⟩
     case measure => simp [intOf]; omega
    ·rw [if_neg he] at hE2
     have hres : RES = (0, e) := by rw [← HRS.out, hE2]; exact if_neg he
     have hne : (e != 0) = true := by simp [bne, he]
     have HRES := Lib.hid hres
     have HVAL := Lib.hid hval
     clear hE2 hval hres he
     go_wp2_with (go_at_call 27; refine (HVAL.out _ (s_alloc (Below.refl _ _) _)).mono ?_; rintro e' w3 ⟨rfl, hb⟩; have HB3 := Lib.hid (s_trans (s_alloc (Below.refl _ _) _) hb); clear hb)
     go_ret2
     exact ⟨by rw [HRES.out]; rfl, s_trans HB0.out (s_trans HB.out HB3.out)⟩
   ·obtain rfl : q = x.f4.length := by omega
    have hE2 := HE.out
    rw [List.drop_length, evL, List.append_nil] at hE2
    have hres : RES = madeE x.f0 L := by rw [← HRS.out, hE2]; exact if_pos rfl
    have hO := HO.out
    obtain ⟨ad5, cap5, rfl⟩ := own_slice hO
    have hmade := made_any x.f0 ad5 cap5 L wr (own_rint hO (by have := HL.out; omega)) (by rw [HL.out]; exact HK.out)
    have HRES := Lib.hid hres
    have HMADE := Lib.hid hmade
    clear hE2 hres hO hmade
    obtain ⟨y0, y1, y2, y3, y4⟩ := cells5 (block_on HB.out HX1.out)
    go_wp2_with (go_at_call 60; refine HMADE.out.mono ?_; rintro e w3 ⟨rfl, hb⟩; have HB3 := Lib.hid (s_trans (s_trans HB0.out HB.out) hb); clear hb)
    go_ret2
    exact ⟨by rw [HRES.out]; rfl, HB3.out⟩
theorem value_n (rows : List S45) (hl : rows.length ≤ 1000000) (K : Int → Int × Bool) : ∀ (n : Nat) (x : S25), SizeOf.sizeOf x < n → Small x → rightB x = true → ValueAt rows K x
 | 0, x, h, _, _ => by omega
 | n + 1, x, h, hs, hg => value_step rows hl K x hs hg (fun y hy hg2 => value_n rows hl K n y (by have := kid_lt hy; omega) (hs.kids.2 y hy) hg2)
theorem value_any (rows : List S45) (hl : rows.length ≤ 1000000) (K : Int → Int × Bool) (x : S25) (hs : Small x) (hg : rightB x = true) : ValueAt rows K x := value_n rows hl K (SizeOf.sizeOf x + 1) x (Nat.lt_succ_self _) hs hg
end Go.Proofs.YtnaglnifpejpjaaGreatDoor.Ch
