/-
  EvalOne: the law's walk (written by mkev9.py).
-/
import Derived.Test.YtnaglnifpejpjaaGreatDoorQEvB
namespace Go.Proofs.YtnaglnifpejpjaaGreatDoor.Ch
set_option linter.unusedVariables false
set_option linter.unusedSimpArgs false
set_option linter.unnecessarySimpa false
open Go.RowKit Go.Proofs.YtnaglnifpejpjaaGreatDoorK Go.Proofs.YtnaglnifpejpjaaGreatDoor.XEvalRuns Go.Proofs.YtnaglnifpejpjaaGreatDoorW.PrintWords Go.Proofs.YtnaglnifpejpjaaGreatDoorW.PrintLast Go.Proofs.YtnaglnifpejpjaaGreatDoor.BX

/-- The first box of that number. -/
def lookE : List S33 → Int → Int × Bool
 | [], _ => (0, false)
 | b :: bs, n => if b.f0 = n then (b.f1, true) else lookE bs n
def toR (b : S33) : S35 := ⟨b.f0, b.f1, true⟩
theorem look_toR : ∀ (l : List S33), lookR (l.map toR) = lookE l
 | [] => rfl
 | b :: l => by
   funext n
   have ih := congrFun (look_toR l) n
   rw [List.map_cons, lookR, lookE, ih]
   by_cases h : b.f0 = n
   ·rw [if_pos h, if_pos ⟨h, rfl⟩]; rfl
   ·rw [if_neg h, if_neg (fun hh => h hh.1)]
set_option maxRecDepth 100000 in
set_option maxHeartbeats 4000000 in
theorem clos_any (g : Nat) (A : Option Addr) (c : Nat) (l : List S33) (n : Int) (w : World) (hg : w.heap[g]? = some (.cells #[.slice A l.length c] 27 (0, 0))) (hr : Kd.C k33 w A l.length l) (hc : l.length ≤ c) (hl : l.length ≤ 1000000) :
 Calls Tryz.prog 10 #[.int .i64 n, .pointer (some ⟨g, 0, none⟩)] w fun e w' => e = .returned (.tuple #[.int .i64 (lookE l n).1, .bool (lookE l n).2]) ∧ Below w.heap.size w w' := by
 have z0 := cells1 hg
 have HR := Lib.hid hr
 obtain ⟨RES, hRS⟩ : ∃ RES, lookE l n = RES := ⟨_, rfl⟩
 rw [hRS]
 have HRS := Lib.hid hRS
 clear hg hr hRS
 go_enter Tryz.func10, Tryz.ntmps10
 go_wp2
 clear z0
 go_loopw [9] (fun i wr => ∃ k : Nat, k ≤ l.length ∧ i = .int .i64 k ∧ Hid (lookE (l.drop k) n = RES) ∧ Hid (Below w.heap.size w wr)) (fun i _ => l.length - (intOf i).toNat)
 case atStart => exact ⟨0, Nat.zero_le _, rfl, by rw [List.drop_zero]; exact HRS, Lib.hid (Below.refl _ _)⟩
 case round =>
  obtain ⟨k, hk, rfl, HA, HB⟩ := hrel
  by_cases hlt : k < l.length
  ·obtain ⟨ad0, e0, q0, q1⟩ := at_T33 (Kd.C_below HR.out HB.out) (k : Int) (by omega) (by omega)
   have hy := rdEV l k hlt
   have hd := HA.out
   rw [List.drop_eq_getElem_cons hlt, lookE] at hd
   rw [hy] at q0 q1
   rw [Int.toNat_natCast] at q0 q1
   cases e0
   generalize l[k] = y at *
   clear hy
   by_cases he : y.f0 = n
   ·rw [if_pos he] at hd
    have b1 : (y.f0 == n) = true := beq_iff_eq.2 he
    have HD := Lib.hid hd
    clear hd he
    go_wp2
    go_ret2
    exact ⟨by rw [← HD.out]; rfl, s_alloc HB.out _⟩
   ·rw [if_neg he] at hd
    have b1 : (y.f0 == n) = false := beq_eq_false_iff_ne.2 he
    have HD := Lib.hid hd
    clear hd he
    go_wp2
    go_roundw
    case rel => exact ⟨k + 1, by omega, by go_num, HD, Lib.hid (s_alloc HB.out _)⟩
    case measure => simp [intOf]; omega
  ·obtain rfl : k = l.length := by omega
   have hd := HA.out
   rw [List.drop_length, lookE] at hd
   have HD := Lib.hid hd
   clear hd
   go_wp2
   go_ret2
   exact ⟨by rw [← HD.out]; rfl, HB.out⟩
theorem known1 (g : Nat) (A : Option Addr) (c : Nat) (l : List S33) (w : World) (hg : w.heap[g]? = some (.cells #[.slice A l.length c] 27 (0, 0))) (hr : Kd.C k33 w A l.length l) (hc : l.length ≤ c) (hl : l.length ≤ 1000000) : KnownF w (.func (.func 10) #[] #[.pointer (some ⟨g, 0, none⟩)]) (lookE l) :=
 Or.inr (Or.inl ⟨_, rfl, fun n W hb => clos_any g A c l n W (block_on hb hg) (Kd.C_below hr hb) hc hl⟩)
set_option maxRecDepth 100000 in
set_option maxHeartbeats 4000000 in
theorem few1_any (x : S25) (hf : Fit x) : ∃ r : Bool, (r = true → parts x ≤ 400) ∧ ∀ (A4 : Option Addr) (c4 : Nat) (A5 : Option Addr) (c5 : Nat) (w : World), EIn w x A4 c4 A5 c5 →
 Calls Tryz.prog 7 #[eV x A4 c4 A5 c5] w fun e w' => e = .returned (.bool r) ∧ Below w.heap.size w w' := by
 obtain ⟨a, r, ha, hm⟩ := Few_at [⟨1, x⟩] (by simp) (fun y hy => by rw [List.mem_singleton.1 hy]; exact hf)
 refine ⟨r, fun h => ((hm h).2 _ (List.mem_singleton.2 rfl)).2, fun A4 c4 A5 c5 w hin => ?_⟩
 have hfew : ∀ (W : World) (g : Nat), W.heap[g]? = some (.cells #[.int .i64 1, .int .i64 x.f0, .int .i64 x.f1, .string x.f2, .slice A4 x.f3.length c4, .slice A5 x.f4.length c5] 66 (0, 0)) → EIn W x A4 c4 A5 c5 → Calls Tryz.prog 17 #[.slice (some ⟨g, 0, none⟩) 1 1] W fun e w' => e = .returned (.bool r) ∧ Below W.heap.size W w' := fun W g hg hi => by
  have hk : Kd.C k66 W (some ⟨g, 0, none⟩) 1 [⟨1, x⟩] := kd_list [⟨1, x⟩] (fun b : S66 => [.int .i64 b.f0, .int .i64 b.f1.f0, .int .i64 b.f1.f1, .string b.f1.f2, .slice A4 b.f1.f3.length c4, .slice A5 b.f1.f4.length c5]) (fun b hb => by
   rw [List.mem_singleton.1 hb]
   exact ⟨k66_mk W ⟨1, x⟩ hi.l3 hi.c3 hi.l4 hi.c4, rfl⟩) _ rfl hg (by simp)
  exact octroilaw31_Few.calls a (some ⟨g, 0, none⟩) 1 [⟨1, x⟩] r W hk (Nat.le_refl _) ha
 have hb0 : Below w.heap.size w (w.alloc (.cells #[.int .i64 x.f0, .int .i64 x.f1, .string x.f2, .slice A4 x.f3.length c4, .slice A5 x.f4.length c5] 25)) := s_alloc (Below.refl _ _) _
 have hx1 : (w.alloc (.cells #[.int .i64 x.f0, .int .i64 x.f1, .string x.f2, .slice A4 x.f3.length c4, .slice A5 x.f4.length c5] 25)).heap[w.heap.size]? = some (.cells #[.int .i64 x.f0, .int .i64 x.f1, .string x.f2, .slice A4 x.f3.length c4, .slice A5 x.f4.length c5] 25 (0, 0)) := heap_alloc_last _ _
 obtain ⟨W1, hW⟩ : ∃ W : World, W = (w.alloc (.cells #[.int .i64 x.f0, .int .i64 x.f1, .string x.f2, .slice A4 x.f3.length c4, .slice A5 x.f4.length c5] 25)) := ⟨_, rfl⟩
 rw [← hW] at hx1 hb0
 have HIN := Lib.hid (hin.below hb0)
 have HB0 := Lib.hid hb0
 have HF := Lib.hid hfew
 obtain ⟨y0, y1, y2, y3, y4⟩ := cells5 hx1
 clear hin hx1 hb0 hfew hm ha
 go_enter Tryz.func7, Tryz.ntmps7
 go_upto_region 1 with fail
 rw [← hW]
 clear hW
 go_wp2_with (go_at_call 17; refine (HF.out _ W1.heap.size (heap_alloc_last W1 _) (HIN.out.below (s_alloc (Below.refl _ _) _))).mono ?_; rintro e w2 ⟨rfl, hb⟩; have HB2 := Lib.hid (s_trans (s_alloc HB0.out _) hb); clear hb)
 go_ret
 exact ⟨rfl, HB2.out⟩
/-! ### a row of one's own, of any kind -/
theorem own_sliceN {w : World} {base s : Nat} {e : TypeId} {v : Value} {n : Nat} {xs : List Value} (h : w.ownsRow base e s v n xs) : ∃ ad cap, v = .slice ad n cap := by
 rcases h.2 with ⟨rfl, h0⟩ | ⟨g', cap, cur, rfl, _⟩
 ·exact ⟨none, 0, by rw [h0]⟩
 ·exact ⟨_, _, rfl⟩
theorem own_kdn {α : Type} {d : Kd α} {w : World} {b : Nat} {e : TypeId} {l : List α} {A : Option Addr} {c : Nat} (f : α → List Value) (hf : ∀ x ∈ l, d.K w x (f x) ∧ (f x).length = d.sz) (h : w.ownsRow b e d.sz (.slice A l.length c) l.length (l.flatMap f)) (hl : l.length ≤ 1000) : Kd.C d w A l.length l ∧ l.length ≤ c := by
 rcases h.2 with ⟨he, h0⟩ | ⟨g, cap, cur, he, hbb, hg, hn, hcap, hcs, htk⟩
 ·have : l = [] := List.eq_nil_of_length_eq_zero h0
  subst this
  cases he
  exact ⟨kd_nil w, Nat.zero_le _⟩
 ·cases he
  refine ⟨⟨rfl, by omega, fun _ => ⟨_, rfl, fun j p hp => ?_⟩⟩, hn⟩
  obtain ⟨hjl, rfl⟩ := List.getElem?_eq_some_iff.1 hp
  obtain ⟨hK, hs⟩ := hf _ (List.getElem_mem hjl)
  refine ⟨f l[j], hs, hK, fun i u hu => ?_⟩
  have hi : i < d.sz := by rw [← hs]; exact (List.getElem?_eq_some_iff.1 hu).1
  rw [Addr.add_mid, Nat.zero_add, blk_cell hg]
  have h1 := flat_at f d.sz l (fun x hx => (hf x hx).2) j i hjl hi
  rw [← htk, hu] at h1
  have hlt : j * d.sz + i < l.length * d.sz := by
   have : (j + 1) * d.sz ≤ l.length * d.sz := Nat.mul_le_mul_right _ hjl
   rw [Nat.succ_mul] at this
   omega
  rw [List.getElem?_take_of_lt hlt] at h1
  simpa using h1
theorem cells_news (w : World) (cs : List Value) (t : TypeId) : ∀ j u, cs[j]? = some u → (w.alloc (.cells cs.toArray t)).cell? (Addr.add ⟨w.heap.size, 0, none⟩ j) = some u := fun j u hu => by
 rw [Addr.add_mid, Nat.zero_add, blk_cell (heap_alloc_last w _)]
 simpa using hu
theorem infoRV : (Tryz.prog.info? 35).map (fun i => (i.zero, i.size, i.bytes)) = some (some (.agg #[.int .i64 0, .int .i64 0, .bool false]), 3, 24) := by kernel_rfl
abbrev rvC (b : S33) : List Value := [.int .i64 b.f0, .int .i64 b.f1, .bool true]
theorem sel_len_map (l : List S33) : (l.map toR).length = l.length := List.length_map ..
set_option maxRecDepth 100000 in
set_option maxHeartbeats 16000000 in
theorem law1_any (x : S25) (hf : Fit x) (ht : Thin x) (rows : List S45) (hrl : rows.length ≤ 140737488351232) (hrt : ∀ r ∈ rows, ThinRow r) (boxes : List S33) (A4 : Option Addr) (c4 : Nat) (A5 : Option Addr) (c5 : Nat) (A : Option Addr) (c : Nat) (A2 : Option Addr) (c2 : Nat) (w : World) (hT : Tab w) (hin : EIn w x A4 c4 A5 c5) (hr : Kd.C k45 w A rows.length rows) (hc : rows.length ≤ c) (hr2 : Kd.C k33 w A2 boxes.length boxes) (hc2 : boxes.length ≤ c2) :
 Calls Tryz.prog 3 #[eV x A4 c4 A5 c5, .slice A rows.length c, .slice A2 boxes.length c2] w fun e w' => e = .returned (.bool true) ∧ Below w.heap.size w w' := by
 obtain ⟨fw, hfm, hfc⟩ := few1_any x hf
 obtain ⟨i0, hi0, hz0, hzs, hzb⟩ := info_parts infoRV
 have hmf : ∀ (fn : Fn) (first cap : Array Value) (w : World), (Instr.makeFunc fn first cap).run Tryz.prog w = .ok (.func fn first cap) w := fun _ _ _ _ => rfl
 have hx0 : ((w.alloc (.cells #[.int .i64 x.f0, .int .i64 x.f1, .string x.f2, .slice A4 x.f3.length c4, .slice A5 x.f4.length c5] 25)).alloc (.cells #[.slice A2 boxes.length c2] 27)).heap[w.heap.size]? = some (.cells #[.int .i64 x.f0, .int .i64 x.f1, .string x.f2, .slice A4 x.f3.length c4, .slice A5 x.f4.length c5] 25 (0, 0)) := two_old
 have hx1 : ((w.alloc (.cells #[.int .i64 x.f0, .int .i64 x.f1, .string x.f2, .slice A4 x.f3.length c4, .slice A5 x.f4.length c5] 25)).alloc (.cells #[.slice A2 boxes.length c2] 27)).heap[w.heap.size + 1]? = some (.cells #[.slice A2 boxes.length c2] 27 (0, 0)) := two_new
 have hb0 : Below w.heap.size w ((w.alloc (.cells #[.int .i64 x.f0, .int .i64 x.f1, .string x.f2, .slice A4 x.f3.length c4, .slice A5 x.f4.length c5] 25)).alloc (.cells #[.slice A2 boxes.length c2] 27)) := s_alloc (s_alloc (Below.refl _ _) _) _
 obtain ⟨W1, hW⟩ : ∃ W : World, W = ((w.alloc (.cells #[.int .i64 x.f0, .int .i64 x.f1, .string x.f2, .slice A4 x.f3.length c4, .slice A5 x.f4.length c5] 25)).alloc (.cells #[.slice A2 boxes.length c2] 27)) := ⟨_, rfl⟩
 rw [← hW] at hx0 hx1 hb0
 have HT := Lib.hid (fun W (hb : Below w.heap.size w W) => hT.below hb)
 have HX0 := Lib.hid hx0
 have HX1 := Lib.hid hx1
 have HB0 := Lib.hid hb0
 have HIN := Lib.hid (hin.below hb0)
 have HR := Lib.hid (Kd.C_below hr hb0)
 have HR2 := Lib.hid (Kd.C_below hr2 hb0)
 have hfc1 := hfc A4 c4 A5 c5 W1 (hin.below hb0)
 have hlc := fun W (hb : Below W1.heap.size W1 W) => light_any A c rows W (Kd.C_below (Kd.C_below hr hb0) hb) hc hrl hrt
 have HFC := Lib.hid hfc1
 obtain ⟨lg, hlg⟩ : ∃ lg, lightL rows = lg := ⟨_, rfl⟩
 rw [hlg] at hlc
 have HLC := Lib.hid hlc
 obtain ⟨bg, hbg⟩ : ∃ bg : Bool, decide ((boxes.length : Int) > 40) = bg := ⟨_, rfl⟩
 have hbg' : decide ((40 : Int) < boxes.length) = bg := hbg
 have hlv := fun W (hb : Below w.heap.size w W) => lives_any W (hT.below hb)
 have HLV := Lib.hid hlv
 obtain ⟨y0, y1, y2, y3, y4⟩ := cells5 hx0
 have z0 := cells1 hx1
 clear hx0 hx1 hb0 hT hin hr hr2 hfc hfc1 hlc hrl hrt hlv
 by_cases hgo : fw = true ∧ lg = true ∧ bg = false
 ·obtain ⟨rfl, rfl, rfl⟩ := hgo
  have hp := hfm rfl
  have hsm := (small_of x 400 hp (by omega)).1
  have hrl : rows.length ≤ 60 := by
   unfold lightL at hlg
   rw [Bool.and_eq_true] at hlg
   exact of_decide_eq_true hlg.2
  have hbl : boxes.length ≤ 40 := by have := of_decide_eq_false hbg; omega
  clear hfm hlg hp
  go_enter Tryz.func3, Tryz.ntmps3
  go_upto_region 1 with fail
  rw [← hW]
  clear hW
  go_upto_region 4 with (first
   | (go_at_call 7; refine HFC.out.mono ?_; rintro e w2 ⟨rfl, hb⟩; have HB2 := Lib.hid hb; have z1 := cells1 (block_on hb HX1.out); clear hb)
   | (go_at_call 8; refine (HLC.out _ HB2.out).mono ?_; rintro e w3 ⟨rfl, hb⟩; have HB3 := Lib.hid (s_trans HB2.out hb); have z2 := cells1 (block_on HB3.out HX1.out); clear hb))
  clear hbg hbg' y0 y1 y2 y3 y4 z0 z1
  have HX0b := Lib.hid (block_on HB3.out HX0.out)
  have HX1b := Lib.hid (block_on HB3.out HX1.out)
  have HINb := Lib.hid (HIN.out.below HB3.out)
  have HRb := Lib.hid (Kd.C_below HR.out HB3.out)
  have HR2b := Lib.hid (Kd.C_below HR2.out HB3.out)
  go_wp2
  clear z2
  go_loopw [7, 35] (fun v i wr => ∃ k : Nat, k ≤ boxes.length ∧ i = .int .i64 k ∧ Hid (Below w3.heap.size w3 wr) ∧ Hid (wr.ownsRow w3.heap.size 35 3 v k ((boxes.take k).flatMap rvC))) (fun _ i _ => boxes.length - (intOf i).toNat)
  case atStart => exact ⟨0, Nat.zero_le _, rfl, Lib.hid (Below.refl _ _), by rw [List.take_zero]; exact Lib.hid (World.ownsRow_nil _ _ _ _)⟩
  case round =>
   obtain ⟨k, hk, rfl, HB, HO⟩ := hrel
   by_cases hlt : k < boxes.length
   ·obtain ⟨ad0, e0, q0, q1⟩ := at_T33 (Kd.C_below HR2b.out HB.out) (k : Int) (by omega) (by omega)
    have hy := rdEV boxes k hlt
    have htk : (boxes.take (k + 1)).flatMap rvC = (boxes.take k).flatMap rvC ++ rvC boxes[k] := by
     rw [List.take_succ_eq_append_getElem hlt, List.flatMap_append, List.flatMap_cons, List.flatMap_nil, List.append_nil]
    rw [hy] at q0 q1
    rw [Int.toNat_natCast] at q0 q1
    cases e0
    generalize boxes[k] = y at *
    clear hy
    have HTK := Lib.hid htk
    clear htk
    obtain ⟨wa, hwa⟩ : ∃ W : World, W = wr.alloc (.cells #[.int .i64 y.f0, .int .i64 y.f1] 33) := ⟨_, rfl⟩
    have hba : Below wr.heap.size wr wa := by rw [hwa]; exact s_alloc (Below.refl _ _) _
    have hxa : wa.heap[wr.heap.size]? = some (.cells #[.int .i64 y.f0, .int .i64 y.f1] 33 (0, 0)) := by rw [hwa]; exact heap_alloc_last _ _
    go_upto_region 7 with fail
    rw [← hwa]
    clear hwa q0 q1
    obtain ⟨x0, x1⟩ := cells2 hxa
    obtain ⟨wy, hwy⟩ : ∃ W : World, W = wa.alloc (.cells #[.int .i64 y.f0, .int .i64 y.f1, .bool true] 35) := ⟨_, rfl⟩
    have hby : Below wa.heap.size wa wy := by rw [hwy]; exact s_alloc (Below.refl _ _) _
    have hnews := cells_news wa (rvC y) 35
    have hOy := own_on (own_on HO.out hba) hby
    have hnews' : ∀ j u, (rvC y)[j]? = some u → wy.cell? (Addr.add ⟨wa.heap.size, 0, none⟩ j) = some u := by rw [hwy]; exact hnews
    have hBy := s_trans (s_trans HB.out hba) hby
    have hbase : w3.heap.size ≤ wy.heap.size := hBy.size
    have HOY := Lib.hid hOy
    have HNW := Lib.hid hnews'
    have HBY := Lib.hid hBy
    obtain ⟨ad5, cap5, e5⟩ := own_sliceN hOy
    cases e5
    clear hby hOy hnews hnews' hBy hba hxa
    go_wp2_with (at_builtin; (try rw [← hwy]); refine wpList_append_own_at _ rfl _ _ 31 rfl w3.heap.size 35 i0 _ 3 24 Tryz.underlying31 hi0 hz0 hzs hzb rfl (by decide) _ _ _ rfl HOY.out ⟨wa.heap.size, 0, none⟩ 1 1 (rvC y) rfl rfl HNW.out (by simp [Value.oneCell']) (by unfold maxLen; omega) (by omega) hbase ?_; intro v' w6 hown5 hg5 _ hat5; obtain ⟨ad', cap', rfl⟩ := own_sliceN hown5; have HO5 := Lib.hid hown5; have HG5 := Lib.hid hg5; clear hown5 hg5 hat5 hwy)
    go_roundw
    case rel => exact ⟨k + 1, by omega, by go_num, Lib.hid (low_grow HBY.out HOY.out HG5.out), by rw [HTK.out]; exact HO5⟩
    case measure => simp [intOf]; omega
   ·obtain rfl : k = boxes.length := by omega
    have hO := HO.out
    rw [List.take_length] at hO
    obtain ⟨ad5, cap5, rfl⟩ := own_sliceN hO
    have hfl : boxes.flatMap rvC = (boxes.map toR).flatMap (fun b : S35 => [.int .i64 b.f0, .int .i64 b.f1, .bool b.f2]) := by
     rw [List.flatMap_map]
     rfl
    have hln := sel_len_map boxes
    have hkd := own_kdn (d := k35) (l := boxes.map toR) (A := ad5) (c := cap5) (fun b : S35 => [.int .i64 b.f0, .int .i64 b.f1, .bool b.f2]) (fun b hb => ⟨k35_mk wr b, rfl⟩) (by rw [hln, ← hfl]; exact hO) (by omega)
    have hBw := s_trans HB0.out (s_trans HB3.out HB.out)
    have hinr := HINb.out.below HB.out
    have hrr := Kd.C_below HRb.out HB.out
    have hkn := known1 (w.heap.size + 1) A2 c2 boxes wr (block_on HB.out HX1b.out) (Kd.C_below HR2b.out HB.out) hc2 (by omega)
    have hone := fun W (hb : Below wr.heap.size wr W) => one_any x hsm A4 c4 A5 c5 (lookE boxes) _ A c rows W (hinr.below hb) (hkn.below hb) (Kd.C_below hrr hb) hc (by omega)
    have honr := fun W (hb : Below wr.heap.size wr W) => oner_any x hf hsm ht A4 c4 A5 c5 A c rows ad5 cap5 (boxes.map toR) W (hinr.below hb) (Kd.C_below hrr hb) hc (by omega) (Kd.C_below hkd.1 hb) hkd.2 (by omega)
    have honil := fun W (hb : Below wr.heap.size wr W) => one_nil x hsm A4 c4 A5 c5 A rows.length c W (hinr.below hb)
    rw [look_toR, hln] at honr
    obtain ⟨va, vf, hvv⟩ : ∃ va vf, oneE rows (lookE boxes) x = (va, vf) := ⟨_, _, rfl⟩
    rw [hvv] at hone honr
    have hsel := fun (r : S45) W (hb : Below wr.heap.size wr W) => sel_any r A4 c4 x.f3 W (Kd.C_below hinr.c3 hb) hinr.l3 hsm.filters
    have hselr := fun (r : S45) W (hb : Below wr.heap.size wr W) => selr_any r A4 c4 x.f3 W (Kd.C_below hinr.c3 hb) hinr.l3 hsm.filters
    have ne1 : (va != va) = false := bne_self_eq_false va
    have ne2 : (vf != vf) = false := bne_self_eq_false vf
    have HONE := Lib.hid hone
    have HONR := Lib.hid honr
    have HONIL := Lib.hid honil
    have HSEL := Lib.hid hsel
    have HSELR := Lib.hid hselr
    have HBW := Lib.hid hBw
    have HRR := Lib.hid hrr
    have HXR := Lib.hid (block_on HB.out HX0b.out)
    obtain ⟨y0, y1, y2, y3, y4⟩ := cells5 HXR.out
    clear hO hfl hkd hBw hinr hrr hkn hone honr honil hsel hselr hvv
    go_upto_region 14 with (first
     | (go_at_call 11; refine (HONE.out _ (Below.refl _ _)).mono ?_; rintro e w7 ⟨rfl, hb⟩; have HB7 := Lib.hid hb; obtain ⟨x0, x1, x2, x3, x4⟩ := cells5 (block_on hb HXR.out); clear hb)
     | (go_at_call 12; refine (HONR.out _ HB7.out).mono ?_; rintro e w8 ⟨rfl, hb⟩; have HB8 := Lib.hid (s_trans HB7.out hb); clear hb))
    clear y0 y1 y2 y3 y4 x0 x1 x2 x3 x4
    go_wp2
    go_loopw [73] (fun i w2 => ∃ k : Nat, k ≤ rows.length ∧ i = .int .i64 k ∧ Hid (Below w8.heap.size w8 w2)) (fun i _ => rows.length - (intOf i).toNat)
    case atStart => exact ⟨0, Nat.zero_le _, rfl, Lib.hid (Below.refl _ _)⟩
    case round =>
     obtain ⟨k, hk, rfl, HBr⟩ := hrel
     by_cases hlt : k < rows.length
     ·obtain ⟨ad0, e0, hrow⟩ := row_at (Kd.C_below HRR.out (s_trans HB8.out HBr.out)) k hlt
      cases e0
      generalize rows[k] = y at *
      have hba : Below wr.heap.size wr (wr.alloc (.cells (rC y) 45)) := s_alloc (Below.refl _ _) _
      have hxa : (wr.alloc (.cells (rC y) 45)).heap[wr.heap.size]? = some (.cells (rC y) 45 (0, 0)) := heap_alloc_last _ _
      obtain ⟨wa, hwa⟩ : ∃ W : World, W = wr.alloc (.cells (rC y) 45) := ⟨_, rfl⟩
      rw [← hwa] at hba hxa
      have hb9 := s_trans (s_trans HB8.out HBr.out) hba
      obtain ⟨y0, y1, y2, y3, y4⟩ := cells5 (block_on hb9 HXR.out)
      have hs1 := fun W (hb : Below wa.heap.size wa W) => HSEL.out y W (s_trans hb9 hb)
      have hs2 := fun W (hb : Below wa.heap.size wa W) => HSELR.out y W (s_trans hb9 hb)
      have hyy : (fun W : World => RowTake.At W ⟨wr.heap.size, 0, none⟩ (rC y).toList ∧ W.cell? ⟨w.heap.size, 3, none⟩ = some (.slice A4 x.f3.length c4)) wa := ⟨RowTake.At.block hxa, y3⟩
      have hcc : ∀ W : World, Below wa.heap.size wa W → RowTake.At W ⟨wr.heap.size, 0, none⟩ (rC y).toList ∧ W.cell? ⟨w.heap.size, 3, none⟩ = some (.slice A4 x.f3.length c4) := fun W hb => by
       have q : ∀ (p : Addr) (v : Value), wa.cell? p = some v → W.cell? p = some v := fun p v e => (hb.cell (p := p) (World.block_lt_of_cell? wa _ e)).trans e
       exact ⟨At.on (RowTake.At.block hxa) hb, q _ _ y3⟩
      obtain ⟨S, hS⟩ : ∃ S, selB y x.f3 = S := ⟨_, rfl⟩
      rw [hS] at hs1 hs2
      have ne3 : (S != S) = false := bne_self_eq_false S
      have HS1 := Lib.hid hs1
      have HS2 := Lib.hid hs2
      have HROW := Lib.hid hrow
      have HC := Lib.hid hcc
      have HY := Lib.hid hyy
      have HBA := Lib.hid (s_trans HBr.out hba)
      clear hrow hba hxa hb9 hs1 hs2 hyy hcc y0 y1 y2 y3 y4 hS
      go_upto_region 17 with (first
       | ((with_reducible refine gate_dst (N := 76) rfl ?_); apply RowTake.wpl_row_at (ty := 45) (hu := Tryz.underlying45) (hd := rfl) (cs := rC y); (case hgd => rfl); (case ho => rfl); (case hx => rfl); (case hg => exact HROW.out); (case hi => kernel_rfl))
       | (apply RowTake.wpl_row_new (ty := 45) (cs := rC y); (case hgd => rfl); (case ho => rfl); (case hx => rfl); (case hy => rfl); (case hi => kernel_rfl); (case hold => rfl); (case h1 => rfl)))
      rw [← hwa]
      clear hwa
      have hy := HY.out
      refine start_ (n := 9) (S := fun w' => RowTake.At w' ⟨wr.heap.size, 0, none⟩ (rC y).toList ∧ w'.cell? ⟨w.heap.size, 3, none⟩ = some (.slice A4 x.f3.length c4)) (ds := []) #[false, false, false, false, false, false, false, false, false] (by kernel_rfl) rfl rfl ⟨hy.1, hy.2⟩ (fun hHeld => ?_)
      obtain ⟨wd, hwd⟩ : ∃ W, W = wa.drew := ⟨_, rfl⟩
      rw [← hwd] at hHeld
      rw [← hwd]
      have hdr : Below wa.heap.size wa wd := by rw [hwd]; exact s_drew (Below.refl _ _)
      have HBd := Lib.hid hdr
      clear hwd hdr
      refine pure_ (i := 0) (N := some 77) (v := ?_) (a' := ?_) #[true, false, false, false, false, false, false, false, false] rfl rfl (by kernel_rfl) (fun _ _ _ h => h) (Or.inl ⟨by rfl, ?_⟩) ?_ ?_
      rotate_left
      ·intro w'
       go_simp
       with_reducible rfl
      rotate_left
      ·simp only [Act.put, List.setIfInBounds_toArray, List.set_cons_zero, List.set_cons_succ, i64_w, i32_w]
       rfl
      refine pure_ (i := 4) (N := some 81) (v := ?_) (a' := ?_) #[true, false, false, false, true, false, false, false, false] rfl rfl (by kernel_rfl) (fun _ _ _ h => h) (Or.inl ⟨by rfl, ?_⟩) ?_ ?_
      rotate_left
      ·intro w'
       go_simp
       with_reducible rfl
      rotate_left
      ·simp only [Act.put, List.setIfInBounds_toArray, List.set_cons_zero, List.set_cons_succ, i64_w, i32_w]
       rfl
      refine take_ (i := 1) (N := some 78) (v := ?_) (a' := ?_) #[true, true, false, false, true, false, false, false, false] rfl rfl (by kernel_rfl) (fun _ _ _ h => h) (Or.inl ⟨by rfl, ?_⟩) hHeld ?_ ?_
      rotate_left
      ·rintro w' ⟨s0, s1⟩
       go_simp
       with_reducible rfl
      rotate_left
      ·simp only [Act.put, List.setIfInBounds_toArray, List.set_cons_zero, List.set_cons_succ, i64_w, i32_w]
       rfl
      refine take_ (i := 2) (N := some 79) (v := ?_) (a' := ?_) #[true, true, true, false, true, false, false, false, false] rfl rfl (by kernel_rfl) (fun _ _ _ h => h) (Or.inl ⟨by rfl, ?_⟩) hHeld ?_ ?_
      rotate_left
      ·rintro w' ⟨s0, s1⟩
       apply RowTake.row_take_at (ty := 45) (cs := rC y) (hu := Tryz.underlying45) (hd := rfl); (case ho => rfl); (case hx => rfl); (case hc => exact s0); (case hi => kernel_rfl); (case hr => with_reducible rfl)
      rotate_left
      ·simp only [Act.put, List.setIfInBounds_toArray, List.set_cons_zero, List.set_cons_succ, i64_w, i32_w]
       rfl
      refine take_ (i := 5) (N := some 82) (v := ?_) (a' := ?_) #[true, true, true, false, true, true, false, false, false] rfl rfl (by kernel_rfl) (fun _ _ _ h => h) (Or.inl ⟨by rfl, ?_⟩) hHeld ?_ ?_
      rotate_left
      ·rintro w' ⟨s0, s1⟩
       go_simp
       with_reducible rfl
      rotate_left
      ·simp only [Act.put, List.setIfInBounds_toArray, List.set_cons_zero, List.set_cons_succ, i64_w, i32_w]
       rfl
      refine take_ (i := 6) (N := some 83) (v := ?_) (a' := ?_) #[true, true, true, false, true, true, true, false, false] rfl rfl (by kernel_rfl) (fun _ _ _ h => h) (Or.inl ⟨by rfl, ?_⟩) hHeld ?_ ?_
      rotate_left
      ·rintro w' ⟨s0, s1⟩
       apply RowTake.row_take_at (ty := 45) (cs := rC y) (hu := Tryz.underlying45) (hd := rfl); (case ho => rfl); (case hx => rfl); (case hc => exact s0); (case hi => kernel_rfl); (case hr => with_reducible rfl)
      rotate_left
      ·simp only [Act.put, List.setIfInBounds_toArray, List.set_cons_zero, List.set_cons_succ, i64_w, i32_w]
       rfl
      refine one_ (i := 3) (N := some 80) #[true, true, true, true, true, true, true, false, false] rfl rfl (by kernel_rfl) (by decide) (fun K hK => ?_)
      refine goes_ Tryz.func13 (by kernel_rfl) rfl #[.slice A4 x.f3.length c4, rV y] (by rfl) rfl rfl (by simp only [List.map_toArray, List.map_cons, List.map_nil]; rfl) ?_
      with_reducible refine (HS1.out wd HBd.out).mono ?_
      rintro e w9 ⟨rfl, hb9⟩
      refine ⟨_, rfl, ?_⟩
      have HB9 := Lib.hid (s_trans HBd.out hb9)
      have hz := HC.out _ HB9.out
      clear hb9
      refine hK.out _ _ ⟨hz.1, hz.2⟩ (fun hHeld => ?_)
      clear hK K
      refine norm_ (a' := ?_) ?_ ?_
      rotate_left
      ·show Act.put _ (some 80) _ = _
       simp only [Act.put, List.setIfInBounds_toArray, List.set_cons_zero, List.set_cons_succ, i64_w, i32_w]
       rfl
      refine one_ (i := 7) (N := some 84) #[true, true, true, true, true, true, true, true, false] rfl rfl (by kernel_rfl) (by decide) (fun K hK => ?_)
      refine goes_ Tryz.func14 (by kernel_rfl) rfl #[.slice A4 x.f3.length c4, rV y] (by rfl) rfl rfl (by simp only [List.map_toArray, List.map_cons, List.map_nil]; rfl) ?_
      with_reducible refine (HS2.out w9 HB9.out).mono ?_
      rintro e w10 ⟨rfl, hb10⟩
      refine ⟨_, rfl, ?_⟩
      have HB10 := Lib.hid (s_trans HB9.out hb10)
      have hz := HC.out _ HB10.out
      clear hb10
      refine hK.out _ _ ⟨hz.1, hz.2⟩ (fun hHeld => ?_)
      clear hK K
      refine norm_ (a' := ?_) ?_ ?_
      rotate_left
      ·show Act.put _ (some 84) _ = _
       simp only [Act.put, List.setIfInBounds_toArray, List.set_cons_zero, List.set_cons_succ, i64_w, i32_w]
       rfl
      refine pure_ (i := 8) (N := some 85) (v := ?_) (a' := ?_) #[true, true, true, true, true, true, true, true, true] rfl rfl (by kernel_rfl) (fun _ _ _ h => h) (Or.inl ⟨by rfl, ?_⟩) ?_ ?_
      rotate_left
      ·intro w'
       go_simp
       with_reducible rfl
      rotate_left
      ·simp only [Act.put, List.setIfInBounds_toArray, List.set_cons_zero, List.set_cons_succ, i64_w, i32_w]
       rfl
      refine done_ (by kernel_rfl) ?_
      clear hz
      go_wp2
      go_roundw
      case rel => exact ⟨k + 1, by omega, by go_num, Lib.hid (s_trans HBA.out HB10.out)⟩
      case measure => simp [intOf]; omega
     ·obtain rfl : k = rows.length := by omega
      obtain ⟨y0, y1, y2, y3, y4⟩ := cells5 (block_on (s_trans HB8.out HBr.out) HXR.out)
      have hnil := HONIL.out _ (s_trans HB8.out HBr.out)
      have HNIL := Lib.hid hnil
      have HBF := Lib.hid (s_trans HBW.out (s_trans HB8.out HBr.out))
      clear hnil
      go_wp2_with (first
       | (go_at_call 11; refine HNIL.out.mono ?_; rintro e w9 ⟨rfl, hb⟩; have HB9 := Lib.hid (s_trans HBF.out hb); clear hb)
       | (go_at_call 9; refine (HLV.out _ HB9.out).mono ?_; rintro e w10 ⟨rfl, hb⟩; have HB10 := Lib.hid (s_trans HB9.out hb); clear hb))
      go_ret
      exact ⟨rfl, HB10.out⟩
 ·have hno : fw = false ∨ (fw = true ∧ lg = false) ∨ (fw = true ∧ lg = true ∧ bg = true) := by
   cases fw <;> cases lg <;> cases bg <;> simp_all
  clear hgo hfm hlg
  rcases hno with rfl | ⟨rfl, rfl⟩ | ⟨rfl, rfl, rfl⟩
  all_goals
   go_enter Tryz.func3, Tryz.ntmps3
   go_upto_region 1 with fail
   rw [← hW]
   clear hW
   go_wp2_with (first
    | (go_at_call 7; refine HFC.out.mono ?_; rintro e w2 ⟨rfl, hb⟩; have HB2 := Lib.hid hb; have z1 := cells1 (block_on hb HX1.out); clear hb)
    | (go_at_call 8; refine (HLC.out _ HB2.out).mono ?_; rintro e w3 ⟨rfl, hb⟩; have HB3 := Lib.hid (s_trans HB2.out hb); have z2 := cells1 (block_on HB3.out HX1.out); clear hb)
    | (go_at_call 9; refine (HLV.out _ (by first | exact s_trans HB0.out HB3.out | exact s_trans HB0.out HB2.out)).mono ?_; rintro e w4 ⟨rfl, hb⟩; have HB4 := Lib.hid (by first | exact s_trans (s_trans HB0.out HB3.out) hb | exact s_trans (s_trans HB0.out HB2.out) hb); clear hb))
   go_ret
   exact ⟨rfl, HB4.out⟩
end Go.Proofs.YtnaglnifpejpjaaGreatDoor.Ch
