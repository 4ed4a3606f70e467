/-
  checker: need, the walk.
-/
import Derived.Test.YtepddfkdjdklnaaQCh21
namespace Go.Proofs.Ytepddfkdjdklnaa.Ch
set_option linter.unusedVariables false
set_option linter.unusedSimpArgs false
set_option linter.unnecessarySimpa false
open Go.RowKit Go.Maps Go.Proofs.YtepddfkdjdklnaaK Go.Proofs.Ytepddfkdjdklnaa.PCheckerOrder Go.Proofs.YtepddfkdjdklnaaW.PrintWords Go.Proofs.YtepddfkdjdklnaaW.PrintLast Go.Sort

theorem infoS : (Try.prog.info? 30).map (fun i => (i.zero, i.size, i.bytes)) = some (some (.slice none 0 0), 1, 24) := by kernel_rfl
theorem take_all {l : List S43} {ns : List Int} {k : Nat} (h : k < l.length) : (l.take (k + 1)).all (okN ns) = ((l.take k).all (okN ns) && okN ns l[k]) := by
  rw [List.take_succ_eq_append_getElem h, List.all_append]
  simp
theorem map_intV (l : List Int) (ns : List Int) (j : Nat) (h : j < l.length) : ((l.take (j + 1)).map (tOf ns)).map (Value.int .i64) = ((l.take j).map (tOf ns)).map (Value.int .i64) ++ [.int .i64 (tOf ns l[j])] := by
  rw [List.take_succ_eq_append_getElem h, List.map_append, List.map_append]
  rfl
theorem take_allK (r : List Int) (ns : List Int) (j : Nat) (h : j < r.length) : (r.take (j + 1)).all (kOf ns) = ((r.take j).all (kOf ns) && kOf ns r[j]) := by
  rw [List.take_succ_eq_append_getElem h, List.all_append]
  simp
theorem low_grow {w0 w w1 : World} {n s : Nat} {e : TypeId} {v : Value} {xs : List Value} (hb : Below w0.heap.size w0 w) (h : w.ownsRow w0.heap.size e s v n xs) (hg : w.grownBy w1 v.ownBlock) : Below w0.heap.size w0 w1 :=
  ⟨hg.os.trans hb.os, hg.tape.trans hb.tape, hg.output.trans hb.output, Nat.le_trans hb.size hg.size, fun k hk => (hg.block k (Nat.lt_of_lt_of_le hk hb.size) (fun e => by have := (own_block h e.symm).1; omega)).trans (hb.block k hk)⟩
theorem Pl.stay {w w1 : World} {m n : Nat} {T : Int → Int} {K : Int → Bool} (h : Pl w m n T K) (hb : w1.heap[m]? = w.heap[m]?) : Pl w1 m n T K := by
  obtain ⟨D, ho, hi, hD⟩ := h
  obtain ⟨es, clock, hm, hF, hs, hd⟩ := ho
  exact ⟨D, ⟨es, clock, hb.trans hm, hF, hs, hd⟩, hi, hD⟩
theorem Pl.obj {w : World} {m n : Nat} {T : Int → Int} {K : Int → Bool} (h : Pl w m n T K) : m < w.heap.size ∧ ∀ C t f, w.heap[m]? ≠ some (.cells C t f) := by
  obtain ⟨D, ho, hi, hD⟩ := h
  obtain ⟨es, clock, hm, hF, hs, hd⟩ := ho
  exact ⟨block_lt hm, fun C t f h => by rw [h] at hm; cases hm⟩
theorem set_grown (w : World) (g i : Nat) (v : Value) : w.grownBy (w.setCell ⟨g, i, none⟩ v) (some g) := ⟨rfl, rfl, rfl, by simp, fun j _ hk => Below.heap_setCell _ _ _ _ (fun e => hk (by rw [e]))⟩
/-- What a round of need leaves. -/
structure NeedR (w0 w : World) (p m : Nat) (c0 c3 v : Value) (n : Nat) (ns : List Int) (nl : List (List Nat)) : Prop where
  low : Below w0.heap.size w0 w
  plan : w.heap[p]? = some (.cells #[c0, .map (some m), v, c3] 36 (0, 0))
  map : Pl w m n (tOf ns) (kOf ns)
  needs : NeedsIn w w0.heap.size v nl
theorem NeedR.below {w0 w w1 : World} {p m : Nat} {c0 c3 v : Value} {n : Nat} {ns : List Int} {nl : List (List Nat)} (h : NeedR w0 w p m c0 c3 v n ns nl) (hb : Below w.heap.size w w1) : NeedR w0 w1 p m c0 c3 v n ns nl := ⟨s_trans h.low hb, block_on hb h.plan, h.map.below hb, h.needs.below hb⟩
theorem NeedR.step {w0 w w1 : World} {p m : Nat} {c0 c3 v v' u : Value} {n : Nat} {ns : List Int} {nl : List (List Nat)} {q : List Nat} {vs : List Value} (h : NeedR w0 w p m c0 c3 v n ns nl) (hp : w0.heap.size ≤ p) (h1 : w.ownsRow w0.heap.size 30 1 v nl.length vs) (h2 : ∀ i (h : i < nl.length), ∃ u, vs[i]? = some u ∧ w.ownsRow w0.heap.size 3 1 u nl[i].length (intV nl[i])) (hu : w.ownsRow w0.heap.size 3 1 u q.length (intV q)) (hg : w.grownBy w1 v.ownBlock) (ho : w1.ownsRow w0.heap.size 30 1 v' (nl.length + 1) (vs ++ [u])) :
    w1.heap[p]? = some (.cells #[c0, .map (some m), v, c3] 36 (0, 0)) ∧ NeedR w0 (w1.setCell ⟨p, 2, none⟩ v') p m c0 c3 v' n ns (nl ++ [q]) := by
  have hb1 := low_grow h.low h1 hg
  have hnp : some p ≠ v.ownBlock := fun e => by
    obtain ⟨_, cur, hc⟩ := own_block h1 e.symm
    exact ty_ne h.plan hc (by decide) rfl
  have hp1 := (hg.block p (block_lt h.plan) hnp).trans h.plan
  have hn1 := NeedsIn.snoc h1 h2 hu hg ho
  have hnm : some m ≠ v.ownBlock := fun e => by
    obtain ⟨_, cur, hc⟩ := own_block h1 e.symm
    exact h.map.obj.2 _ _ _ hc
  have hm1 := h.map.stay (hg.block m h.map.obj.1 hnm)
  have hmp : m ≠ p := fun e => by
    have := h.map.obj.2
    rw [e] at this
    exact this _ _ _ h.plan
  refine ⟨hp1, s_set hb1 _ _ hp, ?_, hm1.stay (Below.heap_setCell _ _ _ _ hmp), hn1.far (set_grown _ _ _ _) hp1⟩
  have := Go.Joins.block_setCell (i := 2) hp1 v'
  simpa using this
set_option maxRecDepth 100000 in
set_option maxHeartbeats 4000000 in
theorem need_any (w0 w : World) (p m : Nat) (A : Option Addr) (c : Nat) (l : List S43) (c3 : Value) (hb : Below w0.heap.size w0 w) (hp : w.heap[p]? = some (.cells #[.slice A l.length c, .map (some m), .slice none 0 0, c3] 36 (0, 0))) (hpge : w0.heap.size ≤ p) (hr : Kd.C k43 w0 A l.length l) (hc : l.length ≤ c) (hl : l.length ≤ 256) (hsm : ∀ x ∈ l, Small x.f1 ∧ (refsB x.f1).length ≤ 1000000) (hwfr : ∀ x ∈ l, ∀ r ∈ refsR x.f1, (Lit.int .i64 r).wf = true) (hP : Pl w m l.length (tOf (nums l)) (kOf (nums l))) :
    Calls Try.prog 19 #[.pointer (some ⟨p, 0, none⟩)] w (NeedP w0 p m (.slice A l.length c) c3 l (nums l)) := by
  obtain ⟨z0, z1, z2, z3⟩ := cells4 hp
  obtain ⟨i0, hi0, hz0, hzs, hzb⟩ := info_parts infoI
  obtain ⟨j0, hj0, jz0, jzs, jzb⟩ := info_parts infoS
  have HB0 := Lib.hid hb
  have HC0 := Lib.hid hp
  have HR := Lib.hid hr
  have HS := Lib.hid hsm
  have HW := Lib.hid hwfr
  have HP0 := Lib.hid hP
  have hnl : (nums l).length = l.length := by simp [nums]
  generalize nums l = ns at *
  have HNL := Lib.hid hnl
  clear hb hp hr hsm hP hnl hwfr
  go_enter Try.func19, Try.ntmps19
  go_wp2
  clear z0 z1 z2 z3
  go_loopw [15] (fun i wr => ∃ (k : Nat) (v : Value), k ≤ l.length ∧ i = .int .i64 k ∧ Hid (Below w0.heap.size w0 wr) ∧ Hid (wr.heap[p]? = some (.cells #[.slice A l.length c, .map (some m), v, c3] 36 (0, 0))) ∧ Hid (Pl wr m l.length (tOf ns) (kOf ns)) ∧ Hid (NeedsIn wr w0.heap.size v ((l.take k).map (needN ns))) ∧ Hid ((l.take k).all (okN ns) = true)) (fun i _ => l.length - (intOf i).toNat)
  case atStart => exact ⟨0, _, Nat.zero_le _, rfl, HB0, HC0, HP0, by rw [List.take_zero]; exact Lib.hid (NeedsIn.nil _ _), by rw [List.take_zero]; exact Lib.hid rfl⟩
  case round =>
    obtain ⟨k, v, hk, rfl, HB, HC, HP, HN, HA⟩ := hrel
    by_cases hlt : k < l.length
    · obtain ⟨ad0, A4, c4, A5, c5, e0, q0, q1, q2, q3, q4, q5, g3, g4, g5, g6⟩ := at_T43 (Kd.C_below HR.out HB.out) (k : Int) (by omega) (by omega)
      have hy : rd_T43 l (k : Int) = l[k] := by unfold rd_T43; rw [Int.toNat_natCast, List.getD_eq_getElem?_getD, List.getElem?_eq_getElem hlt]; rfl
      rw [hy] at q0 q1 q2 q3 q4 q5 g3 g4 g5 g6
      rw [Int.toNat_natCast] at q0 q1 q2 q3 q4 q5
      clear hy
      have hta := take_all (ns := ns) hlt
      rw [HA.out, Bool.true_and] at hta
      have htm : (l.take (k + 1)).map (needN ns) = (l.take k).map (needN ns) ++ [needN ns l[k]] := by rw [List.take_succ_eq_append_getElem hlt, List.map_append]; rfl
      have hsy := HS.out _ (List.getElem_mem hlt)
      have hwy := HW.out _ (List.getElem_mem hlt)
      have hlen : ((l.take k).map (needN ns)).length = k := by simp; omega
      have hallK : okN ns l[k] = false → l.all (okN ns) = false := fun h => List.all_eq_false.2 ⟨_, List.getElem_mem hlt, by simp [h]⟩
      cases e0
      have HTA := Lib.hid hta
      have HTM := Lib.hid htm
      have HALL := Lib.hid hallK
      have HLEN := Lib.hid hlen
      clear hta htm hallK hlen
      generalize l[k] = y at *
      generalize (l.take k).map (needN ns) = nl at *
      have hrl := refsR_le y.f1
      have href := refs_any y.f1 hsy.1 hsy.2 A4 c4 A5 c5
      obtain ⟨wa, hwa⟩ : ∃ W : World, W = wr.alloc (.cells #[.int .i64 y.f0, .int .i64 y.f1.f0, .int .i64 y.f1.f1, .string y.f1.f2, .slice A4 y.f1.f3.length c4, .slice A5 y.f1.f4.length c5] 43) := ⟨_, rfl⟩
      have hba : Below wr.heap.size wr wa := by rw [hwa]; exact s_alloc (Below.refl _ _) _
      have hxa : wa.heap[wr.heap.size]? = some (.cells #[.int .i64 y.f0, .int .i64 y.f1.f0, .int .i64 y.f1.f1, .string y.f1.f2, .slice A4 y.f1.f3.length c4, .slice A5 y.f1.f4.length c5] 43 (0, 0)) := by rw [hwa]; exact Array.getElem?_push_size
      have HREF := Lib.hid (href wa (EIn.below ⟨g3, g4, g5, g6⟩ hba))
      have HBA := Lib.hid (s_trans HB.out hba)
      have HPA := Lib.hid (HP.out.below hba)
      have HNA := Lib.hid (HN.out.below hba)
      have HCA := Lib.hid (block_on hba HC.out)
      have HXA := Lib.hid hxa
      have HRL := Lib.hid (Nat.le_trans hrl hsy.2)
      have HWY := Lib.hid hwy
      obtain ⟨r, hrr⟩ : ∃ r, refsR y.f1 = r := ⟨_, rfl⟩
      rw [hrr] at HREF HRL HWY
      have HRR := Lib.hid hrr
      clear hba hsy hrl href g3 g4 g5 g6 hwy hrr
      go_upto_region 5 with fail
      rw [← hwa]
      clear hwa q0 q1 q2 q3 q4 q5 hxa
      obtain ⟨q0, q1, q2, q3, q4, q5⟩ := cells6 HXA.out
      go_wp2_with (go_at_call 32; refine HREF.out.mono ?_; rintro e w2 ⟨u, rfl, hown, hbr⟩; obtain ⟨ad', cap', rfl⟩ := own_slice hown; have HO2 := Lib.hid hown; have HB2 := Lib.hid hbr; clear hown hbr)
      clear q0 q1 q2 q3 q4 q5
      have HCB := Lib.hid (block_on HB2.out HCA.out)
      have HPB := Lib.hid (HPA.out.below HB2.out)
      have HNB := Lib.hid (HNA.out.below HB2.out)
      have HBB := Lib.hid (s_trans HBA.out HB2.out)
      go_loopw [5, 23] (fun v5 vi wi => ∃ (j : Nat), j ≤ r.length ∧ vi = .int .i64 j ∧ Hid (Below w2.heap.size w2 wi) ∧ Hid (wi.ownsRow w2.heap.size 3 1 v5 j (((r.take j).map (tOf ns)).map (Value.int .i64))) ∧ Hid ((r.take j).all (kOf ns) = true)) (fun _ i _ => r.length - (intOf i).toNat)
      case atStart => exact ⟨0, Nat.zero_le _, rfl, Lib.hid (Below.refl _ _), by rw [List.take_zero]; exact Lib.hid (World.ownsRow_nil _ _ _ _), by rw [List.take_zero]; exact Lib.hid rfl⟩
      case round =>
        obtain ⟨j, hj, rfl, HBi, HOi, HKi⟩ := hrel
        by_cases hjt : j < r.length
        · obtain ⟨gr, capr, ur, er, hrc, _, hgr, hur, q0⟩ := own_at (own_on HO2.out HBi.out) hjt
          rw [List.getElem?_map, List.getElem?_eq_getElem hjt] at hur
          obtain rfl := (Option.some.inj hur).symm
          cases er
          have hmv := map_intV r ns j hjt
          have htk := take_allK r ns j hjt
          have hw1 := HWY.out _ (List.getElem_mem hjt)
          have hall : kOf ns r[j] = false → r.all (kOf ns) = false := fun h => List.all_eq_false.2 ⟨_, List.getElem_mem hjt, by simp [h]⟩
          generalize r[j] = z at *
          have HMV := Lib.hid hmv
          have HTK := Lib.hid htk
          have HAL2 := Lib.hid hall
          clear hur hgr hmv htk hall
          obtain ⟨z0, z1, z2, z3⟩ := cells4 (block_on HBi.out HCB.out)
          go_upto_region 8 with fail
          have hPi := HPB.out.below HBi.out
          have hl1 := Pl.look (w := wr) hPi z hw1
          clear hPi
          go_upto_region 9 with fail
          clear hl1 q0 z0 z1 z2 z3
          have HBD := HBi
          have HOD := HOi
          generalize tOf ns z = tv at *
          generalize hK : kOf ns z = KB at *
          have HK := Lib.hid hK
          clear hK
          cases KB with
          | false =>
            go_wp2
            go_ret
            refine ⟨s_trans HBB.out HBD.out, .inr ⟨?_, rfl⟩⟩
            refine HALL.out ?_
            unfold okN
            rw [HRR.out]
            exact HAL2.out trivial
          | true =>
            obtain ⟨wy, hwy⟩ : ∃ W : World, W = wr.alloc (.cells #[.int .i64 tv] 3) := ⟨_, rfl⟩
            have hby : Below wr.heap.size wr wy := by rw [hwy]; exact s_alloc (Below.refl _ _) _
            have hOy := own_on HOD.out hby
            have hnews := int_news wr tv
            rw [← hwy] at hnews
            have hBy := s_trans HBD.out hby
            have hbase : w2.heap.size ≤ wy.heap.size := hBy.size
            have HOY := Lib.hid hOy
            have HNW := Lib.hid hnews
            have HBY := Lib.hid hBy
            have hrle := HRL.out
            obtain ⟨ad5, cap5, e5⟩ := own_slice hOy
            cases e5
            clear hby hOy hnews hBy
            go_upto_region 11 with fail
            go_wp2_with (at_builtin; (try rw [← hwy]); refine wpList_append_own_at _ rfl _ _ 30 rfl w2.heap.size 3 i0 _ 1 8 Try.underlying30 hi0 hz0 hzs hzb rfl (by decide) _ _ _ rfl HOY.out ⟨wr.heap.size, 0, none⟩ 1 1 [.int .i64 tv] rfl rfl HNW.out (by simp [Value.oneCell']) (by unfold maxLen; omega) (by omega) hbase ?_; intro v' w4 hown4 hg4 _ hat4; obtain ⟨ad', cap', rfl⟩ := own_slice hown4; have HO4 := Lib.hid hown4; have HG4 := Lib.hid hg4; clear hown4 hg4 hat4 hwy)
            go_roundw
            case rel => exact ⟨j + 1, by omega, by go_num, Lib.hid (low_grow HBY.out HOY.out HG4.out), by rw [HMV.out]; exact HO4, Lib.hid (by rw [HTK.out, HKi.out]; rfl)⟩
            case measure => simp [intOf]; omega
        · obtain rfl : j = r.length := by omega
          have hO := HOi.out
          have hKa := HKi.out
          rw [List.take_length] at hO hKa
          have hml : (r.map (tOf ns)).length = r.length := List.length_map ..
          have hsort := sort_own (w0 := w2) (l := r.map (tOf ns)) HBi.out (by rw [hml]; exact hO) (by rw [hml]; exact HRL.out)
          have hok : okN ns y = true := by unfold okN; rw [HRR.out]; exact hKa
          have hnz : sortI (r.map (tOf ns)) = needZ ns y := by unfold needZ; rw [HRR.out]
          have hnv := needV ns y
          rw [hnz, hnv] at hsort
          have hzl : (needZ ns y).length = (needN ns y).length := by unfold needN; rw [List.length_map]
          rw [hzl] at hsort
          have HTA2 := Lib.hid (HTA.out.trans hok)
          have HSO := Lib.hid hsort
          obtain ⟨ad5, cap5, rfl⟩ := own_slice hO
          clear hO hKa hml hsort hok hnz hnv hzl
          generalize needN ns y = nn at *
          go_upto_region 14 with (go_at_call 33; refine HSO.out.mono ?_; rintro e w5 ⟨rfl, ho5, hb5⟩; have HO5 := Lib.hid ho5; have HB5 := Lib.hid hb5; clear ho5 hb5)
          obtain ⟨wy, hwy⟩ : ∃ W : World, W = w5.alloc (.cells #[.slice ad5 r.length cap5] 30) := ⟨_, rfl⟩
          have hby : Below w5.heap.size w5 wy := by rw [hwy]; exact s_alloc (Below.refl _ _) _
          have hR5 : NeedR w0 wy p m (.slice (some ad0) l.length c) c3 v l.length ns nl := NeedR.below (NeedR.below ⟨HBB.out, HCB.out, HPB.out, HNB.out⟩ HB5.out) hby
          have hnews : ∀ j u, ([Value.slice ad5 r.length cap5])[j]? = some u → wy.cell? (Addr.add ⟨w5.heap.size, 0, none⟩ j) = some u := by rw [hwy]; exact cell_one_new _ _ _
          have hu5 := own_weak (own_on HO5.out hby) HBB.out.size
          obtain ⟨vs, hv1, hv2⟩ := hR5.needs.row
          obtain ⟨adn, capn, rfl⟩ := own_slice hv1
          obtain ⟨z0, z1, z2, z3⟩ := cells4 hR5.plan
          obtain ⟨y0, y1, y2, y3⟩ := cells4 (show w5.heap[p]? = some (.cells #[.slice (some ad0) l.length c, .map (some m), .slice adn nl.length capn, c3] 36 (0, 0)) from (NeedR.below ⟨HBB.out, HCB.out, HPB.out, HNB.out⟩ HB5.out : NeedR w0 w5 p m (.slice (some ad0) l.length c) c3 _ l.length ns nl).plan)
          have hlen : nl.length ≤ 255 := by have := HLEN.out; omega
          have hbase := hR5.low.size
          have HR5 := Lib.hid hR5
          have HNW := Lib.hid hnews
          have HV1 := Lib.hid hv1
          have HV2 := Lib.hid hv2
          have HU5 := Lib.hid hu5
          clear hby hR5 hnews hv1 hv2 hu5
          go_wp2_with (at_builtin; (try rw [← hwy]); refine wpList_append_own_at _ rfl _ _ 34 rfl w0.heap.size 30 j0 _ 1 24 Try.underlying34 hj0 jz0 jzs jzb rfl (by decide) _ _ _ rfl HV1.out ⟨w5.heap.size, 0, none⟩ 1 1 [.slice ad5 r.length cap5] rfl rfl HNW.out (by simp [Value.oneCell']) (by unfold maxLen; omega) (by omega) hbase ?_; intro v' w6 hown6 hg6 _ hat6; obtain ⟨adm, capm, rfl⟩ := own_slice hown6; have hst := NeedR.step HR5.out hpge HV1.out HV2.out HU5.out hg6 hown6; obtain ⟨x0, x1, x2, x3⟩ := cells4 hst.1; have of := blockFree hst.1 2; have HST := Lib.hid hst; clear hst hown6 hg6 hat6 hwy)
          go_roundw
          case rel => exact ⟨k + 1, _, by omega, by go_num, Lib.hid HST.out.2.low, Lib.hid HST.out.2.plan, Lib.hid HST.out.2.map, by rw [HTM.out]; exact Lib.hid HST.out.2.needs, HTA2⟩
          case measure => simp [intOf]; omega
    · obtain rfl : k = l.length := by omega
      have hA := HA.out
      have hN := HN.out
      rw [List.take_length] at hA hN
      obtain ⟨z0, z1, z2, z3⟩ := cells4 HC.out
      have HA2 := Lib.hid hA
      have HN2 := Lib.hid hN
      clear hA hN
      go_wp2
      go_ret
      exact ⟨HB.out, .inl ⟨HA2.out, rfl, v, HC.out, HN2.out, HP.out⟩⟩
end Go.Proofs.Ytepddfkdjdklnaa.Ch
