/-
  checker: find, the walk.
-/
import Derived.Test.YtepddfkdjdklnaaQCh19
namespace Go.Proofs.Ytepddfkdjdklnaa.Ch
set_option linter.unusedVariables false
set_option linter.unusedSimpArgs false
set_option linter.unnecessarySimpa false
open Go.RowKit Go.Maps Go.Proofs.YtepddfkdjdklnaaK Go.Proofs.Ytepddfkdjdklnaa.PCheckerOrder Go.Proofs.YtepddfkdjdklnaaW.PrintWords Go.Proofs.YtepddfkdjdklnaaW.PrintLast

theorem cells4 {w : World} {g : Nat} {a0 a1 a2 a3 : Value} {t : TypeId} (h : w.heap[g]? = some (.cells #[a0, a1, a2, a3] t (0, 0))) : w.cell? ⟨g, 0, none⟩ = some a0 ∧ w.cell? ⟨g, 1, none⟩ = some a1 ∧ w.cell? ⟨g, 2, none⟩ = some a2 ∧ w.cell? ⟨g, 3, none⟩ = some a3 := by refine ⟨?_, ?_, ?_, ?_⟩ <;> simp [World.cell?, h]
set_option maxRecDepth 100000 in
set_option maxHeartbeats 4000000 in
theorem find_any (w0 w : World) (p m : Nat) (A : Option Addr) (c : Nat) (l : List S43) (c2 c3 : Value) (hb : Below w0.heap.size w0 w) (hp : w.heap[p]? = some (.cells #[.slice A l.length c, .map (some m), c2, c3] 36 (0, 0))) (hm : w0.heap.size ≤ m) (hr : Kd.C k43 w0 A l.length l) (hc : l.length ≤ c) (hl : l.length ≤ 256) (hnum : ∀ x ∈ l, 1 ≤ x.f0 ∧ x.f0 ≤ 9999) (hP : Pl w m 0 (tOf []) (kOf [])) :
    Calls Try.prog 18 #[.pointer (some ⟨p, 0, none⟩)] w (FindP w0 p m #[.slice A l.length c, .map (some m), c2, c3] l) := by
  obtain ⟨z0, z1, z2, z3⟩ := cells4 hp
  have HB0 := Lib.hid hb
  have HC0 := Lib.hid hp
  have HR := Lib.hid hr
  have HN := Lib.hid hnum
  have HP0 := Lib.hid hP
  clear hb hp hr hnum hP
  go_enter Try.func18, Try.ntmps18
  go_wp2
  clear z0 z1 z2 z3
  go_loopw [12] (fun i wr => ∃ k : Nat, k ≤ l.length ∧ i = .int .i64 k ∧ Hid (Below w0.heap.size w0 wr) ∧ Hid (wr.heap[p]? = some (.cells #[.slice A l.length c, .map (some m), c2, c3] 36 (0, 0))) ∧ Hid (Pl wr m k (tOf (nums (l.take k))) (kOf (nums (l.take k)))) ∧ Hid ((nums (l.take k)).Nodup)) (fun i _ => l.length - (intOf i).toNat)
  case atStart => exact ⟨0, Nat.zero_le _, rfl, HB0, HC0, by rw [List.take_zero]; exact HP0, by rw [List.take_zero]; exact Lib.hid List.nodup_nil⟩
  case round =>
    obtain ⟨k, hk, rfl, HB, HC, HP, HD⟩ := hrel
    by_cases hlt : k < l.length
    · obtain ⟨ad0, A4, c4, A5, c5, e0, q0, q1, q2, q3, q4, q5, g3, g4, g5, g6⟩ := at_T43 (Kd.C_below HR.out HB.out) (k : Int) (by omega) (by omega)
      have hy : rd_T43 l (k : Int) = l[k] := by unfold rd_T43; rw [Int.toNat_natCast, List.getD_eq_getElem?_getD, List.getElem?_eq_getElem hlt]; rfl
      rw [hy] at q0 q1 q2 q3 q4 q5
      rw [Int.toNat_natCast] at q0 q1 q2 q3 q4 q5
      clear g3 g4 g5 g6 hy
      have hns : nums (l.take (k + 1)) = nums (l.take k) ++ [l[k].f0] := by
        unfold nums; rw [List.take_succ_eq_append_getElem hlt, List.map_append]; rfl
      have hbig := HN.out _ (List.getElem_mem hlt)
      have hsub : (nums (l.take (k + 1))).Sublist (nums l) := (List.take_sublist _ _).map _
      have hnl : (nums (l.take k)).length = k := by unfold nums; simp; omega
      have hwf : (Lit.int .i64 l[k].f0).wf = true := WalkArith.wf_i64 ⟨by omega, by omega⟩
      cases e0
      generalize nums (l.take k) = ns at *
      obtain ⟨ns1, hn1⟩ : ∃ x, nums (l.take (k + 1)) = x := ⟨_, rfl⟩
      rw [hn1] at hns hsub
      have HN1 := Lib.hid hn1
      clear hn1
      generalize l[k] = y at *
      obtain ⟨z0, z1, z2, z3⟩ := cells4 HC.out
      have hk2 : (Lit.int .i64 (k : Int)).wf = true := WalkArith.wf_i64 ⟨by omega, by omega⟩
      obtain ⟨wa, hwa⟩ : ∃ W : World, W = wr.alloc (.cells #[.int .i64 y.f0, .int .i64 y.f1.f0, .int .i64 y.f1.f1, .string y.f1.f2, .slice A4 y.f1.f3.length c4, .slice A5 y.f1.f4.length c5] 43) := ⟨_, rfl⟩
      have hba : Below wr.heap.size wr wa := by rw [hwa]; exact s_alloc (Below.refl _ _) _
      have hxa : wa.heap[wr.heap.size]? = some (.cells #[.int .i64 y.f0, .int .i64 y.f1.f0, .int .i64 y.f1.f1, .string y.f1.f2, .slice A4 y.f1.f3.length c4, .slice A5 y.f1.f4.length c5] 43 (0, 0)) := by rw [hwa]; exact Array.getElem?_push_size
      have HBA := Lib.hid (s_trans HB.out hba)
      have HPA := Lib.hid (HP.out.below hba)
      have HCA := Lib.hid (block_on hba HC.out)
      have HXA := Lib.hid hxa
      have HNS := Lib.hid hns
      have HSUB := Lib.hid hsub
      have HNL := Lib.hid hnl
      clear hba hxa hns hsub hnl
      go_upto_region 4 with fail
      rw [← hwa]
      clear hwa z0 z1 z2 z3 q0 q1 q2 q3 q4 q5
      obtain ⟨z0, z1, z2, z3⟩ := cells4 HCA.out
      obtain ⟨q0, q1, q2, q3, q4, q5⟩ := cells6 HXA.out
      have hlook : ∀ W : World, W = wa ∨ W = wa.drew → (Instr.lookup 33 (.map (some m)) (.int .i64 y.f0) true).run Try.prog W = .ok (.tuple #[.int .i64 (tOf ns y.f0), .bool (kOf ns y.f0)]) W := fun W h => by
        rcases h with rfl | rfl
        · exact HPA.out.look _ hwf
        · exact Pl.look (w := wa.drew) HPA.out _ hwf
      have hl1 := hlook _ (.inl rfl)
      have hl2 := hlook _ (.inr rfl)
      clear hlook
      go_region
      clear hl1 hl2
      have HBD := Lib.hid (show Below w0.heap.size w0 wa.drew from s_drew HBA.out)
      have HPD := Lib.hid (show Pl wa.drew m k (tOf ns) (kOf ns) from HPA.out)
      have HCD := Lib.hid (show wa.drew.heap[p]? = some (.cells #[.slice (some ad0) l.length c, .map (some m), c2, c3] 36 (0, 0)) from HCA.out)
      have HXD := Lib.hid (show wa.drew.heap[wr.heap.size]? = some (.cells #[.int .i64 y.f0, .int .i64 y.f1.f0, .int .i64 y.f1.f1, .string y.f1.f2, .slice A4 y.f1.f3.length c4, .slice A5 y.f1.f4.length c5] 43 (0, 0)) from HXA.out)
      clear z0 z1 z2 z3 q0 q1 q2 q3 q4 q5
      generalize wa.drew = wd at *
      obtain ⟨z0, z1, z2, z3⟩ := cells4 HCD.out
      obtain ⟨q0, q1, q2, q3, q4, q5⟩ := cells6 HXD.out
      generalize tOf ns y.f0 = tv at *
      generalize hK : kOf ns y.f0 = KB at *
      have HK := Lib.hid hK
      clear hK
      cases KB with
      | true =>
        go_wp2
        go_ret
        refine ⟨HBD.out, HCD.out, .inr ⟨fun h => ?_, rfl⟩⟩
        have h2 := List.Sublist.nodup HSUB.out h
        rw [HNS.out] at h2
        have h3 := HK.out
        unfold kOf at h3
        have h4 := of_decide_eq_true h3
        exact (List.nodup_append.1 h2).2.2 _ h4 _ (List.mem_singleton.2 rfl) rfl
      | false =>
        go_upto_region 7 with fail
        obtain ⟨w5, hrun, hP5, hg5⟩ := Pl.put (w := wd.drew) HPD.out (by unfold maxLen; omega) y.f0 (k : Int) hwf hk2
        have hpm : p ≠ m := by
          intro e
          obtain ⟨D, ⟨es, clock, hmm, _⟩, _⟩ := HPD.out
          rw [← e, HCD.out] at hmm
          cases hmm
        have hB5 : Below w0.heap.size w0 w5 := ⟨hg5.os.trans HBD.out.os, hg5.tape.trans (s_drew HBD.out).tape, hg5.output.trans HBD.out.output, Nat.le_trans HBD.out.size hg5.size, fun j hj => (hg5.block j (Nat.lt_of_lt_of_le hj HBD.out.size) (fun e => by have := Option.some.inj e; omega)).trans (HBD.out.block j hj)⟩
        have hC5 := (hg5.block p (block_lt HCD.out) (fun e => hpm (Option.some.inj e))).trans HCD.out
        have hnn : y.f0 ∉ ns := fun e => by
          have h3 := HK.out
          unfold kOf at h3
          rw [decide_eq_true e] at h3
          cases h3
        have hns2 := HNS.out
        have hP6 : Pl w5 m (k + 1) (tOf ns1) (kOf ns1) := by
          rw [hns2, tOf_snoc _ _ hnn, kOf_snoc, HNL.out]
          exact hP5
        have hD6 : ns1.Nodup := by
          rw [hns2]
          exact List.nodup_append.2 ⟨HD.out, by simp, fun a ha b hb e => hnn (by rw [← List.mem_singleton.1 hb, ← e]; exact ha)⟩
        have HB5 := Lib.hid hB5
        have HC5 := Lib.hid hC5
        have HP6 := Lib.hid hP6
        have HD6 := Lib.hid hD6
        clear hB5 hC5 hP6 hD6 hP5 hg5 hns2 hnn hpm
        go_region
        go_wp2
        go_roundw
        case rel => exact ⟨k + 1, by omega, by go_num, HB5, HC5, by rw [HN1.out]; exact HP6, by rw [HN1.out]; exact HD6⟩
        case measure => simp [intOf]; omega
    · obtain rfl : k = l.length := by omega
      obtain ⟨z0, z1, z2, z3⟩ := cells4 HC.out
      rw [List.take_length] at HP HD
      go_wp2
      go_ret
      exact ⟨HB.out, HC.out, .inl ⟨HD.out, rfl, HP.out⟩⟩
end Go.Proofs.Ytepddfkdjdklnaa.Ch
