/-
  checker: arrange, the walk.
-/
import Derived.Test.YtepddfkdjdklnaaQCh23
import Derived.Deep.LoopGhost
namespace Go.Proofs.Ytepddfkdjdklnaa.Ch
set_option linter.unusedVariables false
set_option linter.unusedSimpArgs false
set_option linter.unnecessarySimpa false
open Go.RowKit Go.Maps Go.Proofs.YtepddfkdjdklnaaK Go.Proofs.Ytepddfkdjdklnaa.PCheckerOrder Go.Proofs.YtepddfkdjdklnaaW.PrintWords Go.Proofs.YtepddfkdjdklnaaW.PrintLast Go.Sort

theorem infoB : (Try.prog.info? 4).map (fun i => (i.zero, i.size, i.bytes)) = some (some (.bool false), 1, 1) := by kernel_rfl
set_option maxRecDepth 100000 in
set_option maxHeartbeats 4000000 in
theorem arrange_any (w : World) (p : Nat) (A : Option Addr) (c : Nat) (c1 c2 : Value) (ns : List (List Nat)) (base : Nat) (hp : w.heap[p]? = some (.cells #[.slice A ns.length c, c1, c2, .slice none 0 0] 36 (0, 0))) (hN : NeedsIn w base c2 ns) (hn : ns.length ≤ 256) (hin : ∀ q ∈ ns, q.length ≤ 1000000 ∧ ∀ x ∈ q, x < ns.length) :
    Calls Try.prog 21 #[.pointer (some ⟨p, 0, none⟩)] w (ArrP w p (.slice A ns.length c) c1 c2 ns) := by
  obtain ⟨adn, capn, rfl⟩ : ∃ ad cap, c2 = .slice ad ns.length cap := by
    obtain ⟨vs, hv1, hv2⟩ := hN.row
    exact own_slice hv1
  obtain ⟨z0, z1, z2, z3⟩ := cells4 hp
  obtain ⟨i0, hi0, hz0, hzs, hzb⟩ := info_parts infoI
  obtain ⟨b0, hb0, bz0, bzs, bzb⟩ := info_parts infoB
  have hmk := run_make (P := Try.prog) w 29 4 b0 _ Try.underlying29 hb0 bz0 .i64 .i64 (ns.length : Int) (ns.length : Int) (by omega) (Int.le_refl _) (by rw [bzb]; omega) (by omega)
  rw [bzs, Nat.mul_one, Int.toNat_natCast] at hmk
  have hdm := done_made w ns.length
  obtain ⟨n, hnn⟩ : ∃ n, ns.length = n := ⟨_, rfl⟩
  obtain ⟨wa, hwa⟩ : ∃ W : World, W = (w.alloc (.cells (madeCells #[Value.bool false] n) 4)) := ⟨_, rfl⟩
  have hba : Below w.heap.size w wa := by rw [hwa]; exact s_alloc (Below.refl _ _) _
  have hsz : wa.heap.size = w.heap.size + 1 := by rw [hwa]; simp
  have hmk2 : (Instr.makeSlice 29 (.int .i64 n) (.int .i64 n)).run Try.prog w = .ok (.slice (some ⟨w.heap.size, 0, none⟩) n n) (w.alloc (.cells (madeCells #[Value.bool false] n) 4)) := by rw [← hnn]; exact hmk
  obtain ⟨wb, hwb⟩ : ∃ W : World, W = wa.alloc (.cells #[.slice (some ⟨w.heap.size, 0, none⟩) n n] 29) := ⟨_, rfl⟩
  rw [hnn, ← hwa, ← hwb] at hdm
  have hbb : Below w.heap.size w wb := by rw [hwb]; exact s_alloc hba _
  have HDM := Lib.hid hdm
  have HBB := Lib.hid hbb
  have HN := Lib.hid hN
  have HC0 := Lib.hid hp
  have HIN := Lib.hid hin
  rw [hnn] at HC0 HIN hn z0 z2 HN
  rw [hnn]
  have HNN := Lib.hid hnn
  clear hN hin hp hmk hdm hnn hba hbb
  go_enter Try.func21, Try.ntmps21
  go_wp2
  go_step3
  go_upto_region 2 with fail
  rw [← hwa, ← hwb]
  clear hwb hwa hsz hmk2 z0 z1 z2 z3
  go_wp2
  go_step3
  go_wp2
  go_loopg [2] n (fun g v2 wr => ∃ (ds : List Bool) (o : List Nat) (vo : Value), g = n - o.length ∧ o.length ≤ n ∧ ds.length = n ∧ Hid (ArrR w wr p (w.heap.size + 1) w.heap.size (.slice A n c) c1 (.slice adn n capn) vo ds o) ∧ Hid (arrF ns (n - o.length + 1) ds o = arr ns))
  case atStart => exact ⟨List.replicate n false, [], _, by simp, by simp, by simp, Lib.hid ⟨⟨HBB.out.os, HBB.out.tape, HBB.out.output, HBB.out.size, fun k hk _ => HBB.out.block k hk⟩, block_on HBB.out HC0.out, block_lt HC0.out, HDM.out, World.ownsRow_nil _ _ _ _, Nat.le_succ _, Nat.le_refl _⟩, Lib.hid (by unfold arr; rw [HNN.out]; rfl)⟩
  case round =>
    obtain ⟨ds, o, vo, rfl, hon, hds, HR, HF⟩ := hrel
    obtain ⟨ado, capo, rfl⟩ := own_slice HR.out.row
    obtain ⟨z0, z1, z2, z3⟩ := cells4 HR.out.plan
    clear z1 z2
    go_upto_region 3 with fail
    go_region
    clear z0 z3
    have hd : Below wr.heap.size wr wr.drew := s_drew (Below.refl _ _)
    have HR1 := Lib.hid (HR.out.below hd)
    clear hd HR
    generalize wr.drew = wd at *
    by_cases hlt : o.length < n
    · obtain ⟨z0, z1, z2, z3⟩ := cells4 HR1.out.plan
      simp only [hlt, decide_true]
      go_wp2
      clear z0 z1 z2 z3
      go_loopg [30] n (fun g v2 wr => ∃ i : Nat, i ≤ n ∧ g = n - i ∧ v2 = .int .i64 i ∧ Hid (ArrR w wr p (w.heap.size + 1) w.heap.size (.slice A n c) c1 (.slice adn n capn) (.slice ado o.length capo) ds o) ∧ Hid (nextOf ds (ns.drop i) i = nextOf ds ns 0))
      case atStart => exact ⟨0, Nat.zero_le _, rfl, rfl, HR1, Lib.hid (by rw [List.drop_zero])⟩
      case round =>
        obtain ⟨i, hi, rfl, rfl, HRi, HX⟩ := hrel
        by_cases hit : i < n
        · have hin2 : i < ns.length := by rw [HNN.out]; exact hit
          obtain ⟨vs, hv1, hv2⟩ := (NeedsIn.far HN.out HRi.out.grow HC0.out).row
          rw [HNN.out] at hv1
          obtain ⟨gv, capv, u, ev, hnc, _, hgv, hu, q0⟩ := own_at hv1 hit
          obtain ⟨u2, hu2, hou⟩ := hv2 i hin2
          rw [hu] at hu2
          obtain rfl := Option.some.inj hu2
          obtain ⟨Aq, gq, cq, rfl, hqc, hrow⟩ := rowI_of hou
          cases ev
          have hdrop : nextOf ds (ns.drop i) i = if ready ds ns[i] i = true then some i else nextOf ds (ns.drop (i + 1)) (i + 1) := by rw [List.drop_eq_getElem_cons hin2, nextOf]
          rw [HX.out] at hdrop
          have hinq := HIN.out _ (List.getElem_mem hin2)
          have hmis := missings_any wr (w.heap.size + 1) w.heap.size ds Aq gq cq ns[i] HRi.out.done (by omega) hqc (by rw [hds]; exact hinq.2) hrow
          have hb : wr.cell? ⟨w.heap.size, i, none⟩ = some (.bool (ds.getD i false)) := HRi.out.done.at (by omega)
          have hbox := cells1 HRi.out.done.box
          rw [hds] at hbox
          have hmf := blockFree HRi.out.done.row i
          obtain ⟨z0, z1, z2, z3⟩ := cells4 HRi.out.plan
          have hq' : (ns[i] : List Nat).any (fun x => !ds.getD x false) = lacks ds ns[i] := rfl
          rw [hq'] at hmis
          have hinq2 := hinq.1
          generalize ns[i] = q at *
          have HDR := Lib.hid hdrop
          have HMI := Lib.hid hmis
          clear hdrop hinq hmis hrow hou hv1 hv2 hu hu2 hin2 hq'
          generalize hb9 : ds.getD i false = b9 at *
          have HB9 := Lib.hid hb9
          clear hb9
          cases b9 with
          | true =>
            have hD := HDR.out
            unfold ready at hD
            rw [HB9.out, Bool.not_true, Bool.false_and, if_neg (by decide)] at hD
            have HD2 := Lib.hid hD
            clear hD HMI
            go_wp2
            go_roundg (n - (i + 1))
            case rel => exact ⟨i + 1, by omega, rfl, by go_num, HRi, Lib.hid HD2.out.symm⟩
            case measure => omega
          | false =>
            have hD := HDR.out
            unfold ready at hD
            rw [HB9.out, Bool.not_false, Bool.true_and] at hD
            generalize lacks ds q = lk at *
            cases lk with
            | true =>
              rw [Bool.not_true, if_neg (by decide)] at hD
              have HD2 := Lib.hid hD
              clear hD
              go_wp2_with (go_at_call 37; refine HMI.out.mono ?_; rintro e w2 ⟨rfl, hbl⟩; have HR2 := Lib.hid (HRi.out.below hbl); clear hbl)
              go_roundg (n - (i + 1))
              case rel => exact ⟨i + 1, by omega, rfl, by go_num, HR2, Lib.hid HD2.out.symm⟩
              case measure => omega
            | false =>
              rw [Bool.not_false, if_pos rfl] at hD
              have HD2 := Lib.hid hD
              clear hD
              go_upto_region 8 with (go_at_call 37; refine HMI.out.mono ?_; rintro e w2 ⟨rfl, hbl⟩; have HR2 := Lib.hid (HRi.out.below hbl); clear hbl)
              clear hbox hb hmf z0 z1 z2 z3 q0 HMI
              have hbox := cells1 HR2.out.done.box
              rw [hds] at hbox
              have hmf := blockFree HR2.out.done.row i
              have hb : w2.cell? ⟨w.heap.size, i, none⟩ = some (.bool (ds.getD i false)) := HR2.out.done.at (by omega)
              rw [HB9.out] at hb
              have hR8 := HR2.out.set i
              go_upto_region 9 with fail
              clear hbox hmf hb
              generalize w2.setCell ⟨w.heap.size, i, none⟩ (.bool true) = w8 at *
              obtain ⟨wy, hwy⟩ : ∃ W : World, W = w8.alloc (.cells #[.int .i64 (i : Nat)] 3) := ⟨_, rfl⟩
              have hby : Below w8.heap.size w8 wy := by rw [hwy]; exact s_alloc (Below.refl _ _) _
              have hRy := hR8.below hby
              have hnews := int_news w8 (i : Nat)
              rw [← hwy] at hnews
              obtain ⟨y0, y1, y2, y3⟩ := cells4 hR8.plan
              have hbase := hRy.grow.size
              have HRY := Lib.hid hRy
              have HNW := Lib.hid hnews
              clear hR8 hRy hnews hby
              go_wp2_with (at_builtin; (try rw [← hwy]); refine wpList_append_own_at _ rfl _ _ 30 rfl w.heap.size 3 i0 _ 1 8 Try.underlying30 hi0 hz0 hzs hzb rfl (by decide) _ _ _ rfl HRY.out.row ⟨w8.heap.size, 0, none⟩ 1 1 [.int .i64 (i : Nat)] rfl rfl HNW.out (by simp [Value.oneCell']) (by unfold maxLen; omega) (by omega) hbase ?_; intro v' w9 hown9 hg9 _ hat9; obtain ⟨adm, capm, rfl⟩ := own_slice hown9; have hst := HRY.out.put i hg9 hown9; obtain ⟨x0, x1, x2, x3⟩ := cells4 hst.1; have of := blockFree hst.1 3; have HST := Lib.hid hst; clear hst hown9 hg9 hat9 hwy)
              go_roundg (n - (o.length + 1))
              case rel => exact ⟨ds.set i true, o ++ [i], _, by simp, by simp; omega, by simp [hds], Lib.hid HST.out.2, Lib.hid (by
                have hF := HF.out
                rw [arrF, if_pos (by rw [HNN.out]; exact hlt), HD2.out] at hF
                rw [← hF, List.length_append, List.length_singleton]
                have e : n - (o.length + 1) + 1 = n - o.length := by omega
                rw [e])⟩
              case measure => omega
        · obtain rfl : i = n := by omega
          have hX := HX.out
          rw [List.drop_eq_nil_of_le (by rw [HNN.out]; exact Nat.le_refl _)] at hX
          have hF := HF.out
          rw [arrF, if_pos (by rw [HNN.out]; exact hlt), ← hX] at hF
          have HF2 := Lib.hid hF
          clear hX hF
          go_wp2
          try rw [Exit.noGoto_ret]
          go_ret
          exact ⟨HRi.out.grow, .inr ⟨HF2.out.symm, rfl⟩⟩
    · have hF := HF.out
      rw [arrF, if_neg (by rw [HNN.out]; exact hlt)] at hF
      have HF2 := Lib.hid hF
      clear hF
      obtain ⟨z0, z1, z2, z3⟩ := cells4 HR1.out.plan
      go_wp2
      try rw [Exit.noGoto_ret]
      go_ret
      exact ⟨HR1.out.grow, .inl ⟨o, _, HF2.out.symm, rfl, HR1.out.plan, HR1.out.row⟩⟩
end Go.Proofs.Ytepddfkdjdklnaa.Ch
