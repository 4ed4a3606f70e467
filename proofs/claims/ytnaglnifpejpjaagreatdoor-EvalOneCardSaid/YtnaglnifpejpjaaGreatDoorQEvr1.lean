/-
  octroiref34.Picks (written by mkevr.py).
-/
import Derived.Test.YtnaglnifpejpjaaGreatDoorQEvA
namespace Go.Proofs.YtnaglnifpejpjaaGreatDoor.Ch
set_option linter.unusedVariables false
set_option linter.unusedSimpArgs false
set_option linter.unnecessarySimpa false
open Go.RowKit Go.Proofs.YtnaglnifpejpjaaGreatDoorK Go.Proofs.YtnaglnifpejpjaaGreatDoor.XEvalRuns Go.Proofs.YtnaglnifpejpjaaGreatDoorW.PrintWords Go.Proofs.YtnaglnifpejpjaaGreatDoorW.PrintLast
theorem tagr_some (r : S45) (t : ByteArray) : octroiref25_Tag.f r.f0.f0 r.f0.f1 r.f0.f2 r.f1.f0 r.f1.f1 r.f1.f2 r.f2 r.f3 r.f4 r.f5 r.f6 r.f7 r.f8 r.f9 r.f10 r.f11 r.f12 t = some (tagV r t) := by
 rw [← tag_some]
 unfold tagF octroiref25_Tag.f entry_Tag.f octroiref25_one.f octroiref25_Late.f entry_Late.f
 simp only [Option.bind_some]
 repeat' (first | rfl | split)
 all_goals simp_all
theorem owedr (r : S45) : octroiref25_Owed.f r.f0.f0 r.f0.f1 r.f0.f2 r.f1.f0 r.f1.f1 r.f1.f2 r.f2 r.f3 r.f4 r.f5 r.f6 r.f7 r.f8 r.f9 r.f10 r.f11 r.f12 = entry_Owed.f r.f0.f0 r.f0.f1 r.f0.f2 r.f1.f0 r.f1.f1 r.f1.f2 r.f2 r.f3 r.f4 r.f5 r.f6 r.f7 r.f8 r.f9 r.f10 r.f11 r.f12 := by
 have h1 : octroiref18_Output.f r.f5 = treat_Output.f r.f5 := by
  unfold octroiref18_Output.f treat_Output.f
  by_cases h : r.f5 ≥ 12
  ·rw [if_neg (by omega), if_neg (by omega), if_neg (by omega), if_pos h, if_neg (by omega), if_neg (by omega), if_neg (by omega)]
   by_cases h12 : r.f5 = 12
   ·rw [if_pos h12, decide_eq_true (by omega)]
   rw [if_neg h12]
   by_cases h13 : r.f5 = 13
   ·rw [if_pos h13, decide_eq_true (by omega)]
   rw [if_neg h13]
   by_cases h14 : r.f5 = 14
   ·rw [if_pos h14, decide_eq_true (by omega)]
   ·rw [if_neg h14, decide_eq_false (by omega)]
  ·rw [if_neg h, if_neg (show ¬ r.f5 = 12 by omega), if_neg (show ¬ r.f5 = 13 by omega), if_neg (show ¬ r.f5 = 14 by omega)]
 unfold octroiref25_Owed.f entry_Owed.f
 rw [h1]
 rfl
theorem fieldr_some (r : S45) (t : ByteArray) : octroiref25_Field.f r.f0.f0 r.f0.f1 r.f0.f2 r.f1.f0 r.f1.f1 r.f1.f2 r.f2 r.f3 r.f4 r.f5 r.f6 r.f7 r.f8 r.f9 r.f10 r.f11 r.f12 t = some (fieldV r t) := by
 rw [← field_some]
 unfold fieldF octroiref25_Field.f entry_Field.f
 rw [owedr]
theorem tagr_calls (r : S45) (t : ByteArray) (w : World) : Calls Tryz.prog 31 #[rV r, .string t] w fun e w' => e = .returned (.tuple #[.int .i64 (tagV r t).1, .bool (tagV r t).2]) ∧ Below w.heap.size w w' :=
 octroiref25_Tag.calls _ _ _ _ _ _ _ _ _ _ _ _ _ _ _ _ _ t _ _ w (tagr_some r t)
theorem fieldr_calls (r : S45) (t : ByteArray) (w : World) : Calls Tryz.prog 112 #[rV r, .string t] w fun e w' => e = .returned (.tuple #[.int .i64 (fieldV r t).1, .bool (fieldV r t).2]) ∧ Below w.heap.size w w' :=
 octroiref25_Field.calls _ _ _ _ _ _ _ _ _ _ _ _ _ _ _ _ _ t _ _ w (fieldr_some r t)
theorem At.on {w w' : World} {p : Addr} {cs : List Value} (h : RowTake.At w p cs) (hb : Below w.heap.size w w') : RowTake.At w' p cs := h.below hb rfl
/-- The ways in which a filter may hold or not. -/
theorem hit_ways (c n m : Int) : ∃ b61 b60 b62 p61 p60 p62 SG : Bool, (c == 61) = b61 ∧ (c == 60) = b60 ∧ (c == 62) = b62 ∧ (n == m) = p61 ∧ decide (n < m) = p60 ∧ decide (m < n) = p62 ∧ signB c n m = SG ∧
 ((b61 = true ∧ b60 = false ∧ b62 = false ∧ p61 = true ∧ SG = true) ∨ (b61 = true ∧ b60 = false ∧ b62 = false ∧ p61 = false ∧ SG = false) ∨ (b61 = false ∧ b60 = true ∧ b62 = false ∧ p60 = true ∧ SG = true) ∨ (b61 = false ∧ b60 = true ∧ b62 = false ∧ p60 = false ∧ SG = false) ∨ (b61 = false ∧ b60 = false ∧ b62 = true ∧ p62 = true ∧ SG = true) ∨ (b61 = false ∧ b60 = false ∧ b62 = true ∧ p62 = false ∧ SG = false) ∨ (b61 = false ∧ b60 = false ∧ b62 = false ∧ p61 = p61 ∧ SG = false)) := by
 refine ⟨_, _, _, _, _, _, _, rfl, rfl, rfl, rfl, rfl, rfl, rfl, ?_⟩
 unfold signB
 by_cases h1 : c = 61
 ·subst h1
  cases h : (n == m)
  ·exact .inr (.inl ⟨rfl, rfl, rfl, rfl, by rw [if_pos rfl]⟩)
  ·exact .inl ⟨rfl, rfl, rfl, rfl, by rw [if_pos rfl]⟩
 by_cases h2 : c = 60
 ·subst h2
  cases h : decide (n < m)
  ·exact .inr (.inr (.inr (.inl ⟨rfl, rfl, rfl, rfl, by rw [if_neg (by decide), if_pos rfl]⟩)))
  ·exact .inr (.inr (.inl ⟨rfl, rfl, rfl, rfl, by rw [if_neg (by decide), if_pos rfl]⟩))
 by_cases h3 : c = 62
 ·subst h3
  cases h : decide (m < n)
  ·exact .inr (.inr (.inr (.inr (.inr (.inl ⟨rfl, rfl, rfl, rfl, by rw [if_neg (by decide), if_neg (by decide), if_pos rfl]⟩)))))
  ·exact .inr (.inr (.inr (.inr (.inl ⟨rfl, rfl, rfl, rfl, by rw [if_neg (by decide), if_neg (by decide), if_pos rfl]⟩))))
 ·exact .inr (.inr (.inr (.inr (.inr (.inr ⟨beq_eq_false_iff_ne.2 h1, beq_eq_false_iff_ne.2 h2, beq_eq_false_iff_ne.2 h3, rfl, by rw [if_neg h1, if_neg h2, if_neg h3]⟩)))))
set_option maxRecDepth 100000 in
set_option maxHeartbeats 8000000 in
theorem selr_any (r : S45) (A : Option Addr) (c : Nat) (l : List S70) (w : World) (hr : Kd.C k70 w A l.length l) (hc : l.length ≤ c) (hl : l.length < 1000000000000) : Calls Tryz.prog 14 #[.slice A l.length c, rV r] w fun e w' => e = .returned (.bool (selB r l)) ∧ Below w.heap.size w w' := by
 have ht := fun t W => tagr_calls r t W
 obtain ⟨P, hP⟩ : ∃ P, hitB r = P := ⟨_, rfl⟩
 unfold selB
 have hPe : ∀ f, P f = ((tagV r f.f0).2 && signB f.f1 (tagV r f.f0).1 f.f2) := fun f => by rw [← hP]; rfl
 rw [hP]
 have HTG := Lib.hid ht
 have HPE := Lib.hid hPe
 have HR := Lib.hid hr
 clear ht hPe hr hP
 have hx0 : (w.alloc (.cells (rC r) 45)).heap[w.heap.size]? = some (.cells (rC r) 45 (0, 0)) := heap_alloc_last _ _
 have hb0 : Below w.heap.size w (w.alloc (.cells (rC r) 45)) := s_alloc (Below.refl _ _) _
 obtain ⟨W1, hW⟩ : ∃ W : World, W = w.alloc (.cells (rC r) 45) := ⟨_, rfl⟩
 rw [← hW] at hx0 hb0
 have HX0 := Lib.hid hx0
 have HB0 := Lib.hid hb0
 clear hx0 hb0
 go_enter Tryz.func14, Tryz.ntmps14
 go_upto_region 1 with fail
 rw [← hW]
 clear hW
 go_wp2
 go_loopw [5] (fun i wr => ∃ k : Nat, k ≤ l.length ∧ i = .int .i64 k ∧ Hid ((l.take k).all P = true) ∧ Hid (wr.heap[w.heap.size]? = some (.cells (rC r) 45 (0, 0))) ∧ Hid (Below w.heap.size w wr)) (fun i _ => l.length - (intOf i).toNat)
 case atStart => exact ⟨0, Nat.zero_le _, rfl, by rw [List.take_zero]; exact Lib.hid rfl, HX0, HB0⟩
 case round =>
  obtain ⟨k, hk, rfl, HA, HX, HB⟩ := hrel
  by_cases hlt : k < l.length
  ·obtain ⟨ad0, e0, q0, q1, q2⟩ := at_T70 (Kd.C_below HR.out HB.out) (k : Int) (by omega) (by omega)
   have hy := rd64' l k hlt
   have htk : (l.take (k + 1)).all P = P l[k] := by
    rw [List.take_succ_eq_append_getElem hlt, List.all_append, HA.out, Bool.true_and, List.all_cons, List.all_nil, Bool.and_true]
   have hno : P l[k] = false → l.all P = false := fun e => by
    cases h : l.all P with
    | false => rfl
    | true => rw [List.all_eq_true.1 h _ (List.getElem_mem hlt)] at e; cases e
   rw [hy] at q0 q1 q2
   rw [Int.toNat_natCast] at q0 q1 q2
   cases e0
   generalize l[k] = y at *
   clear hy
   have hpy := HPE.out y
   have hyy : (fun W : World => RowTake.At W ⟨w.heap.size, 0, none⟩ (rC r).toList ∧ W.cell? (ad0.add (k * 3)) = some (.string y.f0) ∧ W.cell? ⟨(ad0.add (k * 3)).block, (ad0.add (k * 3)).off + 1, none⟩ = some (.int .u8 y.f1) ∧ W.cell? ⟨(ad0.add (k * 3)).block, (ad0.add (k * 3)).off + 2, none⟩ = some (.int .i64 y.f2)) wr := ⟨RowTake.At.block HX.out, q0, q1, q2⟩
   have hc : ∀ W : World, Below wr.heap.size wr W → RowTake.At W ⟨w.heap.size, 0, none⟩ (rC r).toList ∧ W.cell? (ad0.add (k * 3)) = some (.string y.f0) ∧ W.cell? ⟨(ad0.add (k * 3)).block, (ad0.add (k * 3)).off + 1, none⟩ = some (.int .u8 y.f1) ∧ W.cell? ⟨(ad0.add (k * 3)).block, (ad0.add (k * 3)).off + 2, none⟩ = some (.int .i64 y.f2) := fun W hb => by
    have q : ∀ (p : Addr) (v : Value), wr.cell? p = some v → W.cell? p = some v := fun p v e => (hb.cell (p := p) (World.block_lt_of_cell? wr _ e)).trans e
    exact ⟨At.on hyy.1 hb, q _ _ q0, q _ _ q1, q _ _ q2⟩
   have htg := HTG.out y.f0
   obtain ⟨n, ok, hv⟩ : ∃ n ok, tagV r y.f0 = (n, ok) := ⟨_, _, rfl⟩
   rw [hv] at htg hpy
   dsimp only at htg hpy
   obtain ⟨b61, b60, b62, p61, p60, p62, SG, e61, e60, e62, f61, f60, f62, hsg, hways⟩ := hit_ways y.f1 n y.f2
   have f60' : decide (y.f2 > n) = p60 := f60
   have f62' : decide (n > y.f2) = p62 := f62
   rw [hsg] at hpy
   clear hsg
   have HT := Lib.hid htg
   have HC := Lib.hid hc
   have HY := Lib.hid hyy
   have HTK := Lib.hid htk
   have HNO := Lib.hid hno
   generalize P y = py at *
   have HPY := Lib.hid hpy
   have HXK := HX
   clear htg hc hyy htk hno hpy hv q0 q1 q2
   have hcases : (ok = false → py = false) ∧ (ok = true → py = SG) := by have := HPY.out; constructor <;> intro h <;> subst h <;> simp_all
   obtain ⟨hc0, hc1⟩ := hcases
   rcases hways with h | h | h | h | h | h | h
   all_goals
    obtain ⟨rfl, rfl, rfl, h4, rfl⟩ := h
    first
     | subst h4
     | clear h4
    cases ok
    all_goals
     first
      | have hpf : py = false := hc0 rfl
      | have hpf : py = false := hc1 rfl
      | have hpf : py = true := hc1 rfl
     clear hc0 hc1
     have HPF := Lib.hid hpf
     clear hpf
     go_upto_region 4 with fail
     have hy := HY.out
     refine start_ (n := 12) (S := fun w' => RowTake.At w' ⟨w.heap.size, 0, none⟩ (rC r).toList ∧ w'.cell? (ad0.add (k * 3)) = some (.string y.f0) ∧ w'.cell? ⟨(ad0.add (k * 3)).block, (ad0.add (k * 3)).off + 1, none⟩ = some (.int .u8 y.f1) ∧ w'.cell? ⟨(ad0.add (k * 3)).block, (ad0.add (k * 3)).off + 2, none⟩ = some (.int .i64 y.f2)) (ds := []) #[false, false, false, false, false, false, false, false, false, false, false, false] (by kernel_rfl) rfl rfl ⟨hy.1, hy.2.1, hy.2.2.1, hy.2.2.2⟩ (fun hHeld => ?_)
     obtain ⟨wd, hwd⟩ : ∃ W, W = wr.drew := ⟨_, rfl⟩
     rw [← hwd] at hHeld
     rw [← hwd]
     have hdr : Below wr.heap.size wr wd := by rw [hwd]; exact s_drew (Below.refl _ _)
     have HBd := Lib.hid hdr
     clear hwd hdr
     refine pure_ (i := 1) (N := some 17) (v := ?_) (a' := ?_) #[false, true, false, false, false, false, false, false, false, false, false, false] rfl rfl (by kernel_rfl) (fun _ _ _ h => h) (Or.inl ⟨by rfl, ?_⟩) ?_ ?_
     rotate_left
     ·intro w'
      go_simp
      with_reducible rfl
     rotate_left
     ·simp only [Act.put, List.setIfInBounds_toArray, List.set_cons_zero, List.set_cons_succ, i64_w, i32_w]
      rfl
     refine pure_ (i := 2) (N := some 18) (v := ?_) (a' := ?_) #[false, true, true, false, false, false, false, false, false, false, false, false] rfl rfl (by kernel_rfl) (fun _ _ _ h => h) (Or.inl ⟨by rfl, ?_⟩) ?_ ?_
     rotate_left
     ·intro w'
      go_simp
      with_reducible rfl
     rotate_left
     ·simp only [Act.put, List.setIfInBounds_toArray, List.set_cons_zero, List.set_cons_succ, i64_w, i32_w]
      rfl
     refine pure_ (i := 3) (N := some 19) (v := ?_) (a' := ?_) #[false, true, true, true, false, false, false, false, false, false, false, false] rfl rfl (by kernel_rfl) (fun _ _ _ h => h) (Or.inl ⟨by rfl, ?_⟩) ?_ ?_
     rotate_left
     ·intro w'
      go_simp
      with_reducible rfl
     rotate_left
     ·simp only [Act.put, List.setIfInBounds_toArray, List.set_cons_zero, List.set_cons_succ, i64_w, i32_w]
      rfl
     refine pure_ (i := 4) (N := some 20) (v := ?_) (a' := ?_) #[false, true, true, true, true, false, false, false, false, false, false, false] rfl rfl (by kernel_rfl) (fun _ _ _ h => h) (Or.inl ⟨by rfl, ?_⟩) ?_ ?_
     rotate_left
     ·intro w'
      go_simp
      with_reducible rfl
     rotate_left
     ·simp only [Act.put, List.setIfInBounds_toArray, List.set_cons_zero, List.set_cons_succ, i64_w, i32_w]
      rfl
     refine take_ (i := 0) (N := some 16) (v := ?_) (a' := ?_) #[true, true, true, true, true, false, false, false, false, false, false, false] rfl rfl (by kernel_rfl) (fun _ _ _ h => h) (Or.inl ⟨by rfl, ?_⟩) hHeld ?_ ?_
     rotate_left
     ·rintro w' ⟨s0, s1, s2, s3⟩
      apply RowTake.row_take_at (ty := 45) (cs := rC r) (hu := Tryz.underlying45) (hd := rfl); (case ho => rfl); (case hx => rfl); (case hc => exact s0); (case hi => kernel_rfl); (case hr => with_reducible rfl)
     rotate_left
     ·simp only [Act.put, List.setIfInBounds_toArray, List.set_cons_zero, List.set_cons_succ, i64_w, i32_w]
      rfl
     refine take_ (i := 5) (N := some 21) (v := ?_) (a' := ?_) #[true, true, true, true, true, true, false, false, false, false, false, false] rfl rfl (by kernel_rfl) (fun _ _ _ h => h) (Or.inl ⟨by rfl, ?_⟩) hHeld ?_ ?_
     rotate_left
     ·rintro w' ⟨s0, s1, s2, s3⟩
      go_simp
      with_reducible rfl
     rotate_left
     ·simp only [Act.put, List.setIfInBounds_toArray, List.set_cons_zero, List.set_cons_succ, i64_w, i32_w]
      rfl
     refine one_ (i := 6) (N := some 22) #[true, true, true, true, true, true, true, false, false, false, false, false] rfl rfl (by kernel_rfl) (by decide) (fun K hK => ?_)
     refine goes_ Tryz.func31 (by kernel_rfl) rfl #[rV r, .string y.f0] (by rfl) rfl rfl (by simp only [List.map_toArray, List.map_cons, List.map_nil]; rfl) ?_
     with_reducible refine (HT.out wd).mono ?_
     rintro e w4 ⟨rfl, hb4⟩
     refine ⟨_, rfl, ?_⟩
     have HB4 := Lib.hid (s_trans HBd.out hb4)
     have hz := HC.out _ HB4.out
     clear hb4
     refine hK.out _ _ ⟨hz.1, hz.2.1, hz.2.2.1, hz.2.2.2⟩ (fun hHeld => ?_)
     clear hK K
     refine norm_ (a' := ?_) ?_ ?_
     rotate_left
     ·show Act.put _ (some 22) _ = _
      simp only [Act.put, List.setIfInBounds_toArray, List.set_cons_zero, List.set_cons_succ, i64_w, i32_w]
      rfl
     refine pure_ (i := 7) (N := some 15) (v := ?_) (a' := ?_) #[true, true, true, true, true, true, true, true, false, false, false, false] rfl rfl (by kernel_rfl) (fun _ _ _ h => h) (Or.inl ⟨by rfl, ?_⟩) ?_ ?_
     rotate_left
     ·intro w'
      go_simp
      with_reducible rfl
     rotate_left
     ·simp only [Act.put, List.setIfInBounds_toArray, List.set_cons_zero, List.set_cons_succ, i64_w, i32_w]
      rfl
     refine pure_ (i := 8) (N := some 23) (v := ?_) (a' := ?_) #[true, true, true, true, true, true, true, true, true, false, false, false] rfl rfl (by kernel_rfl) (fun _ _ _ h => h) (Or.inl ⟨by rfl, ?_⟩) ?_ ?_
     rotate_left
     ·intro w'
      go_simp
      with_reducible rfl
     rotate_left
     ·simp only [Act.put, List.setIfInBounds_toArray, List.set_cons_zero, List.set_cons_succ, i64_w, i32_w]
      rfl
     refine pure_ (i := 9) (N := some 24) (v := ?_) (a' := ?_) #[true, true, true, true, true, true, true, true, true, true, false, false] rfl rfl (by kernel_rfl) (fun _ _ _ h => h) (Or.inl ⟨by rfl, ?_⟩) ?_ ?_
     rotate_left
     ·intro w'
      go_simp
      with_reducible rfl
     rotate_left
     ·simp only [Act.put, List.setIfInBounds_toArray, List.set_cons_zero, List.set_cons_succ, i64_w, i32_w]
      rfl
     refine pure_ (i := 10) (N := some 6) (v := ?_) (a' := ?_) #[true, true, true, true, true, true, true, true, true, true, true, false] rfl rfl (by kernel_rfl) (fun _ _ _ h => h) (Or.inl ⟨by rfl, ?_⟩) ?_ ?_
     rotate_left
     ·intro w'
      go_simp
      with_reducible rfl
     rotate_left
     ·simp only [Act.put, List.setIfInBounds_toArray, List.set_cons_zero, List.set_cons_succ, i64_w, i32_w]
      rfl
     refine pure_ (i := 11) (N := some 7) (v := ?_) (a' := ?_) #[true, true, true, true, true, true, true, true, true, true, true, true] rfl rfl (by kernel_rfl) (fun _ _ _ h => h) (Or.inl ⟨by rfl, ?_⟩) ?_ ?_
     rotate_left
     ·intro w'
      go_simp
      with_reducible rfl
     rotate_left
     ·simp only [Act.put, List.setIfInBounds_toArray, List.set_cons_zero, List.set_cons_succ, i64_w, i32_w]
      rfl
     refine done_ (by kernel_rfl) ?_
     clear hz
     obtain ⟨z0, z1, z2, z3⟩ := HC.out _ HB4.out
     clear z0
     go_wp2
     first
      | (go_ret; exact ⟨by rw [HNO.out HPF.out]; rfl, s_trans HB.out HB4.out⟩)
      | (go_roundw
         case rel => exact ⟨k + 1, by omega, by go_num, Lib.hid (HTK.out.trans HPF.out), Lib.hid (block_on HB4.out HXK.out), Lib.hid (s_trans HB.out HB4.out)⟩
         case measure => simp [intOf]; omega)
  ·obtain rfl : k = l.length := by omega
   go_wp2
   go_ret
   refine ⟨?_, HB.out⟩
   have := HA.out
   rw [List.take_length] at this
   rw [this]; rfl
end Go.Proofs.YtnaglnifpejpjaaGreatDoor.Ch
