/-
  checker.Names.
-/
import Derived.Test.YtmkalnljclhigaaGreatQCh7
namespace Go.Proofs.YtmkalnljclhigaaGreat.Ch
set_option linter.unusedVariables false
set_option linter.unusedSimpArgs false
set_option linter.unnecessarySimpa false
open Go.RowKit Go.Proofs.YtmkalnljclhigaaGreatK Go.Proofs.YtmkalnljclhigaaGreat.XCheckerChecks Go.Proofs.YtmkalnljclhigaaGreatW.PrintWords Go.Proofs.YtmkalnljclhigaaGreatW.PrintLast

mutual
def namesB : S33 → Bool
  | ⟨k, _, f, fs, ks⟩ => if k = 3 then isField f && !fs.any (fun f => !isTag f.f0) else namesL ks
def namesL : List S33 → Bool
  | [] => true
  | x :: xs => namesB x && namesL xs
end

set_option maxRecDepth 100000 in
set_option maxHeartbeats 2000000 in
theorem strangeF_idx (w : World) (A : Option Addr) (c : Nat) (l : List S62) (p : S62 → Bool) (hr : Kd.C k62 w A l.length l) (hc : l.length ≤ c) (hl : l.length < 1000000000000) (hp : ∀ x ∈ l, ∀ (W : World), Below w.heap.size w W → Calls Tryz.prog 34 #[fV x] W fun e w' => e = .returned (.bool (p x)) ∧ Below W.heap.size W w') :
    Calls Tryz.prog 61 #[.slice A l.length c, .func (.func 34) #[] #[]] w fun e w' => ∃ i : Int, e = .returned (.int .i64 i) ∧ (i < 0 ↔ l.any p = false) ∧ -1 ≤ i ∧ i < l.length ∧ Below w.heap.size w w' := by
  have HR := Lib.hid hr
  have HP := Lib.hid hp
  clear hr hp
  go_enter Tryz.func61, Tryz.ntmps61
  go_wp2
  go_loopw [8] (fun i wr => ∃ k : Nat, k ≤ l.length ∧ i = .int .i64 k ∧ Hid ((l.take k).any p = false) ∧ Hid (Below w.heap.size w wr)) (fun i _ => l.length - (intOf i).toNat)
  case atStart => exact ⟨0, Nat.zero_le _, rfl, by rw [List.take_zero]; rfl, Below.refl _ _⟩
  case round =>
    obtain ⟨k, hk, rfl, HA, HB⟩ := hrel
    by_cases hlt : k < l.length
    · obtain ⟨ad0, e0, q0, q1, q2⟩ := at_T62 (Kd.C_below HR.out HB.out) (k : Int) (by omega) (by omega)
      have hy : rd_T62 l (k : Int) = l[k] := by unfold rd_T62; rw [Int.toNat_natCast, List.getD_eq_getElem?_getD, List.getElem?_eq_getElem hlt]; rfl
      have htk : (l.take (k + 1)).any p = p l[k] := by
        rw [List.take_succ_eq_append_getElem hlt, List.any_append, HA.out, Bool.false_or, List.any_cons, List.any_nil, Bool.or_false]
      have hmem := List.getElem_mem hlt
      have hyes : p l[k] = true → l.any p = true := fun e => List.any_eq_true.2 ⟨_, hmem, e⟩
      rw [hy] at q0 q1 q2
      rw [Int.toNat_natCast] at q0 q1 q2
      cases e0
      generalize l[k] = y at *
      clear hy
      have HTK := Lib.hid htk
      have HYES := Lib.hid hyes
      clear htk hyes
      skip
      cases hpy : p y with
      | true =>
        have hp1 := fun W hb => HP.out y hmem W hb
        rw [hpy] at hp1
        have HP1 := Lib.hid hp1
        have HPY := Lib.hid hpy
        clear hp1 hpy
        go_wp2_with (go_at_call 34; refine (HP1.out _ HB.out).mono ?_; rintro e w2 ⟨rfl, hb⟩; have HB2 := Lib.hid (s_trans HB.out hb); clear hb)
        go_ret
        refine ⟨k, rfl, ⟨fun h => by omega, fun h => ?_⟩, by omega, by omega, HB2.out⟩
        rw [HYES.out HPY.out] at h; cases h
      | false =>
        have hp1 := fun W hb => HP.out y hmem W hb
        rw [hpy] at hp1
        have HP1 := Lib.hid hp1
        have HPY := Lib.hid hpy
        clear hp1 hpy
        go_wp2_with (go_at_call 34; refine (HP1.out _ HB.out).mono ?_; rintro e w2 ⟨rfl, hb⟩; have HB2 := Lib.hid (s_trans HB.out hb); clear hb)
        go_roundw
        case rel => exact ⟨k + 1, by omega, by go_num, Lib.hid (HTK.out.trans HPY.out), HB2⟩
        case measure => simp [intOf]; omega
    · obtain rfl : k = l.length := by omega
      go_wp2
      go_ret
      refine ⟨-1, rfl, ⟨fun _ => ?_, fun _ => by omega⟩, by omega, by omega, HB.out⟩
      have := HA.out
      rwa [List.take_length] at this
set_option maxRecDepth 100000 in
theorem strangeF_any (w : World) (A : Option Addr) (c : Nat) (l : List S62) (p : S62 → Bool) (hr : Kd.C k62 w A l.length l) (hc : l.length ≤ c) (hl : l.length < 1000000000000) (hp : ∀ x ∈ l, ∀ (W : World), Below w.heap.size w W → Calls Tryz.prog 34 #[fV x] W fun e w' => e = .returned (.bool (p x)) ∧ Below W.heap.size W w') :
    Calls Tryz.prog 38 #[.slice A l.length c, .func (.func 34) #[] #[]] w fun e w' => e = .returned (.bool (l.any p)) ∧ Below w.heap.size w w' := by
  have hi := strangeF_idx w A c l p hr hc hl hp
  have HI := Lib.hid hi
  clear hi hr hp
  cases ha : l.any p with
  | true =>
    have HA := Lib.hid ha
    clear ha
    go_enter Tryz.func38, Tryz.ntmps38
    go_wp2_with (go_at_call 61; refine HI.out.mono ?_; rintro e w2 ⟨i, rfl, h1, h2, h3, hb⟩; have hge : (0 : Int) ≤ i := (by have := HA.out; rw [this] at h1; simp at h1; exact h1); have hd : decide ((0 : Int) ≤ i) = true := decide_eq_true hge; have HB2 := Lib.hid hb; clear hb h1)
    go_ret
    exact ⟨rfl, HB2.out⟩
  | false =>
    have HA := Lib.hid ha
    clear ha
    go_enter Tryz.func38, Tryz.ntmps38
    go_wp2_with (go_at_call 61; refine HI.out.mono ?_; rintro e w2 ⟨i, rfl, h1, h2, h3, hb⟩; have hge : ¬ (0 : Int) ≤ i := (by have := HA.out; rw [this] at h1; simp at h1; omega); have hd : decide ((0 : Int) ≤ i) = false := decide_eq_false hge; have HB2 := Lib.hid hb; clear hb h1)
    go_ret
    exact ⟨rfl, HB2.out⟩

def NamesAt (x : S33) : Prop := ∀ (A4 : Option Addr) (c4 : Nat) (A5 : Option Addr) (c5 : Nat) (w : World), EIn w x A4 c4 A5 c5 → Calls Tryz.prog 9 #[eV x A4 c4 A5 c5] w fun e w' => e = .returned (.bool (namesB x)) ∧ Below w.heap.size w w'
set_option maxRecDepth 100000 in
set_option maxHeartbeats 4000000 in
theorem names_step (x : S33) (hs : Small x) (ih : ∀ y ∈ x.f4, NamesAt y) : NamesAt x := by
  intro A4 c4 A5 c5 w hin
  obtain ⟨k, n, f, fs, ks⟩ := x
  obtain ⟨l3, g3, l4, g4⟩ := hin
  rw [Small] at hs
  dsimp only at *
  rw [namesB]
  have hb0 : Below w.heap.size w (w.alloc (.cells #[.int .i64 k, .int .i64 n, .string f, .slice A4 fs.length c4, .slice A5 ks.length c5] 33)) := s_alloc (Below.refl _ _) _
  have hx0 : (w.alloc (.cells #[.int .i64 k, .int .i64 n, .string f, .slice A4 fs.length c4, .slice A5 ks.length c5] 33)).heap[w.heap.size]? = some (.cells #[.int .i64 k, .int .i64 n, .string f, .slice A4 fs.length c4, .slice A5 ks.length c5] 33 (0, 0)) := Array.getElem?_push_size
  have HB0 := Lib.hid hb0
  have HX0 := Lib.hid hx0
  have HG4 := Lib.hid g4
  by_cases h3 : k = 3
  · rw [if_pos h3]
    have b3 : (k == 3) = true := by rw [h3]; rfl
    subst h3
    have hst := fun W (hb : Below w.heap.size w W) => strangeF_any W A4 c4 fs (fun f => !isTag f.f0) (Kd.C_below g3 hb) l3 hs.1 (fun y _ W' _ => strange_any y W')
    have hf := fun W g h => has_field W g h f
    generalize fs.any (fun f => !isTag f.f0) = SB at *
    obtain ⟨x0, x1, x2, x3, x4⟩ := cells5 hx0
    have HST := Lib.hid hst
    clear hst hs g3 g4 ih hb0 hx0 b3
    cases hfb : isField f
    · rw [hfb] at hf
      have HF := Lib.hid hf
      clear hf hfb
      go_enter Tryz.func9, Tryz.ntmps9
      go_upto_region 3 with fail
      obtain ⟨w0, hw0⟩ : ∃ W : World, W = w.alloc (.cells #[.int .i64 3, .int .i64 n, .string f, .slice A4 fs.length c4, .slice A5 ks.length c5] 33) := ⟨_, rfl⟩
      rw [← hw0] at HB0 HX0 x2 x3
      rw [← hw0]
      clear hw0 x0 x1 x4
      refine start_ (n := 12) (S := fun w' => w'.cell? ⟨w.heap.size, 2, none⟩ = some (.string f) ∧ w'.cell? ⟨w.heap.size, 3, none⟩ = some (.slice A4 fs.length c4)) (ds := []) #[false, false, false, false, false, false, false, false, false, false, false, false] (by kernel_rfl) rfl rfl ⟨x2, x3⟩ (fun hHeld => ?_)
      obtain ⟨wd, hwd⟩ : ∃ W, W = w0.drew := ⟨_, rfl⟩
      rw [← hwd] at hHeld
      rw [← hwd]
      have hdr : Below w0.heap.size w0 wd := by rw [hwd]; exact s_drew (Below.refl _ _)
      have HBd := Lib.hid (s_trans HB0.out hdr)
      have HXd := Lib.hid (block_on hdr HX0.out)
      clear hwd hdr
      refine pure_ (i := 1) (N := some 10) (v := ?_) (a' := ?_) #[false, true, false, false, false, false, false, false, false, false, false, false] rfl rfl (by kernel_rfl) (fun _ _ _ h => h) (Or.inl ⟨by rfl, ?_⟩) ?_ ?_
      rotate_left
      · intro w'
        go_simp
        with_reducible rfl
      rotate_left
      · simp only [Act.put, List.setIfInBounds_toArray, List.set_cons_zero, List.set_cons_succ, i64_w, i32_w]
        rfl
      refine take_ (i := 2) (N := some 11) (v := ?_) (a' := ?_) #[false, true, true, false, false, false, false, false, false, false, false, false] rfl rfl (by kernel_rfl) (fun _ _ _ h => h) (Or.inl ⟨by rfl, ?_⟩) hHeld ?_ ?_
      rotate_left
      · rintro w' ⟨s0, s1⟩
        go_simp
        with_reducible rfl
      rotate_left
      · simp only [Act.put, List.setIfInBounds_toArray, List.set_cons_zero, List.set_cons_succ, i64_w, i32_w]
        rfl
      refine one_ (i := 0) (N := some 9) #[true, true, true, false, false, false, false, false, false, false, false, false] rfl rfl (by kernel_rfl) (by decide) (fun K hK => ?_)
      refine goes_ Tryz.func37 (by kernel_rfl) rfl #[] (by rfl) rfl rfl (by simp only [List.map_toArray, List.map_cons, List.map_nil]) ?_
      with_reducible refine (fields_any _).mono ?_
      rintro e w1 ⟨g, rfl, hst, hb⟩
      refine ⟨_, rfl, ?_⟩
      have HSA := Lib.hid hst
      have HX1 := Lib.hid (block_on hb HXd.out)
      have HB1 := Lib.hid (s_trans HBd.out hb)
      have hz := cells5 HX1.out
      clear hb hst
      refine hK.out _ _ ⟨hz.2.2.1, hz.2.2.2.1⟩ (fun hHeld => ?_)
      clear hK K
      refine norm_ (a' := ?_) ?_ ?_
      rotate_left
      · show Act.put _ (some 9) _ = _
        simp only [Act.put, List.setIfInBounds_toArray, List.set_cons_zero, List.set_cons_succ, i64_w, i32_w]
        rfl
      refine one_ (i := 3) (N := some 12) #[true, true, true, true, false, false, false, false, false, false, false, false] rfl rfl (by kernel_rfl) (by decide) (fun K hK => ?_)
      refine goes_ Tryz.func35 (by kernel_rfl) rfl #[.slice (some ⟨g, 0, none⟩) 4 4, .string f] (by rfl) rfl rfl (by simp only [List.map_toArray, List.map_cons, List.map_nil]; rfl) ?_
      with_reducible refine (HF.out _ g HSA.out).mono ?_
      rintro e w2 ⟨rfl, rfl⟩
      refine ⟨_, rfl, ?_⟩
      refine hK.out _ _ ⟨hz.2.2.1, hz.2.2.2.1⟩ (fun hHeld => ?_)
      clear hK K
      refine norm_ (a' := ?_) ?_ ?_
      rotate_left
      · show Act.put _ (some 12) _ = _
        simp only [Act.put, List.setIfInBounds_toArray, List.set_cons_zero, List.set_cons_succ, i64_w, i32_w]
        rfl
      refine pure_ (i := 4) (N := some 13) (v := ?_) (a' := ?_) #[true, true, true, true, true, false, false, false, false, false, false, false] rfl rfl (by kernel_rfl) (fun _ _ _ h => h) (Or.inl ⟨by rfl, ?_⟩) ?_ ?_
      rotate_left
      · intro w'
        go_simp
        with_reducible rfl
      rotate_left
      · simp only [Act.put, List.setIfInBounds_toArray, List.set_cons_zero, List.set_cons_succ, i64_w, i32_w]
        rfl
      refine pure_ (i := 5) (N := some 14) (v := undef) (a' := ?_) #[true, true, true, true, true, true, false, false, false, false, false, false] rfl rfl (by kernel_rfl) (fun _ _ _ h => h) (Or.inr ⟨by rfl, rfl⟩) ?_ ?_
      rotate_left
      · simp only [Act.put, List.setIfInBounds_toArray, List.set_cons_zero, List.set_cons_succ, i64_w, i32_w]
        rfl
      refine pure_ (i := 6) (N := some 15) (v := undef) (a' := ?_) #[true, true, true, true, true, true, true, false, false, false, false, false] rfl rfl (by kernel_rfl) (fun _ _ _ h => h) (Or.inr ⟨by rfl, rfl⟩) ?_ ?_
      rotate_left
      · simp only [Act.put, List.setIfInBounds_toArray, List.set_cons_zero, List.set_cons_succ, i64_w, i32_w]
        rfl
      refine pure_ (i := 7) (N := some 16) (v := undef) (a' := ?_) #[true, true, true, true, true, true, true, true, false, false, false, false] rfl rfl (by kernel_rfl) (fun _ _ _ h => h) (Or.inr ⟨by rfl, rfl⟩) ?_ ?_
      rotate_left
      · simp only [Act.put, List.setIfInBounds_toArray, List.set_cons_zero, List.set_cons_succ, i64_w, i32_w]
        rfl
      refine pure_ (i := 8) (N := some 17) (v := undef) (a' := ?_) #[true, true, true, true, true, true, true, true, true, false, false, false] rfl rfl (by kernel_rfl) (fun _ _ _ h => h) (Or.inr ⟨by rfl, rfl⟩) ?_ ?_
      rotate_left
      · simp only [Act.put, List.setIfInBounds_toArray, List.set_cons_zero, List.set_cons_succ, i64_w, i32_w]
        rfl
      refine pure_ (i := 9) (N := some 18) (v := undef) (a' := ?_) #[true, true, true, true, true, true, true, true, true, true, false, false] rfl rfl (by kernel_rfl) (fun _ _ _ h => h) (Or.inr ⟨by rfl, rfl⟩) ?_ ?_
      rotate_left
      · simp only [Act.put, List.setIfInBounds_toArray, List.set_cons_zero, List.set_cons_succ, i64_w, i32_w]
        rfl
      refine pure_ (i := 10) (N := some 19) (v := ?_) (a' := ?_) #[true, true, true, true, true, true, true, true, true, true, true, false] rfl rfl (by kernel_rfl) (fun _ _ _ h => h) (Or.inl ⟨by rfl, ?_⟩) ?_ ?_
      rotate_left
      · intro w'
        go_simp
        with_reducible rfl
      rotate_left
      · simp only [Act.put, List.setIfInBounds_toArray, List.set_cons_zero, List.set_cons_succ, i64_w, i32_w]
        rfl
      refine pure_ (i := 11) (N := some 2) (v := ?_) (a' := ?_) #[true, true, true, true, true, true, true, true, true, true, true, true] rfl rfl (by kernel_rfl) (fun _ _ _ h => h) (Or.inl ⟨by rfl, ?_⟩) ?_ ?_
      rotate_left
      · intro w'
        go_simp
        with_reducible rfl
      rotate_left
      · simp only [Act.put, List.setIfInBounds_toArray, List.set_cons_zero, List.set_cons_succ, i64_w, i32_w]
        rfl
      refine done_ (by kernel_rfl) ?_
      go_wp2
      go_ret
      exact ⟨rfl, HB1.out⟩
    · rw [hfb] at hf
      have HF := Lib.hid hf
      clear hf hfb
      go_enter Tryz.func9, Tryz.ntmps9
      go_upto_region 3 with fail
      obtain ⟨w0, hw0⟩ : ∃ W : World, W = w.alloc (.cells #[.int .i64 3, .int .i64 n, .string f, .slice A4 fs.length c4, .slice A5 ks.length c5] 33) := ⟨_, rfl⟩
      rw [← hw0] at HB0 HX0 x2 x3
      rw [← hw0]
      clear hw0 x0 x1 x4
      refine start_ (n := 12) (S := fun w' => w'.cell? ⟨w.heap.size, 2, none⟩ = some (.string f) ∧ w'.cell? ⟨w.heap.size, 3, none⟩ = some (.slice A4 fs.length c4)) (ds := []) #[false, false, false, false, false, false, false, false, false, false, false, false] (by kernel_rfl) rfl rfl ⟨x2, x3⟩ (fun hHeld => ?_)
      obtain ⟨wd, hwd⟩ : ∃ W, W = w0.drew := ⟨_, rfl⟩
      rw [← hwd] at hHeld
      rw [← hwd]
      have hdr : Below w0.heap.size w0 wd := by rw [hwd]; exact s_drew (Below.refl _ _)
      have HBd := Lib.hid (s_trans HB0.out hdr)
      have HXd := Lib.hid (block_on hdr HX0.out)
      clear hwd hdr
      refine pure_ (i := 1) (N := some 10) (v := ?_) (a' := ?_) #[false, true, false, false, false, false, false, false, false, false, false, false] rfl rfl (by kernel_rfl) (fun _ _ _ h => h) (Or.inl ⟨by rfl, ?_⟩) ?_ ?_
      rotate_left
      · intro w'
        go_simp
        with_reducible rfl
      rotate_left
      · simp only [Act.put, List.setIfInBounds_toArray, List.set_cons_zero, List.set_cons_succ, i64_w, i32_w]
        rfl
      refine take_ (i := 2) (N := some 11) (v := ?_) (a' := ?_) #[false, true, true, false, false, false, false, false, false, false, false, false] rfl rfl (by kernel_rfl) (fun _ _ _ h => h) (Or.inl ⟨by rfl, ?_⟩) hHeld ?_ ?_
      rotate_left
      · rintro w' ⟨s0, s1⟩
        go_simp
        with_reducible rfl
      rotate_left
      · simp only [Act.put, List.setIfInBounds_toArray, List.set_cons_zero, List.set_cons_succ, i64_w, i32_w]
        rfl
      refine one_ (i := 0) (N := some 9) #[true, true, true, false, false, false, false, false, false, false, false, false] rfl rfl (by kernel_rfl) (by decide) (fun K hK => ?_)
      refine goes_ Tryz.func37 (by kernel_rfl) rfl #[] (by rfl) rfl rfl (by simp only [List.map_toArray, List.map_cons, List.map_nil]) ?_
      with_reducible refine (fields_any _).mono ?_
      rintro e w1 ⟨g, rfl, hst, hb⟩
      refine ⟨_, rfl, ?_⟩
      have HSA := Lib.hid hst
      have HX1 := Lib.hid (block_on hb HXd.out)
      have HB1 := Lib.hid (s_trans HBd.out hb)
      have hz := cells5 HX1.out
      clear hb hst
      refine hK.out _ _ ⟨hz.2.2.1, hz.2.2.2.1⟩ (fun hHeld => ?_)
      clear hK K
      refine norm_ (a' := ?_) ?_ ?_
      rotate_left
      · show Act.put _ (some 9) _ = _
        simp only [Act.put, List.setIfInBounds_toArray, List.set_cons_zero, List.set_cons_succ, i64_w, i32_w]
        rfl
      refine one_ (i := 3) (N := some 12) #[true, true, true, true, false, false, false, false, false, false, false, false] rfl rfl (by kernel_rfl) (by decide) (fun K hK => ?_)
      refine goes_ Tryz.func35 (by kernel_rfl) rfl #[.slice (some ⟨g, 0, none⟩) 4 4, .string f] (by rfl) rfl rfl (by simp only [List.map_toArray, List.map_cons, List.map_nil]; rfl) ?_
      with_reducible refine (HF.out _ g HSA.out).mono ?_
      rintro e w2 ⟨rfl, rfl⟩
      refine ⟨_, rfl, ?_⟩
      refine hK.out _ _ ⟨hz.2.2.1, hz.2.2.2.1⟩ (fun hHeld => ?_)
      clear hK K
      refine norm_ (a' := ?_) ?_ ?_
      rotate_left
      · show Act.put _ (some 12) _ = _
        simp only [Act.put, List.setIfInBounds_toArray, List.set_cons_zero, List.set_cons_succ, i64_w, i32_w]
        rfl
      refine pure_ (i := 4) (N := some 13) (v := ?_) (a' := ?_) #[true, true, true, true, true, false, false, false, false, false, false, false] rfl rfl (by kernel_rfl) (fun _ _ _ h => h) (Or.inl ⟨by rfl, ?_⟩) ?_ ?_
      rotate_left
      · intro w'
        go_simp
        with_reducible rfl
      rotate_left
      · simp only [Act.put, List.setIfInBounds_toArray, List.set_cons_zero, List.set_cons_succ, i64_w, i32_w]
        rfl
      refine pure_ (i := 5) (N := some 14) (v := ?_) (a' := ?_) #[true, true, true, true, true, true, false, false, false, false, false, false] rfl rfl (by kernel_rfl) (fun _ _ _ h => h) (Or.inl ⟨by rfl, ?_⟩) ?_ ?_
      rotate_left
      · intro w'
        go_simp
        with_reducible rfl
      rotate_left
      · simp only [Act.put, List.setIfInBounds_toArray, List.set_cons_zero, List.set_cons_succ, i64_w, i32_w]
        rfl
      refine pure_ (i := 7) (N := some 16) (v := ?_) (a' := ?_) #[true, true, true, true, true, true, false, true, false, false, false, false] rfl rfl (by kernel_rfl) (fun _ _ _ h => h) (Or.inl ⟨by rfl, ?_⟩) ?_ ?_
      rotate_left
      · intro w'
        go_simp
        with_reducible rfl
      rotate_left
      · simp only [Act.put, List.setIfInBounds_toArray, List.set_cons_zero, List.set_cons_succ, i64_w, i32_w]
        rfl
      refine take_ (i := 6) (N := some 15) (v := ?_) (a' := ?_) #[true, true, true, true, true, true, true, true, false, false, false, false] rfl rfl (by kernel_rfl) (fun _ _ _ h => h) (Or.inl ⟨by rfl, ?_⟩) hHeld ?_ ?_
      rotate_left
      · rintro w' ⟨s0, s1⟩
        go_simp
        with_reducible rfl
      rotate_left
      · simp only [Act.put, List.setIfInBounds_toArray, List.set_cons_zero, List.set_cons_succ, i64_w, i32_w]
        rfl
      refine one_ (i := 8) (N := some 17) #[true, true, true, true, true, true, true, true, true, false, false, false] rfl rfl (by kernel_rfl) (by decide) (fun K hK => ?_)
      refine goes_ Tryz.func38 (by kernel_rfl) rfl #[.slice A4 fs.length c4, .func (.func 34) #[] #[]] (by rfl) rfl rfl (by simp only [List.map_toArray, List.map_cons, List.map_nil]; rfl) ?_
      with_reducible refine (HST.out _ HB1.out).mono ?_
      rintro e w3 ⟨rfl, hb⟩
      refine ⟨_, rfl, ?_⟩
      have HB3 := Lib.hid (s_trans HB1.out hb)
      have hz := cells5 (block_on hb HX1.out)
      clear hb
      refine hK.out _ _ ⟨hz.2.2.1, hz.2.2.2.1⟩ (fun hHeld => ?_)
      clear hK K
      refine norm_ (a' := ?_) ?_ ?_
      rotate_left
      · show Act.put _ (some 17) _ = _
        simp only [Act.put, List.setIfInBounds_toArray, List.set_cons_zero, List.set_cons_succ, i64_w, i32_w]
        rfl
      refine pure_ (i := 9) (N := some 18) (v := ?_) (a' := ?_) #[true, true, true, true, true, true, true, true, true, true, false, false] rfl rfl (by kernel_rfl) (fun _ _ _ h => h) (Or.inl ⟨by rfl, ?_⟩) ?_ ?_
      rotate_left
      · intro w'
        go_simp
        with_reducible rfl
      rotate_left
      · simp only [Act.put, List.setIfInBounds_toArray, List.set_cons_zero, List.set_cons_succ, i64_w, i32_w]
        rfl
      refine pure_ (i := 10) (N := some 19) (v := ?_) (a' := ?_) #[true, true, true, true, true, true, true, true, true, true, true, false] rfl rfl (by kernel_rfl) (fun _ _ _ h => h) (Or.inl ⟨by rfl, ?_⟩) ?_ ?_
      rotate_left
      · intro w'
        go_simp
        with_reducible rfl
      rotate_left
      · simp only [Act.put, List.setIfInBounds_toArray, List.set_cons_zero, List.set_cons_succ, i64_w, i32_w]
        rfl
      refine pure_ (i := 11) (N := some 2) (v := ?_) (a' := ?_) #[true, true, true, true, true, true, true, true, true, true, true, true] rfl rfl (by kernel_rfl) (fun _ _ _ h => h) (Or.inl ⟨by rfl, ?_⟩) ?_ ?_
      rotate_left
      · intro w'
        go_simp
        with_reducible rfl
      rotate_left
      · simp only [Act.put, List.setIfInBounds_toArray, List.set_cons_zero, List.set_cons_succ, i64_w, i32_w]
        rfl
      refine done_ (by kernel_rfl) ?_
      go_wp2
      go_ret
      exact ⟨rfl, HB3.out⟩
  · rw [if_neg h3]
    have b3 : (k == 3) = false := beq_eq_false_iff_ne.2 h3
    have hkl := hs.2.1
    have HIH := Lib.hid ih
    clear h3 hs ih g3 g4 hb0 hx0
    go_enter Tryz.func9, Tryz.ntmps9
    go_wp2
    go_loopw [23] (fun i wr => ∃ q : Nat, q ≤ ks.length ∧ i = .int .i64 q ∧ Hid (namesL (ks.drop q) = namesL ks) ∧ Hid (Below w.heap.size w wr)) (fun i _ => ks.length - (intOf i).toNat)
    case atStart => exact ⟨0, Nat.zero_le _, rfl, by rw [List.drop_zero]; rfl, HB0⟩
    case round =>
      obtain ⟨q, hq, rfl, HA, HB⟩ := hrel
      by_cases hlt : q < ks.length
      · obtain ⟨ad0, A6, c6, A7, c7, e0, q0, q1, q2, q3, q4, g5, g6, g7, g8⟩ := at_T33 (Kd.C_below HG4.out HB.out) (q : Int) (by omega) (by omega)
        have hy : rd_T33 ks (q : Int) = ks[q] := by unfold rd_T33; rw [Int.toNat_natCast, List.getD_eq_getElem?_getD, List.getElem?_eq_getElem hlt]; rfl
        have hdr : namesL (ks.drop q) = (namesB ks[q] && namesL (ks.drop (q + 1))) := by rw [List.drop_eq_getElem_cons hlt, namesL]
        rw [HA.out] at hdr
        have hmem := List.getElem_mem hlt
        rw [hy] at q0 q1 q2 q3 q4 g5 g6 g7 g8
        rw [Int.toNat_natCast] at q0 q1 q2 q3 q4
        cases e0
        generalize ks[q] = y at *
        clear hy
        have hiy := fun W (hb : Below wr.heap.size wr W) => HIH.out y hmem A6 c6 A7 c7 W (EIn.below ⟨g5, g6, g7, g8⟩ hb)
        clear g5 g6 g7 g8
        generalize hR : namesL (ks.drop (q + 1)) = REST at *
        have HRE := Lib.hid hR
        clear hR
        cases hny : namesB y
        all_goals
          rw [hny] at hiy hdr
          have HIY := Lib.hid hiy
          have HDR := Lib.hid hdr
          clear hiy hdr hny
          go_wp2_with (go_at_call 9; refine (HIY.out _ (s_alloc (Below.refl _ _) _)).mono ?_; rintro e w2 ⟨rfl, hb⟩; have HB2 := Lib.hid (s_trans (s_alloc HB.out _) hb); clear hb)
          first
            | (go_ret; exact ⟨by rw [HDR.out]; rfl, HB2.out⟩)
            | (go_roundw
               case rel => exact ⟨q + 1, by omega, by go_num, Lib.hid (HRE.out.trans (by have hz := HDR.out; rw [Bool.true_and] at hz; exact hz.symm)), HB2⟩
               case measure => simp [intOf]; omega)
      · obtain rfl : q = ks.length := by omega
        have hA := HA.out
        rw [List.drop_length, namesL] at hA
        have HA2 := Lib.hid hA
        clear hA
        go_wp2
        go_ret
        exact ⟨by rw [← HA2.out]; rfl, HB.out⟩
theorem names_n : ∀ (n : Nat) (x : S33), SizeOf.sizeOf x < n → Small x → NamesAt x
  | 0, x, h, _ => by omega
  | n + 1, x, h, hs => names_step x hs (fun y hy => names_n n y (by have := kid_lt hy; omega) (hs.kids.2 y hy))
theorem names_at (x : S33) (hs : Small x) : NamesAt x := names_n (SizeOf.sizeOf x + 1) x (Nat.lt_succ_self _) hs
end Go.Proofs.YtmkalnljclhigaaGreat.Ch
