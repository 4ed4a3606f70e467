/-
  EvalParts: the law's walk (written by mkevp.py).
-/
import Derived.Test.YtnaglnifpejpjaaGreatDoorREv9
namespace Go.Proofs.YtnaglnifpejpjaaGreatDoor.Ch
set_option linter.unusedVariables false
set_option linter.unusedSimpArgs false
set_option linter.unnecessarySimpa false
open Go.RowKit Go.Proofs.YtnaglnifpejpjaaGreatDoorK Go.Proofs.YtnaglnifpejpjaaGreatDoor.XEvalRuns Go.Proofs.YtnaglnifpejpjaaGreatDoorW.PrintWords Go.Proofs.YtnaglnifpejpjaaGreatDoorW.PrintLast Go.Proofs.YtnaglnifpejpjaaGreatDoor.BX

/-- An append in a region that draws. -/
theorem app_ {P : Program} {ops : Array Oper} {Q : Exit → Act → World → Prop} {oi : Oper} {N : Option Tmp} {a : Act} {w : World} {K : Act → World → Prop} (hw : Region.wanted oi (yielded ops a.tmps) = true) (hN : oi.dst = N) (s x : Operand) (t : TypeId)
 (ho : oi.op = .call { callee := .builtin .append, args := #[s, x], argTypes := #[t, t] }) (v u : Value) (hs : a.eval s = v) (hx : a.eval x = u) (v' : Value) (w' : World) (hr : (Builtin.append_ #[t, t] oi.type #[v, u]).run P w = .ok v' w')
 (h : K (a.put N v') w') : if Region.wanted oi (yielded ops a.tmps) = true then Oper.wp P oi a w K Q else K (a.put N undef) w := by
 rw [if_pos hw]
 subst hN
 unfold Oper.wp execOp
 simp only [ho, resolve, invoke, builtin, Sem.run_bind, Sem.run_pure, Result.andThen_ok, List.map_toArray, List.map_cons, List.map_nil, hs, hx, hr]
 exact h
/-- An operation that yields a value and makes memory, in a region that draws. -/
theorem val_ {P : Program} {ops : Array Oper} {Q : Exit → Act → World → Prop} {oi : Oper} {N : Option Tmp} {a : Act} {w : World} {K : Act → World → Prop} (hw : Region.wanted oi (yielded ops a.tmps) = true) (hN : oi.dst = N) (v' : Value) (w' : World) (hr : (execOp a.eval oi).run P w = .ok (.value v') w')
 (h : K (a.put N v') w') : if Region.wanted oi (yielded ops a.tmps) = true then Oper.wp P oi a w K Q else K (a.put N undef) w := by
 rw [if_pos hw]
 subst hN
 unfold Oper.wp
 rw [hr]
 exact h
theorem rows_len : ∀ l : List S45, (l.flatMap fun r => (rC r).toList).length = l.length * 17
 | [] => rfl
 | r :: l => by
   have ih := rows_len l
   have h17 : (rC r).toList.length = 17 := rfl
   have h1 : (r :: l).length = l.length + 1 := rfl
   rw [List.flatMap_cons, List.length_append, ih, h17, h1]
   omega
theorem infoRow : (Tryz.prog.info? 45).map (fun i => (i.zero, i.size, i.bytes)) = some (some (.agg (rC z45)), 17, 160) := by kernel_rfl
theorem app_none (w : World) (A : Option Addr) (n c c' : Nat) (ty : TypeId) (hn : n ≤ c) : (Builtin.append_ #[26, 26] ty #[.slice A n c, .slice none 0 c']).run Tryz.prog w = .ok (.slice A n c) w := by
 obtain ⟨i0, hi0, hz0, hzs, hzb⟩ := info_parts infoRow
 cases A <;> simp [Builtin.append_, run_underlying Tryz.underlying26, sizeOf, typeInfo, hi0, Builtin.lenOf, hn, run_firstCells_none, storeCells]
theorem rows_flat (w : World) (ad : Addr) (l : List S45) (h : Kd.C k45 w (some ad) l.length l) : ∀ j u, (l.flatMap fun r => (rC r).toList)[j]? = some u → w.cell? (ad.add j) = some u := by
 intro j u hu
 have hj : j < l.length * 17 := by
  have h1 := (List.getElem?_eq_some_iff.1 hu).1
  rw [rows_len] at h1
  exact h1
 have hk : j / 17 < l.length := by omega
 obtain ⟨ad', e, hat⟩ := row_at h (j / 17) hk
 cases e
 have hf := flat_at (fun r : S45 => (rC r).toList) 17 l (fun _ _ => rfl) (j / 17) (j % 17) hk (by omega)
 rw [show j / 17 * 17 + j % 17 = j by omega, hu] at hf
 have := hat (j % 17) u hf.symm
 rw [add_add, show j / 17 * 17 + j % 17 = j by omega] at this
 exact this
theorem app_rows (w : World) (base : Nat) (ty : TypeId) (v : Value) (xs : List S45) (hown : w.ownsRow base 45 17 v xs.length (xs.flatMap fun r => (rC r).toList)) (A : Option Addr) (c : Nat) (l : List S45) (hr : Kd.C k45 w A l.length l) (hx : xs.length ≤ 1000) (hl : l.length ≤ 1000) (hbase : base ≤ w.heap.size) :
 ∃ v' w', (Builtin.append_ #[26, 26] ty #[v, .slice A l.length c]).run Tryz.prog w = .ok v' w' ∧ w'.ownsRow base 45 17 v' (xs ++ l).length ((xs ++ l).flatMap fun r => (rC r).toList) ∧ w.grownBy w' v.ownBlock := by
 obtain ⟨i0, hi0, hz0, hzs, hzb⟩ := info_parts infoRow
 cases A with
 | none =>
   have hl0 : l.length = 0 := by
    rcases Nat.eq_zero_or_pos l.length with h | h
    ·exact h
    ·obtain ⟨_, e, _⟩ := row_at hr 0 h
     cases e
   have : l = [] := List.eq_nil_of_length_eq_zero hl0
   subst this
   obtain ⟨ad, cap, rfl⟩ := own_sliceN hown
   have hle : xs.length ≤ cap := by
    rcases hown.2 with ⟨e, h0⟩ | ⟨g', cap', cur, e, _, _, h1, _⟩
    ·omega
    ·cases e; exact h1
   refine ⟨_, w, app_none w ad xs.length cap c ty hle, by rw [List.append_nil]; exact hown, ⟨rfl, rfl, rfl, Nat.le_refl _, fun _ _ _ => rfl⟩⟩
 | some ad =>
   obtain ⟨v', w', h1, h2, h3, _⟩ := run_append_own_at (P := Tryz.prog) w base 26 ty 45 i0 _ 17 160 Tryz.underlying26 hi0 hz0 hzs hzb rfl (by decide) v xs.length _ hown ad l.length c (l.flatMap fun r => (rC r).toList) (rows_len l) (rows_flat w ad l hr) (fun u hu => by
    obtain ⟨r, _, hr2⟩ := List.mem_flatMap.1 hu
    simp only [List.mem_cons, List.not_mem_nil, or_false] at hr2
    rcases hr2 with rfl | rfl | rfl | rfl | rfl | rfl | rfl | rfl | rfl | rfl | rfl | rfl | rfl | rfl | rfl | rfl | rfl <;> rfl) (by unfold maxLen; omega) (by omega) hbase
   refine ⟨v', w', h1, ?_, h3⟩
   rw [List.length_append, List.flatMap_append]
   exact h2
/-! ### the plain law -/
theorem sumE_zero {l : List Int} (h : sumE l = 0) : l.all mayM = true ∧ mayM (sumL l) = true ∧ sumV l = sumL l := by
 unfold sumE at h
 split at h
 ·rename_i h1
  split at h
  ·rename_i h2
   exact ⟨h1, h2, by unfold sumV; rw [if_pos h1, if_pos h2]⟩
  ·cases h
 ·cases h
theorem amounts_app (a b : List S45) (x : S25) : amounts (a ++ b) x = amounts a x ++ amounts b x := by
 unfold amounts
 rw [List.filter_append, List.map_append]
theorem parts_plain (x : S25) (a b : List S45) (h3 : x.f0 = 3) (va vb : Int) (ha : oneE a K0 x = (va, 0)) (hb : oneE b K0 x = (vb, 0)) : oneE (a ++ b) K0 x = (sumV [va, vb], sumE [va, vb]) := by
 unfold oneE at ha hb ⊢
 by_cases hg : goodB x = true
 ·rw [if_pos hg, evB_eq, if_neg (by omega), if_neg (by omega), if_pos h3] at ha hb ⊢
  unfold totE at ha hb ⊢
  by_cases hn : namesB x = true
  ·rw [if_pos hn] at ha hb ⊢
   have ea := congrArg Prod.snd ha
   have eb := congrArg Prod.snd hb
   have fa := congrArg Prod.fst ha
   have fb := congrArg Prod.fst hb
   dsimp only at ea eb fa fb
   obtain ⟨a1, a2, a3⟩ := sumE_zero ea
   obtain ⟨b1, b2, b3⟩ := sumE_zero eb
   rw [amounts_app]
   have hall : (amounts a x ++ amounts b x).all mayM = true := by rw [List.all_append, a1, b1]; rfl
   have hva : mayM va = true := by rw [← fa, a3]; exact a2
   have hvb : mayM vb = true := by rw [← fb, b3]; exact b2
   have hall2 : [va, vb].all mayM = true := by simp [hva, hvb]
   have hs : sumL (amounts a x ++ amounts b x) = sumL [va, vb] := by
    rw [sumL_append, ← a3, ← b3, fa, fb, sumL_cons, sumL_cons, sumL_nil]
    omega
   unfold sumV sumE
   rw [if_pos hall, if_pos hall, if_pos hall2, if_pos hall2, hs]
  ·rw [if_neg hn] at ha
   cases ha
 ·rw [if_neg hg] at ha
  cases ha
set_option maxRecDepth 100000 in
set_option maxHeartbeats 16000000 in
theorem law2_any (x : S25) (hf : Fit x) (ht : Thin x) (ra rb : List S45) (hal : ra.length ≤ 140737488351232) (hbl : rb.length ≤ 140737488351232) (hat : ∀ r ∈ ra, ThinRow r) (hbt : ∀ r ∈ rb, ThinRow r) (A4 : Option Addr) (c4 : Nat) (A5 : Option Addr) (c5 : Nat) (A : Option Addr) (c : Nat) (A2 : Option Addr) (c2 : Nat) (w : World) (hT : Tab w) (hin : EIn w x A4 c4 A5 c5) (hr : Kd.C k45 w A ra.length ra) (hc : ra.length ≤ c) (hr2 : Kd.C k45 w A2 rb.length rb) (hc2 : rb.length ≤ c2) :
 Calls Tryz.prog 4 #[eV x A4 c4 A5 c5, .slice A ra.length c, .slice A2 rb.length c2] w fun e w' => e = .returned (.bool true) ∧ Below w.heap.size w w' := by
 obtain ⟨fw, hfm, hfc⟩ := few1_any x hf
 have hx0 : (w.alloc (.cells #[.int .i64 x.f0, .int .i64 x.f1, .string x.f2, .slice A4 x.f3.length c4, .slice A5 x.f4.length c5] 25)).heap[w.heap.size]? = some (.cells #[.int .i64 x.f0, .int .i64 x.f1, .string x.f2, .slice A4 x.f3.length c4, .slice A5 x.f4.length c5] 25 (0, 0)) := heap_alloc_last _ _
 have hb0 : Below w.heap.size w (w.alloc (.cells #[.int .i64 x.f0, .int .i64 x.f1, .string x.f2, .slice A4 x.f3.length c4, .slice A5 x.f4.length c5] 25)) := s_alloc (Below.refl _ _) _
 obtain ⟨W1, hW⟩ : ∃ W : World, W = w.alloc (.cells #[.int .i64 x.f0, .int .i64 x.f1, .string x.f2, .slice A4 x.f3.length c4, .slice A5 x.f4.length c5] 25) := ⟨_, rfl⟩
 rw [← hW] at hx0 hb0
 have HX0 := Lib.hid hx0
 have HB0 := Lib.hid hb0
 have HIN := Lib.hid (hin.below hb0)
 have HR := Lib.hid (Kd.C_below hr hb0)
 have HR2 := Lib.hid (Kd.C_below hr2 hb0)
 have HFC := Lib.hid (hfc A4 c4 A5 c5 W1 (hin.below hb0))
 have hla := fun W (hb : Below W1.heap.size W1 W) => light_any A c ra W (Kd.C_below (Kd.C_below hr hb0) hb) hc hal hat
 have hlb := fun W (hb : Below W1.heap.size W1 W) => light_any A2 c2 rb W (Kd.C_below (Kd.C_below hr2 hb0) hb) hc2 hbl hbt
 obtain ⟨la, hla1⟩ : ∃ la, lightL ra = la := ⟨_, rfl⟩
 obtain ⟨lb, hlb1⟩ : ∃ lb, lightL rb = lb := ⟨_, rfl⟩
 rw [hla1] at hla
 rw [hlb1] at hlb
 have HLA := Lib.hid hla
 have HLB := Lib.hid hlb
 obtain ⟨k3, hk3⟩ : ∃ k3 : Bool, (x.f0 != 3) = k3 := ⟨_, rfl⟩
 have hlv := fun W (hb : Below w.heap.size w W) => lives_any W (hT.below hb)
 have HLV := Lib.hid hlv
 obtain ⟨y0, y1, y2, y3, y4⟩ := cells5 hx0
 clear hx0 hb0 hT hin hr hr2 hfc hla hlb hal hbl hat hbt hlv
 by_cases hgo : fw = true ∧ k3 = false ∧ la = true ∧ lb = true
 ·obtain ⟨rfl, rfl, rfl, rfl⟩ := hgo
  have hp := hfm rfl
  have hsm := (small_of x 400 hp (by omega)).1
  have h3 : x.f0 = 3 := by simpa using hk3
  have hla2 : ra.length ≤ 60 := by
   unfold lightL at hla1
   rw [Bool.and_eq_true] at hla1
   exact of_decide_eq_true hla1.2
  have hlb2 : rb.length ≤ 60 := by
   unfold lightL at hlb1
   rw [Bool.and_eq_true] at hlb1
   exact of_decide_eq_true hlb1.2
  obtain ⟨va, fa, hva⟩ : ∃ va fa, oneE ra K0 x = (va, fa) := ⟨_, _, rfl⟩
  obtain ⟨vb, fb, hvb⟩ : ∃ vb fb, oneE rb K0 x = (vb, fb) := ⟨_, _, rfl⟩
  obtain ⟨vz, fz, hvz⟩ : ∃ vz fz, oneE (ra ++ rb) K0 x = (vz, fz) := ⟨_, _, rfl⟩
  have hoa := fun W (hb : Below W1.heap.size W1 W) => one_any x hsm A4 c4 A5 c5 K0 _ A c ra W (HIN.out.below hb) (known0 W) (Kd.C_below HR.out hb) hc (by omega)
  have hob := fun W (hb : Below W1.heap.size W1 W) => one_any x hsm A4 c4 A5 c5 K0 _ A2 c2 rb W (HIN.out.below hb) (known0 W) (Kd.C_below HR2.out hb) hc2 (by omega)
  have hoz := fun W (hb : Below W1.heap.size W1 W) A3 c3 (hk : Kd.C k45 W A3 (ra ++ rb).length (ra ++ rb)) (hc3 : (ra ++ rb).length ≤ c3) => one_any x hsm A4 c4 A5 c5 K0 _ A3 c3 (ra ++ rb) W (HIN.out.below hb) (known0 W) hk hc3 (by rw [List.length_append]; omega)
  rw [hva] at hoa
  rw [hvb] at hob
  rw [hvz] at hoz
  have hpl : fa = 0 → fb = 0 → vz = sumV [va, vb] ∧ fz = sumE [va, vb] := fun e1 e2 => by
   have := parts_plain x ra rb h3 va vb (by rw [hva, e1]) (by rw [hvb, e2])
   rw [hvz] at this
   exact ⟨congrArg Prod.fst this, congrArg Prod.snd this⟩
  have hcc : ∀ W : World, Below W1.heap.size W1 W → W.cell? ⟨w.heap.size, 0, none⟩ = some (.int .i64 x.f0) ∧ W.cell? ⟨w.heap.size, 1, none⟩ = some (.int .i64 x.f1) ∧ W.cell? ⟨w.heap.size, 2, none⟩ = some (.string x.f2) ∧ W.cell? ⟨w.heap.size, 3, none⟩ = some (.slice A4 x.f3.length c4) ∧ W.cell? ⟨w.heap.size, 4, none⟩ = some (.slice A5 x.f4.length c5) := fun W hb => cells5 (block_on hb HX0.out)
  have HOA := Lib.hid hoa
  have HOB := Lib.hid hob
  have HOZ := Lib.hid hoz
  have HPL := Lib.hid hpl
  have HC := Lib.hid hcc
  clear hfm hla1 hlb1 hp hoa hob hoz hpl hcc hva hvb hvz h3
  go_enter Tryz.func4, Tryz.ntmps4
  go_upto_region 1 with fail
  rw [← hW]
  clear hW
  go_upto_region 5 with (first
   | (go_at_call 7; refine HFC.out.mono ?_; rintro e w2 ⟨rfl, hb⟩; have HBn := Lib.hid hb; obtain ⟨x0, x1, x2, x3, x4⟩ := HC.out _ HBn.out; clear hb)
   | (go_at_call 8; first | (refine (HLA.out _ HBn.out).mono ?_; rintro e w3 ⟨rfl, hb⟩; have HLA := Lib.hid True.intro; have HBn := Lib.hid (s_trans HBn.out hb); obtain ⟨x0, x1, x2, x3, x4⟩ := HC.out _ HBn.out; clear hb) | (refine (HLB.out _ HBn.out).mono ?_; rintro e w4 ⟨rfl, hb⟩; have HBn := Lib.hid (s_trans HBn.out hb); obtain ⟨x0, x1, x2, x3, x4⟩ := HC.out _ HBn.out; clear hb))
   | (go_at_call 11; first | (refine (HOA.out _ HBn.out).mono ?_; rintro e w5 ⟨rfl, hb⟩; have HOA := Lib.hid True.intro; have HBn := Lib.hid (s_trans HBn.out hb); obtain ⟨x0, x1, x2, x3, x4⟩ := HC.out _ HBn.out; clear hb) | (refine (HOB.out _ HBn.out).mono ?_; rintro e w6 ⟨rfl, hb⟩; have HBn := Lib.hid (s_trans HBn.out hb); obtain ⟨x0, x1, x2, x3, x4⟩ := HC.out _ HBn.out; clear hb)))
  clear y0 y1 y2 y3 y4 x0 x1 x2 x3 x4
  have hy := HC.out w6 HBn.out
  refine start_ (n := 12) (S := fun w' => w'.cell? ⟨w.heap.size, 0, none⟩ = some (.int .i64 x.f0) ∧ w'.cell? ⟨w.heap.size, 1, none⟩ = some (.int .i64 x.f1) ∧ w'.cell? ⟨w.heap.size, 2, none⟩ = some (.string x.f2) ∧ w'.cell? ⟨w.heap.size, 3, none⟩ = some (.slice A4 x.f3.length c4) ∧ w'.cell? ⟨w.heap.size, 4, none⟩ = some (.slice A5 x.f4.length c5)) (ds := []) #[false, false, false, false, false, false, false, false, false, false, false, false] (by kernel_rfl) rfl rfl ⟨hy.1, hy.2.1, hy.2.2.1, hy.2.2.2.1, hy.2.2.2.2⟩ (fun hHeld => ?_)
  obtain ⟨wd, hwd⟩ : ∃ W, W = w6.drew := ⟨_, rfl⟩
  rw [← hwd] at hHeld
  rw [← hwd]
  have hdr : Below w6.heap.size w6 wd := by rw [hwd]; exact s_drew (Below.refl _ _)
  have HBd := Lib.hid (s_trans HBn.out hdr)
  clear hwd hdr
  refine pure_ (i := 2) (N := some 49) (v := ?_) (a' := ?_) #[false, false, true, false, false, false, false, false, false, false, false, false] rfl rfl (by kernel_rfl) (fun _ _ _ h => h) (Or.inl ⟨by rfl, ?_⟩) ?_ ?_
  rotate_left
  ·intro w'
   go_simp
   with_reducible rfl
  rotate_left
  ·simp only [Act.put, List.setIfInBounds_toArray, List.set_cons_zero, List.set_cons_succ, i64_w, i32_w]
   rfl
  refine pure_ (i := 4) (N := some 51) (v := ?_) (a' := ?_) #[false, false, true, false, true, false, false, false, false, false, false, false] rfl rfl (by kernel_rfl) (fun _ _ _ h => h) (Or.inl ⟨by rfl, ?_⟩) ?_ ?_
  rotate_left
  ·intro w'
   go_simp
   with_reducible rfl
  rotate_left
  ·simp only [Act.put, List.setIfInBounds_toArray, List.set_cons_zero, List.set_cons_succ, i64_w, i32_w]
   rfl
  refine take_ (i := 0) (N := some 47) (v := ?_) (a' := ?_) #[true, false, true, false, true, false, false, false, false, false, false, false] rfl rfl (by kernel_rfl) (fun _ _ _ h => h) (Or.inl ⟨by rfl, ?_⟩) hHeld ?_ ?_
  rotate_left
  ·rintro w' ⟨s0, s1, s2, s3, s4⟩
   go_simp
   with_reducible rfl
  rotate_left
  ·simp only [Act.put, List.setIfInBounds_toArray, List.set_cons_zero, List.set_cons_succ, i64_w, i32_w]
   rfl
  refine one_ (i := 1) (N := some 48) #[true, true, true, false, true, false, false, false, false, false, false, false] rfl rfl (by kernel_rfl) (by decide) (fun K hK => ?_)
  refine val_ (by rfl) rfl (.slice (some ⟨wd.heap.size, 0, none⟩) 0 0) (wd.alloc (.cells #[] 45)) ?_ ?_
  ·go_simp
   try rfl
  have hba : Below wd.heap.size wd (wd.alloc (.cells #[] 45)) := s_alloc (Below.refl _ _) _
  have hoa : (wd.alloc (.cells #[] 45)).ownsRow wd.heap.size 45 17 (.slice (some ⟨wd.heap.size, 0, none⟩) 0 0) ([] : List S45).length (([] : List S45).flatMap fun r => (rC r).toList) := ⟨rfl, .inr ⟨_, 0, #[], rfl, Nat.le_refl _, heap_alloc_last _ _, Nat.le_refl _, by decide, rfl, rfl⟩⟩
  obtain ⟨wa, hwa⟩ : ∃ W : World, W = wd.alloc (.cells #[] 45) := ⟨_, rfl⟩
  rw [← hwa] at hba hoa
  rw [← hwa]
  clear hwa
  have HBa := Lib.hid (s_trans HBd.out hba)
  have HOa := Lib.hid hoa
  have hz := HC.out _ HBa.out
  have HBa2 := Lib.hid hba.size
  have HBa3 := Lib.hid hba
  clear hba hoa
  refine hK.out _ _ ⟨hz.1, hz.2.1, hz.2.2.1, hz.2.2.2.1, hz.2.2.2.2⟩ (fun hHeld => ?_)
  clear hK K
  refine norm_ (a' := ?_) ?_ ?_
  rotate_left
  ·show Act.put _ (some 48) _ = _
   simp only [Act.put, List.setIfInBounds_toArray, List.set_cons_zero, List.set_cons_succ, i64_w, i32_w]
   rfl
  refine one_ (i := 3) (N := some 50) #[true, true, true, true, true, false, false, false, false, false, false, false] rfl rfl (by kernel_rfl) (by decide) (fun K hK => ?_)
  obtain ⟨v1, w1, hr1, ho1, hg1⟩ := app_rows wa wd.heap.size 26 _ [] HOa.out A c ra (Kd.C_below HR.out HBa.out) (by simp) (by omega) HBa2.out
  refine app_ (by rfl) rfl _ _ 26 rfl _ _ rfl rfl v1 w1 hr1 ?_
  have hb1 := low_grow HBa3.out HOa.out hg1
  rw [List.nil_append] at ho1
  have HO1 := Lib.hid ho1
  have HB1d := Lib.hid hb1
  have HB1 := Lib.hid (s_trans HBd.out hb1)
  have hz := HC.out _ HB1.out
  clear hr1 ho1 hg1 hb1
  refine hK.out _ _ ⟨hz.1, hz.2.1, hz.2.2.1, hz.2.2.2.1, hz.2.2.2.2⟩ (fun hHeld => ?_)
  clear hK K
  refine norm_ (a' := ?_) ?_ ?_
  rotate_left
  ·show Act.put _ (some 50) _ = _
   simp only [Act.put, List.setIfInBounds_toArray, List.set_cons_zero, List.set_cons_succ, i64_w, i32_w]
   rfl
  refine one_ (i := 5) (N := some 52) #[true, true, true, true, true, true, false, false, false, false, false, false] rfl rfl (by kernel_rfl) (by decide) (fun K hK => ?_)
  obtain ⟨v2, w7, hr2, ho2, hg2⟩ := app_rows w1 wd.heap.size 26 _ ra HO1.out A2 c2 rb (Kd.C_below HR2.out HB1.out) (by omega) (by omega) HB1d.out.size
  refine app_ (by rfl) rfl _ _ 26 rfl _ _ rfl rfl v2 w7 hr2 ?_
  have hb2 := low_grow HB1d.out HO1.out hg2
  obtain ⟨A3, c3, rfl⟩ := own_sliceN ho2
  have hk3 := own_kdn (d := k45) (fun r : S45 => (rC r).toList) (fun r _ => ⟨k45_mk w7 r, rfl⟩) ho2 (by rw [List.length_append]; omega)
  have HK3 := Lib.hid hk3
  have HB7 := Lib.hid (s_trans HBd.out hb2)
  have hz := HC.out _ HB7.out
  clear hr2 ho2 hg2 hb2 hk3
  refine hK.out _ _ ⟨hz.1, hz.2.1, hz.2.2.1, hz.2.2.2.1, hz.2.2.2.2⟩ (fun hHeld => ?_)
  clear hK K
  refine norm_ (a' := ?_) ?_ ?_
  rotate_left
  ·show Act.put _ (some 52) _ = _
   simp only [Act.put, List.setIfInBounds_toArray, List.set_cons_zero, List.set_cons_succ, i64_w, i32_w]
   rfl
  refine one_ (i := 6) (N := some 53) #[true, true, true, true, true, true, true, false, false, false, false, false] rfl rfl (by kernel_rfl) (by decide) (fun K hK => ?_)
  refine goes_ Tryz.func11 (by kernel_rfl) rfl #[eV x A4 c4 A5 c5, .slice A3 (ra ++ rb).length c3, .func (.func 15) #[] #[]] (by rfl) rfl rfl (by simp only [List.map_toArray, List.map_cons, List.map_nil]; rfl) ?_
  with_reducible refine (HOZ.out w7 HB7.out A3 c3 HK3.out.1 HK3.out.2).mono ?_
  rintro e w8 ⟨rfl, hb8⟩
  refine ⟨_, rfl, ?_⟩
  have HB8 := Lib.hid (s_trans HB7.out hb8)
  have hz := HC.out _ HB8.out
  clear hb8
  refine hK.out _ _ ⟨hz.1, hz.2.1, hz.2.2.1, hz.2.2.2.1, hz.2.2.2.2⟩ (fun hHeld => ?_)
  clear hK K
  refine norm_ (a' := ?_) ?_ ?_
  rotate_left
  ·show Act.put _ (some 53) _ = _
   simp only [Act.put, List.setIfInBounds_toArray, List.set_cons_zero, List.set_cons_succ, i64_w, i32_w]
   rfl
  refine pure_ (i := 7) (N := some 46) (v := ?_) (a' := ?_) #[true, true, true, true, true, true, true, true, false, false, false, false] rfl rfl (by kernel_rfl) (fun _ _ _ h => h) (Or.inl ⟨by rfl, ?_⟩) ?_ ?_
  rotate_left
  ·intro w'
   go_simp
   with_reducible rfl
  rotate_left
  ·simp only [Act.put, List.setIfInBounds_toArray, List.set_cons_zero, List.set_cons_succ, i64_w, i32_w]
   rfl
  refine pure_ (i := 8) (N := some 54) (v := ?_) (a' := ?_) #[true, true, true, true, true, true, true, true, true, false, false, false] rfl rfl (by kernel_rfl) (fun _ _ _ h => h) (Or.inl ⟨by rfl, ?_⟩) ?_ ?_
  rotate_left
  ·intro w'
   go_simp
   with_reducible rfl
  rotate_left
  ·simp only [Act.put, List.setIfInBounds_toArray, List.set_cons_zero, List.set_cons_succ, i64_w, i32_w]
   rfl
  refine pure_ (i := 9) (N := some 55) (v := ?_) (a' := ?_) #[true, true, true, true, true, true, true, true, true, true, false, false] rfl rfl (by kernel_rfl) (fun _ _ _ h => h) (Or.inl ⟨by rfl, ?_⟩) ?_ ?_
  rotate_left
  ·intro w'
   go_simp
   with_reducible rfl
  rotate_left
  ·simp only [Act.put, List.setIfInBounds_toArray, List.set_cons_zero, List.set_cons_succ, i64_w, i32_w]
   rfl
  refine pure_ (i := 10) (N := some 11) (v := ?_) (a' := ?_) #[true, true, true, true, true, true, true, true, true, true, true, false] rfl rfl (by kernel_rfl) (fun _ _ _ h => h) (Or.inl ⟨by rfl, ?_⟩) ?_ ?_
  rotate_left
  ·intro w'
   go_simp
   with_reducible rfl
  rotate_left
  ·simp only [Act.put, List.setIfInBounds_toArray, List.set_cons_zero, List.set_cons_succ, i64_w, i32_w]
   rfl
  refine pure_ (i := 11) (N := some 12) (v := ?_) (a' := ?_) #[true, true, true, true, true, true, true, true, true, true, true, true] rfl rfl (by kernel_rfl) (fun _ _ _ h => h) (Or.inl ⟨by rfl, ?_⟩) ?_ ?_
  rotate_left
  ·intro w'
   go_simp
   with_reducible rfl
  rotate_left
  ·simp only [Act.put, List.setIfInBounds_toArray, List.set_cons_zero, List.set_cons_succ, i64_w, i32_w]
   rfl
  refine done_ (by kernel_rfl) ?_
  clear hz
  by_cases hff : fa = 0 ∧ fb = 0
  ·obtain ⟨rfl, rfl⟩ := hff
   obtain ⟨rfl, rfl⟩ := HPL.out rfl rfl
   have hB8 := HB8.out
   have HSUM := Lib.hid (fun (W : World) (g : Nat) (hg : W.heap[g]? = some (.cells #[.int .i64 va, .int .i64 vb] 3 (0, 0))) => sumr_any sumR (some ⟨g, 0, none⟩) 2 [va, vb] W (kd_list [va, vb] (fun z : Int => [Value.int .i64 z]) (fun z hz => ⟨rfl, rfl⟩) _ rfl hg (by simp)) (Nat.le_refl _) (by simp))
   clear hB8
   go_wp2_with (first
    | (go_at_call 16; refine (HSUM.out _ w8.heap.size (heap_alloc_last w8 _)).mono ?_; rintro e w9 ⟨rfl, hb⟩; have HB9 := Lib.hid (s_trans (s_alloc HB8.out _) hb); clear hb)
    | (go_at_call 9; refine (HLV.out _ (s_trans HB0.out HB9.out)).mono ?_; rintro e w10 ⟨rfl, hb⟩; have HB10 := Lib.hid (s_trans (s_trans HB0.out HB9.out) hb); clear hb))
   go_ret
   exact ⟨rfl, HB10.out⟩
  ·have hab : (fa != 0) = true ∨ ((fa != 0) = false ∧ (fb != 0) = true) := by
    by_cases h1 : fa = 0
    ·exact .inr ⟨by simp [h1], by simp; exact fun h2 => hff ⟨h1, h2⟩⟩
    ·exact .inl (by simp [h1])
   clear hff
   rcases hab with e1 | ⟨e1, e2⟩
   all_goals
    go_wp2_with (go_at_call 9; refine (HLV.out _ (s_trans HB0.out HB8.out)).mono ?_; rintro e w10 ⟨rfl, hb⟩; have HB10 := Lib.hid (s_trans (s_trans HB0.out HB8.out) hb); clear hb)
    go_ret
    exact ⟨rfl, HB10.out⟩
 ·have hno : fw = false ∨ (fw = true ∧ k3 = true) ∨ (fw = true ∧ k3 = false ∧ la = false) ∨ (fw = true ∧ k3 = false ∧ la = true ∧ lb = false) := by
   cases fw <;> cases k3 <;> cases la <;> cases lb <;> simp_all
  have hcc : ∀ W : World, Below W1.heap.size W1 W → W.cell? ⟨w.heap.size, 0, none⟩ = some (.int .i64 x.f0) ∧ W.cell? ⟨w.heap.size, 1, none⟩ = some (.int .i64 x.f1) ∧ W.cell? ⟨w.heap.size, 2, none⟩ = some (.string x.f2) ∧ W.cell? ⟨w.heap.size, 3, none⟩ = some (.slice A4 x.f3.length c4) ∧ W.cell? ⟨w.heap.size, 4, none⟩ = some (.slice A5 x.f4.length c5) := fun W hb => cells5 (block_on hb HX0.out)
  have HC := Lib.hid hcc
  clear hgo hfm hla1 hlb1 hcc
  rcases hno with rfl | ⟨rfl, rfl⟩ | ⟨rfl, rfl, rfl⟩ | ⟨rfl, rfl, rfl, rfl⟩
  all_goals
   go_enter Tryz.func4, Tryz.ntmps4
   go_upto_region 1 with fail
   rw [← hW]
   clear hW
   go_wp2_with (first
    | (go_at_call 7; refine HFC.out.mono ?_; rintro e w2 ⟨rfl, hb⟩; have HBn := Lib.hid hb; obtain ⟨x0, x1, x2, x3, x4⟩ := HC.out _ HBn.out; clear hb)
    | (go_at_call 8; first | (refine (HLA.out _ HBn.out).mono ?_; rintro e w3 ⟨rfl, hb⟩; have HLA := Lib.hid True.intro; have HBn := Lib.hid (s_trans HBn.out hb); clear hb) | (refine (HLB.out _ HBn.out).mono ?_; rintro e w4 ⟨rfl, hb⟩; have HBn := Lib.hid (s_trans HBn.out hb); clear hb))
    | (go_at_call 9; refine (HLV.out _ (s_trans HB0.out HBn.out)).mono ?_; rintro e w10 ⟨rfl, hb⟩; have HB10 := Lib.hid (s_trans (s_trans HB0.out HBn.out) hb); clear hb))
   go_ret
   exact ⟨rfl, HB10.out⟩
end Go.Proofs.YtnaglnifpejpjaaGreatDoor.Ch
