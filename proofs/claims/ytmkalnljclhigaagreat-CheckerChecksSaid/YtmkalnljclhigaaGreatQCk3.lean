/-
  The reference's 'right', 'GoodExpr', 'Good'.
-/
import Derived.Test.YtmkalnljclhigaaGreatQCk2
import Derived.Test.YtmkalnljclhigaaGreatQXCheckerChecksx19
namespace Go.Proofs.YtmkalnljclhigaaGreat.Ch
set_option linter.unusedVariables false
set_option linter.unusedSimpArgs false
set_option linter.unnecessarySimpa false
open Go.RowKit Go.Maps Go.Proofs.YtmkalnljclhigaaGreatK Go.Proofs.YtmkalnljclhigaaGreat.XCheckerChecks Go.Proofs.YtmkalnljclhigaaGreatW.PrintWords Go.Proofs.YtmkalnljclhigaaGreatW.PrintLast Go.Sort

mutual
/-- No string in it is longer than all memory. -/
def Thin : S33 → Prop
  | ⟨_, _, f, fs, ks⟩ => f.size ≤ 140737488351232 ∧ (∀ q ∈ fs, q.f0.size ≤ 140737488351232) ∧ ThinL ks
def ThinL : List S33 → Prop
  | [] => True
  | x :: xs => Thin x ∧ ThinL xs
end
theorem thinL_mem : ∀ {l : List S33}, ThinL l → ∀ y ∈ l, Thin y
  | x :: xs, h, y, hy => by
    rw [ThinL] at h
    rcases List.mem_cons.1 hy with e | hy
    · rw [e]; exact h.1
    · exact thinL_mem h.2 y hy
theorem thinL_of : ∀ {l : List S33}, (∀ y ∈ l, Thin y) → ThinL l
  | [], _ => by rw [ThinL]; trivial
  | x :: xs, h => by rw [ThinL]; exact ⟨h x List.mem_cons_self, thinL_of fun y hy => h y (List.mem_cons_of_mem _ hy)⟩
theorem Thin.kids {x : S33} (h : Thin x) : x.f2.size ≤ 140737488351232 ∧ (∀ q ∈ x.f3, q.f0.size ≤ 140737488351232) ∧ ∀ y ∈ x.f4, Thin y := by
  obtain ⟨k, n, f, fs, ks⟩ := x
  rw [Thin] at h
  exact ⟨h.1, h.2.1, thinL_mem h.2.2⟩
def RightR (x : S33) : Prop := ∃ a, octroiref31_right.f a x.f0 x.f1 x.f2 x.f3 x.f4 = some (rightB x)
theorem rightf_up {x : S33} {r : Bool} {a k : Nat} (h : octroiref31_right.f a x.f0 x.f1 x.f2 x.f3 x.f4 = some r) (hk : a ≤ k) : octroiref31_right.f k x.f0 x.f1 x.f2 x.f3 x.f4 = some r := up (fun k => octroiref31_right.mono _ _ _ _ _ k) h hk
theorem right0_up {i e0 e1 : Int} {e2 : ByteArray} {e3 : List S62} {e4 : List S33} {r : Bool} {a k : Nat} (h : octroiref31_right.l0 a i e0 e1 e2 e3 e4 = some r) (hk : a ≤ k) : octroiref31_right.l0 k i e0 e1 e2 e3 e4 = some r := up (fun k => (octroiref31_right.mono_l k).2.2.1 _ _ _ _ _ _) h hk
theorem right1_up {i e0 e1 : Int} {e2 : ByteArray} {e3 : List S62} {e4 : List S33} {r : Bool} {a k : Nat} (h : octroiref31_right.l1 a i e0 e1 e2 e3 e4 = some r) (hk : a ≤ k) : octroiref31_right.l1 k i e0 e1 e2 e3 e4 = some r := up (fun k => (octroiref31_right.mono_l k).2.2.2 _ _ _ _ _ _) h hk
theorem right_kids (e0 e1 : Int) (e2 : ByteArray) (e3 : List S62) (l : List S33) (hl : l.length ≤ 140737488351232) (hx : ∀ x ∈ l, RightR x) : ∀ (q i : Nat), i + q = l.length → ∃ a, octroiref31_right.l1 a (i : Int) e0 e1 e2 e3 l = some (rightL (l.drop i) && (e1 == 0))
  | 0, i, h => ⟨1, by rw [octroiref31_right.l1, if_neg (by omega), List.drop_eq_nil_of_le (by omega), rightL, Bool.true_and]⟩
  | q + 1, i, h => by
    have hi : i < l.length := by omega
    have hy : l.getD i z33 ∈ l := by rw [List.getD_eq_getElem?_getD, List.getElem?_eq_getElem hi]; exact List.getElem_mem hi
    obtain ⟨a1, h1⟩ := hx _ hy
    obtain ⟨a2, h2⟩ := right_kids e0 e1 e2 e3 l hl hx q (i + 1) (by omega)
    rw [drop_d l i hi z33, rightL]
    refine ⟨max a1 a2 + 1, ?_⟩
    rw [octroiref31_right.l1, if_pos (by omega), if_pos (by omega), rd41, rightf_up h1 (Nat.le_max_left _ _), Option.bind_some]
    cases rightB (l.getD i z33) with
    | true => rw [if_pos rfl, wrapF i (by omega), Bool.true_and]; exact right1_up h2 (Nat.le_max_right _ _)
    | false => rw [if_neg (by decide)]; rfl
theorem rd64 (L : List S62) (i : Nat) (h : i < L.length) : rd_T62 L (i : Int) = L[i] := by unfold rd_T62; rw [Int.toNat_natCast, List.getD_eq_getElem?_getD, List.getElem?_eq_getElem h]; rfl
theorem right_fs (e0 e1 : Int) (e2 : ByteArray) (h2 : e2.size ≤ 140737488351232) (fs : List S62) (hl : fs.length ≤ 140737488351232) (hs : ∀ q ∈ fs, q.f0.size ≤ 140737488351232) (ks : List S33) : ∀ (q i : Nat), i + q = fs.length → ∃ a, octroiref31_right.l0 a (i : Int) e0 e1 e2 fs ks = some (!(fs.drop i).any (fun f => !picksB f) && ((e1 == 0) && (nameB e2 && decide (fs.length ≤ 16))))
  | 0, i, h => by
    obtain ⟨a, ha⟩ := name_f e2 h2
    refine ⟨a + 1, ?_⟩
    rw [octroiref31_right.l0, if_neg (by omega), List.drop_eq_nil_of_le (by omega)]
    simp only [List.any_nil, Bool.not_false, Bool.true_and]
    by_cases h0 : e1 = 0
    · rw [if_pos h0, name_up ha (Nat.le_refl _), Option.bind_some, h0]
      cases nameB e2 with
      | true =>
        rw [if_pos rfl]
        refine congrArg some ?_
        rw [show ((0 : Int) == 0) = true from rfl, Bool.true_and, Bool.true_and, decide_eq_decide]
        omega
      | false => rw [if_neg (by decide)]; rfl
    · rw [if_neg h0, beq_eq_false_iff_ne.2 h0]; rfl
  | q + 1, i, h => by
    have hi : i < fs.length := by omega
    obtain ⟨a1, h1⟩ := name_f fs[i].f0 (hs _ (List.getElem_mem hi))
    obtain ⟨a2, h3⟩ := right_fs e0 e1 e2 h2 fs hl hs ks q (i + 1) (by omega)
    have hd : (fs.drop i).any (fun f => !picksB f) = (!picksB fs[i] || (fs.drop (i + 1)).any (fun f => !picksB f)) := by rw [List.drop_eq_getElem_cons hi, List.any_cons]
    refine ⟨max a1 a2 + 1, ?_⟩
    rw [octroiref31_right.l0, if_pos (by omega), if_pos (by omega), rd64 fs i hi, name_up h1 (Nat.le_max_left _ _), Option.bind_some, hd, wrapF i (by omega), right0_up h3 (Nat.le_max_right _ _), numR]
    simp only [Option.bind_some]
    unfold picksB
    by_cases g1 : fs[i].f1 = 61
    · rw [if_pos g1, g1]
      cases nameB fs[i].f0 <;> cases numB fs[i].f2 <;> simp
    rw [if_neg g1]
    by_cases g2 : fs[i].f1 = 60
    · rw [if_pos g2, g2]
      cases nameB fs[i].f0 <;> cases numB fs[i].f2 <;> simp
    rw [if_neg g2]
    by_cases g3 : fs[i].f1 = 62
    · rw [if_pos g3, g3]
      cases nameB fs[i].f0 <;> cases numB fs[i].f2 <;> simp
    rw [if_neg g3]
    cases nameB fs[i].f0 <;> simp [g1, g2, g3]
theorem right_n : ∀ (n : Nat) (x : S33), SizeOf.sizeOf x < n → Fit x → Thin x → RightR x
  | 0, x, h, _, _ => by omega
  | n + 1, x, h, hf, ht => by
    obtain ⟨a1, h1⟩ := right_kids x.f0 x.f1 x.f2 x.f3 x.f4 hf.kids.2.1 (fun y hy => right_n n y (by have := kid_lt hy; omega) (hf.kids.2.2 y hy) (ht.kids.2.2 y hy)) x.f4.length 0 (by omega)
    obtain ⟨a2, h2⟩ := right_fs x.f0 x.f1 x.f2 ht.kids.1 x.f3 hf.kids.1 ht.kids.2.1 x.f4 x.f3.length 0 (by omega)
    rw [show ((0 : Nat) : Int) = 0 from rfl, List.drop_zero] at h1 h2
    have hE := right_eq x
    have hMB := many_f x.f0
    refine ⟨max a1 a2 + 10, ?_⟩
    have hjt : ∀ k, octroiref31_right.j0 (k + 1) true x.f0 x.f1 x.f2 x.f3 x.f4 = some false := fun k => by rw [octroiref31_right.j0, if_pos rfl]
    have hj0 : ∀ k, octroiref31_right.j0 (k + 1) false x.f0 x.f1 x.f2 x.f3 x.f4 = if x.f0 = 1 then some (numB x.f1) else if x.f0 = 2 then some (boxedB x.f1) else if x.f0 = 3 then octroiref31_right.l0 k 0 x.f0 x.f1 x.f2 x.f3 x.f4 else octroiref31_right.l1 k 0 x.f0 x.f1 x.f2 x.f3 x.f4 := fun k => by
      rw [octroiref31_right.j0, if_neg (show ¬ ((false : Bool) = true) by decide), numR, boxR]
      rfl
    obtain ⟨m, ok, hk⟩ : ∃ m ok, kidsB x.f0 = (m, ok) := ⟨_, _, rfl⟩
    rw [hk] at hE
    dsimp only at hE
    have hF : octroiref31_right.f (max a1 a2 + 10) x.f0 x.f1 x.f2 x.f3 x.f4 = if (x.f4.length : Int) = (if ok = true then m else -1) then (if x.f0 = 3 then octroiref31_right.j0 (max a1 a2 + 9) false x.f0 x.f1 x.f2 x.f3 x.f4 else (if x.f2.toList = ([] : List UInt8) then octroiref31_right.j0 (max a1 a2 + 9) (decide ((x.f3.length : Int) > 0)) x.f0 x.f1 x.f2 x.f3 x.f4 else some false)) else some false := by
      rw [octroiref31_right.f, many_up hMB (by omega), Option.bind_some]
      unfold manyB
      rw [hk]
      simp only [hjt]
    rw [hF]
    cases ok with
    | false =>
      rw [if_pos (show (false : Bool) = false from rfl)] at hE
      rw [hE, if_neg (show ¬ ((x.f4.length : Int) = if (false : Bool) = true then m else -1) by rw [if_neg (show ¬ ((false : Bool) = true) by decide)]; omega)]
    | true =>
      rw [if_neg (show ¬ ((true : Bool) = false) by decide)] at hE
      by_cases hl : (x.f4.length : Int) = m
      · rw [if_neg (fun h => h hl)] at hE
        rw [if_pos (show (x.f4.length : Int) = if (true : Bool) = true then m else -1 by rw [if_pos rfl]; exact hl)]
        by_cases h3 : x.f0 = 3
        · rw [if_neg (fun h => h.1 h3), if_neg (fun h => h.1 h3), if_neg (show ¬ (x.f0 = 1) by omega), if_neg (show ¬ (x.f0 = 2) by omega), if_pos h3] at hE
          rw [if_pos h3, hj0, if_neg (show ¬ (x.f0 = 1) by omega), if_neg (show ¬ (x.f0 = 2) by omega), if_pos h3, right0_up h2 (by omega)]
          refine congrArg some ?_
          rw [hE]
          by_cases h0 : x.f1 = 0
          · rw [if_neg (fun h => h h0), h0]
            rw [show ((0 : Int) == 0) = true from rfl, Bool.true_and]
            cases hn : nameB x.f2 with
            | false => simp
            | true =>
              rw [if_neg (by decide), Bool.true_and]
              by_cases h16 : 16 < x.f3.length
              · rw [if_pos h16, decide_eq_false (by omega), Bool.and_false]
              · rw [if_neg h16, decide_eq_true (by omega), Bool.and_true]
          · rw [if_pos h0, beq_eq_false_iff_ne.2 h0, Bool.false_and, Bool.and_false]
        · rw [if_neg h3]
          by_cases he : x.f2.toList = ([] : List UInt8)
          · have hz := (empty_iff x.f2).1 he
            rw [if_neg (fun h => h.2 hz)] at hE
            rw [if_pos he]
            by_cases hfl : 0 < x.f3.length
            · rw [if_pos ⟨h3, hfl⟩] at hE
              rw [hE, decide_eq_true (by omega)]
              exact hjt _
            · rw [if_neg (fun h => hfl h.2)] at hE
              rw [decide_eq_false (by omega), hj0]
              by_cases k1 : x.f0 = 1
              · rw [if_pos k1] at hE
                rw [hE, if_pos k1]
              rw [if_neg k1] at hE
              rw [if_neg k1]
              by_cases k2 : x.f0 = 2
              · rw [if_pos k2] at hE
                rw [hE, if_pos k2]
              rw [if_neg k2, if_neg h3] at hE
              rw [if_neg k2, if_neg h3, right1_up h1 (by omega), hE]
              refine congrArg some ?_
              by_cases h0 : x.f1 = 0
              · rw [if_neg (fun h => h h0), h0]
                rw [show ((0 : Int) == 0) = true from rfl, Bool.and_true]
              · rw [if_pos h0, beq_eq_false_iff_ne.2 h0, Bool.and_false]
          · have hz : x.f2.size ≠ 0 := fun h => he ((empty_iff x.f2).2 h)
            rw [if_pos ⟨h3, hz⟩] at hE
            rw [if_neg he, hE]
      · rw [if_pos hl] at hE
        rw [hE, if_neg (show ¬ ((x.f4.length : Int) = if (true : Bool) = true then m else -1) by rw [if_pos rfl]; exact hl)]
theorem right_r (x : S33) (hf : Fit x) (ht : Thin x) : RightR x := right_n (SizeOf.sizeOf x + 1) x (Nat.lt_succ_self _) hf ht
theorem goodE_f (x : S33) (hf : Fit x) (ht : Thin x) : ∃ a, octroiref31_GoodExpr.f a x.f0 x.f1 x.f2 x.f3 x.f4 = some (goodB x) := by
  obtain ⟨a1, h1⟩ := deep_at x hf 64 (by omega)
  obtain ⟨a2, h2⟩ := right_r x hf ht
  refine ⟨max a1 a2, ?_⟩
  rw [octroiref31_GoodExpr.f, show (64 : Int) = ((64 : Nat) : Int) from rfl, deepf_up h1 (Nat.le_max_left _ _), Option.bind_some, rightf_up h2 (Nat.le_max_right _ _)]
  unfold goodB
  by_cases h : depthB x 64 ≤ 64
  · rw [if_pos (show depthB x 64 ≤ ((64 : Nat) : Int) from h), decide_eq_true h]; rfl
  · rw [if_neg (show ¬ (depthB x 64 ≤ ((64 : Nat) : Int)) from h), decide_eq_false h]; rfl
theorem goodE_up {x : S33} {r : Bool} {a k : Nat} (h : octroiref31_GoodExpr.f a x.f0 x.f1 x.f2 x.f3 x.f4 = some r) (hk : a ≤ k) : octroiref31_GoodExpr.f k x.f0 x.f1 x.f2 x.f3 x.f4 = some r := up (fun k => octroiref31_GoodExpr.mono _ _ _ _ _ k) h hk
end Go.Proofs.YtmkalnljclhigaaGreat.Ch
