/- Several texts in one. -/
import Derived.Test.YtmkalnljclhigaaGreatQCk3
/-
  The reference's 'Good', 'Refs'.
-/
namespace Go.Proofs.YtmkalnljclhigaaGreat.Ch
set_option linter.unusedVariables false
set_option linter.unusedSimpArgs false
set_option linter.unnecessarySimpa false
open Go.RowKit Go.Maps Go.Proofs.YtmkalnljclhigaaGreatK Go.Proofs.YtmkalnljclhigaaGreat.XCheckerChecks Go.Proofs.YtmkalnljclhigaaGreatW.PrintWords Go.Proofs.YtmkalnljclhigaaGreatW.PrintLast

theorem goodl_up {l : List S35} {i : Int} {r : Bool} {a k : Nat} (h : octroiref31_Good.l0 a l i = some r) (hk : a ≤ k) : octroiref31_Good.l0 k l i = some r := up (fun k => (octroiref31_Good.mono_l k) _ _) h hk
theorem good_l (l : List S35) (hl : l.length ≤ 140737488351232) (hx : ∀ x ∈ l, Fit x.f1 ∧ Thin x.f1) : ∀ (q i : Nat), i + q = l.length → ∃ a, octroiref31_Good.l0 a l (i : Int) = some (decide (l.length ≤ 256) && !(l.drop i).any (fun b => !mayB b))
  | 0, i, h => ⟨1, by
    rw [octroiref31_Good.l0, if_neg (by omega), List.drop_eq_nil_of_le (by omega)]
    simp only [List.any_nil, Bool.not_false, Bool.and_true]
    refine congrArg some ?_
    rw [decide_eq_decide]
    omega⟩
  | q + 1, i, h => by
    have hi : i < l.length := by omega
    have hm := hx _ (List.getElem_mem hi)
    obtain ⟨a1, h1⟩ := goodE_f l[i].f1 hm.1 hm.2
    obtain ⟨a2, h2⟩ := good_l l hl hx q (i + 1) (by omega)
    have hd : (l.drop i).any (fun b => !mayB b) = (!mayB l[i] || (l.drop (i + 1)).any (fun b => !mayB b)) := by rw [List.drop_eq_getElem_cons hi, List.any_cons]
    refine ⟨max a1 a2 + 1, ?_⟩
    rw [octroiref31_Good.l0, if_pos (by omega), if_pos (by omega), rd43 l i hi, boxR, Option.bind_some, hd]
    unfold mayB
    cases boxedB l[i].f0 with
    | false => simp
    | true =>
      rw [if_pos rfl, goodE_up h1 (Nat.le_max_left _ _), Option.bind_some]
      cases goodB l[i].f1 with
      | false => simp
      | true =>
        rw [if_pos rfl, wrapF i (by omega)]
        simp only [Bool.and_self, Bool.not_true, Bool.false_or]
        exact goodl_up h2 (Nat.le_max_right _ _)
theorem goodL_f (l : List S35) (hl : l.length ≤ 140737488351232) (hx : ∀ x ∈ l, Fit x.f1 ∧ Thin x.f1) : ∃ a, octroiref31_Good.f a l = some (goodL l) := by
  obtain ⟨a, h⟩ := good_l l hl hx l.length 0 (by omega)
  rw [List.drop_zero] at h
  exact ⟨a, h⟩
/-! ### gather -/
/-- Put into a rising list, unless it is there. -/
def ins : List Int → Int → List Int
  | [], n => [n]
  | x :: xs, n => if x < n then x :: ins xs n else if x = n then x :: xs else n :: x :: xs
theorem ins_mem : ∀ (l : List Int) (n z : Int), z ∈ ins l n ↔ z ∈ l ∨ z = n
  | [], n, z => by simp [ins]
  | x :: xs, n, z => by
    rw [ins]
    split
    · rw [List.mem_cons, ins_mem xs n z, List.mem_cons, or_assoc]
    · split
      · rename_i h; subst h
        rw [List.mem_cons]
        constructor
        · exact Or.inl
        · rintro (h | h)
          · exact h
          · exact .inl h
      · rw [List.mem_cons, Or.comm]
theorem ins_rise : ∀ (l : List Int) (n : Int), l.Pairwise (· < ·) → (ins l n).Pairwise (· < ·)
  | [], n, _ => by simp [ins]
  | x :: xs, n, h => by
    rw [List.pairwise_cons] at h
    rw [ins]
    split
    · rename_i hx
      rw [List.pairwise_cons]
      refine ⟨fun z hz => ?_, ins_rise xs n h.2⟩
      rcases (ins_mem xs n z).1 hz with hz | hz
      · exact h.1 z hz
      · omega
    · split
      · exact List.pairwise_cons.2 h
      · rw [List.pairwise_cons]
        refine ⟨fun z hz => ?_, List.pairwise_cons.2 h⟩
        rcases List.mem_cons.1 hz with hz | hz
        · omega
        · have := h.1 z hz; omega
theorem ins_len : ∀ (l : List Int) (n : Int), (ins l n).length ≤ l.length + 1
  | [], n => by simp [ins]
  | x :: xs, n => by
    rw [ins]
    split
    · have := ins_len xs n; simp; omega
    · split <;> simp
/-- From a place on. -/
theorem ins_at (l : List Int) (n : Int) : ∀ (q i : Nat), i + q = l.length → (∀ j, j < i → (h : j < l.length) → l[j] < n) → ins l n = l.take i ++ ins (l.drop i) n := fun q i hi hlt => by
  induction i generalizing l q with
  | zero => simp
  | succ i ih =>
    cases l with
    | nil => simp at hi
    | cons x xs =>
      have h0 := hlt 0 (by omega) (by simp)
      rw [ins, if_pos (by simpa using h0), List.take_succ_cons, List.drop_succ_cons, List.cons_append]
      rw [← ih xs q (by simp at hi; omega) (fun j hj hjl => by have := hlt (j + 1) (by omega) (by simp; omega); simpa using this)]
theorem rd_at (l : List Int) (i : Nat) (h : i < l.length) : rd l (i : Int) = l[i] := by unfold rd; rw [Int.toNat_natCast, List.getD_eq_getElem?_getD, List.getElem?_eq_getElem h]; rfl
theorem gat_ins (l : List Int) (hl : l.length ≤ 1000000) (e0 n : Int) (e2 : ByteArray) (e3 : List S62) (e4 : List S33) : ∀ (q i : Nat), i + q = l.length → (∀ j, j < i → (h : j < l.length) → l[j] < n) → octroiref31_gather.l0 (q + 1) l (i : Int) e0 n e2 e3 e4 = some (ins l n)
  | 0, i, h, hlt => by
    rw [octroiref31_gather.l0, if_neg (by omega), ins_at l n 0 i h hlt, List.drop_eq_nil_of_le (by omega)]
    simp only [Option.bind_some, Int.toNat_natCast]
    rw [if_pos (by omega), if_pos (by omega), if_pos (by simp; omega), if_pos (by simp; omega), if_pos (by simp; omega)]
    simp [ins, List.take_of_length_le (Nat.le_of_eq (by omega : l.length = i)), List.drop_eq_nil_of_le (show l.length ≤ i by omega)]
  | q + 1, i, h, hlt => by
    have hi : i < l.length := by omega
    rw [octroiref31_gather.l0, if_pos (by omega), if_pos (by omega), rd_at l i hi]
    by_cases h1 : l[i] < n
    · rw [if_pos h1, wrapF i (by omega)]
      exact gat_ins l hl e0 n e2 e3 e4 q (i + 1) (by omega) (fun j hj hjl => by
        by_cases e : j = i
        · subst e; exact h1
        · exact hlt j (by omega) hjl)
    · rw [if_neg h1]
      have hat := ins_at l n (q + 1) i h hlt
      rw [List.drop_eq_getElem_cons hi, ins, if_neg h1] at hat
      by_cases h2 : l[i] = n
      · rw [if_pos h2, hat, if_pos h2, ← List.drop_eq_getElem_cons hi, List.take_append_drop]
      · rw [if_neg h2, hat, if_neg h2, ← List.drop_eq_getElem_cons hi]
        simp only [Option.bind_some, Int.toNat_natCast]
        rw [if_pos (by omega), if_pos (by simp; omega), if_pos (by simp; omega), if_pos (by simp; omega)]
        simp
end Go.Proofs.YtmkalnljclhigaaGreat.Ch

/-
  The reference's 'gather' over a tree, 'Refs'; 'Find'.
-/
namespace Go.Proofs.YtmkalnljclhigaaGreat.Ch
set_option linter.unusedVariables false
set_option linter.unusedSimpArgs false
set_option linter.unnecessarySimpa false
open Go.RowKit Go.Maps Go.Proofs.YtmkalnljclhigaaGreatK Go.Proofs.YtmkalnljclhigaaGreat.XCheckerChecks Go.Proofs.YtmkalnljclhigaaGreatW.PrintWords Go.Proofs.YtmkalnljclhigaaGreatW.PrintLast

mutual
def gatB : List Int → S33 → List Int
  | l, ⟨k, n, _, _, ks⟩ => if k = 2 then ins l n else gatL l ks
def gatL : List Int → List S33 → List Int
  | l, [] => l
  | l, x :: xs => gatL (gatB l x) xs
end
mutual
theorem gatB_len : ∀ (l : List Int) (x : S33), (gatB l x).length ≤ l.length + parts x
  | l, ⟨k, n, _, fs, ks⟩ => by
    rw [gatB, parts]
    split
    · have := ins_len l n; omega
    · have := gatL_len l ks; omega
theorem gatL_len : ∀ (l : List Int) (xs : List S33), (gatL l xs).length ≤ l.length + partsL xs
  | l, [] => by rw [gatL, partsL]; omega
  | l, x :: xs => by
    rw [gatL, partsL]
    have h1 := gatB_len l x
    have h2 := gatL_len (gatB l x) xs
    omega
end
def GatR (x : S33) : Prop := ∀ l : List Int, l.length + parts x ≤ 1000000 → ∃ a, octroiref31_gather.f a l x.f0 x.f1 x.f2 x.f3 x.f4 = some (gatB l x)
theorem gatf_up {x : S33} {l r : List Int} {a k : Nat} (h : octroiref31_gather.f a l x.f0 x.f1 x.f2 x.f3 x.f4 = some r) (hk : a ≤ k) : octroiref31_gather.f k l x.f0 x.f1 x.f2 x.f3 x.f4 = some r := up (fun k => octroiref31_gather.mono _ _ _ _ _ _ k) h hk
theorem gat1_up {l : List Int} {i e0 e1 : Int} {e2 : ByteArray} {e3 : List S62} {e4 : List S33} {r : List Int} {a k : Nat} (h : octroiref31_gather.l1 a l i e0 e1 e2 e3 e4 = some r) (hk : a ≤ k) : octroiref31_gather.l1 k l i e0 e1 e2 e3 e4 = some r := up (fun k => (octroiref31_gather.mono_l k).2.2 _ _ _ _ _ _ _) h hk
theorem gat_kids (e0 e1 : Int) (e2 : ByteArray) (e3 : List S62) (ks : List S33) (hl : ks.length ≤ 140737488351232) (hx : ∀ x ∈ ks, GatR x) : ∀ (q i : Nat) (l : List Int), i + q = ks.length → l.length + partsL (ks.drop i) ≤ 1000000 → ∃ a, octroiref31_gather.l1 a l (i : Int) e0 e1 e2 e3 ks = some (gatL l (ks.drop i))
  | 0, i, l, h, _ => ⟨1, by rw [octroiref31_gather.l1, if_neg (by omega), List.drop_eq_nil_of_le (by omega), gatL]⟩
  | q + 1, i, l, h, hb => by
    have hi : i < ks.length := by omega
    have hy : ks.getD i z33 ∈ ks := by rw [List.getD_eq_getElem?_getD, List.getElem?_eq_getElem hi]; exact List.getElem_mem hi
    rw [drop_d ks i hi z33] at hb ⊢
    rw [partsL] at hb
    obtain ⟨a1, h1⟩ := hx _ hy l (by omega)
    have hgl := gatB_len l (ks.getD i z33)
    obtain ⟨a2, h2⟩ := gat_kids e0 e1 e2 e3 ks hl hx q (i + 1) (gatB l (ks.getD i z33)) (by omega) (by omega)
    rw [gatL]
    refine ⟨max a1 a2 + 1, ?_⟩
    rw [octroiref31_gather.l1, if_pos (by omega), if_pos (by omega), rd41, gatf_up h1 (Nat.le_max_left _ _), Option.bind_some, wrapF i (by omega)]
    exact gat1_up h2 (Nat.le_max_right _ _)
theorem gatr_n : ∀ (n : Nat) (x : S33), SizeOf.sizeOf x < n → Fit x → GatR x
  | 0, x, h, _ => by omega
  | n + 1, x, h, hf => fun l hb => by
    have hE : gatB l x = if x.f0 = 2 then ins l x.f1 else gatL l x.f4 := by obtain ⟨_, _, _, _, _⟩ := x; rw [gatB]
    have hP : parts x = 1 + x.f3.length + partsL x.f4 := by obtain ⟨_, _, _, _, _⟩ := x; rw [parts]
    rw [hE]
    by_cases h2 : x.f0 = 2
    · rw [if_pos h2]
      refine ⟨l.length + 2, ?_⟩
      rw [octroiref31_gather.f, if_pos h2]
      exact gat_ins l (by omega) x.f0 x.f1 x.f2 x.f3 x.f4 l.length 0 (by omega) (fun j hj => by omega)
    · rw [if_neg h2]
      obtain ⟨a, ha⟩ := gat_kids x.f0 x.f1 x.f2 x.f3 x.f4 hf.kids.2.1 (fun y hy => gatr_n n y (by have := kid_lt hy; omega) (hf.kids.2.2 y hy)) x.f4.length 0 l (by omega) (by rw [List.drop_zero]; omega)
      rw [show ((0 : Nat) : Int) = 0 from rfl, List.drop_zero] at ha
      exact ⟨a + 1, by rw [octroiref31_gather.f, if_neg h2]; exact ha⟩
mutual
theorem gatB_ok : ∀ (l : List Int) (x : S33), l.Pairwise (· < ·) → rightB x = true → (gatB l x).Pairwise (· < ·) ∧ ∀ z, z ∈ gatB l x ↔ z ∈ l ∨ z ∈ refsB x
  | l, ⟨k, n, f, fs, ks⟩, hl, hr => by
    rw [gatB, refsB]
    by_cases h2 : k = 2
    · rw [if_pos h2, if_pos h2]
      have h0 : ks = [] := by
        subst h2
        rw [rightB] at hr
        split at hr
        · cases hr
        split at hr
        · cases hr
        · rename_i h3
          refine List.eq_nil_of_length_eq_zero ?_
          have : (kidsB 2).1 = 0 := rfl
          rw [this] at h3
          omega
      subst h0
      rw [refsL, List.append_nil]
      exact ⟨ins_rise l n hl, fun z => by rw [ins_mem, List.mem_singleton]⟩
    · rw [if_neg h2, if_neg h2, List.nil_append]
      refine gatL_ok l ks hl (fun y hy => ?_)
      rw [rightB] at hr
      split at hr
      · cases hr
      split at hr
      · cases hr
      rename_i g1 g2
      split at hr
      · cases hr
      split at hr
      · cases hr
      split at hr
      · rename_i h1; subst h1
        have h0 : ks = [] := List.eq_nil_of_length_eq_zero (by
          have : (kidsB 1).1 = 0 := rfl
          rw [this] at g2; omega)
        rw [h0] at hy; cases hy
      split at hr
      · cases hr
      split at hr
      · rename_i h1; subst h1
        have h0 : ks = [] := List.eq_nil_of_length_eq_zero (by
          have : (kidsB 3).1 = 0 := rfl
          rw [this] at g2; omega)
        rw [h0] at hy; cases hy
      · rw [rightL_all] at hr
        rw [Bool.not_eq_true'] at hr
        have := List.any_eq_false.1 hr y hy
        simpa using this
theorem gatL_ok : ∀ (l : List Int) (xs : List S33), l.Pairwise (· < ·) → (∀ y ∈ xs, rightB y = true) → (gatL l xs).Pairwise (· < ·) ∧ ∀ z, z ∈ gatL l xs ↔ z ∈ l ∨ z ∈ refsL xs
  | l, [], hl, _ => by rw [gatL, refsL]; exact ⟨hl, fun z => by simp⟩
  | l, x :: xs, hl, hr => by
    rw [gatL, refsL]
    obtain ⟨h1, h2⟩ := gatB_ok l x hl (hr x List.mem_cons_self)
    obtain ⟨h3, h4⟩ := gatL_ok (gatB l x) xs h1 (fun y hy => hr y (List.mem_cons_of_mem _ hy))
    exact ⟨h3, fun z => by rw [h4, h2, List.mem_append, or_assoc]⟩
end
theorem refs_f (x : S33) (hf : Fit x) (ht : Thin x) (hp : parts x ≤ 400) : ∃ a, octroiref31_Refs.f a x.f0 x.f1 x.f2 x.f3 x.f4 = some (refsR x) := by
  obtain ⟨a1, h1⟩ := goodE_f x hf ht
  obtain ⟨a2, h2⟩ := gatr_n (SizeOf.sizeOf x + 1) x (Nat.lt_succ_self _) hf [] (by simp; omega)
  refine ⟨max a1 a2, ?_⟩
  rw [octroiref31_Refs.f, goodE_up h1 (Nat.le_max_left _ _), Option.bind_some]
  cases hg : goodB x with
  | false =>
    rw [if_neg (by decide)]
    unfold refsR
    rw [hg, if_neg (by decide)]
  | true =>
    rw [if_pos rfl, gatf_up h2 (Nat.le_max_right _ _), Option.bind_some]
    refine congrArg some ?_
    have hr : rightB x = true := by
      unfold goodB at hg
      rw [Bool.and_eq_true] at hg
      exact hg.2
    obtain ⟨h3, h4⟩ := gatB_ok [] x List.Pairwise.nil hr
    exact rise_ext _ _ h3 (refsR_rise x) (fun z => by rw [h4, refsR_iff hg]; simp)
theorem refs_up {x : S33} {r : List Int} {a k : Nat} (h : octroiref31_Refs.f a x.f0 x.f1 x.f2 x.f3 x.f4 = some r) (hk : a ≤ k) : octroiref31_Refs.f k x.f0 x.f1 x.f2 x.f3 x.f4 = some r := up (fun k => octroiref31_Refs.mono _ _ _ _ _ k) h hk
/-! ### Find -/
def findB (ns : List Int) (n : Int) : Int := if n ∈ ns then tOf ns n else -1
theorem find_l (l : List S35) (hl : l.length ≤ 140737488351232) (n : Int) : ∀ (q i : Nat), i + q = l.length → octroiref33_Find.l0 (q + 1) l n (i : Int) = some (if n ∈ nums (l.drop i) then (i : Int) + tOf (nums (l.drop i)) n else -1)
  | 0, i, h => by
    rw [octroiref33_Find.l0, if_neg (by omega), List.drop_eq_nil_of_le (by omega)]
    rfl
  | q + 1, i, h => by
    have hi : i < l.length := by omega
    rw [octroiref33_Find.l0, if_pos (by omega), if_pos (by omega), rd43 l i hi, List.drop_eq_getElem_cons hi]
    have hn : nums (l[i] :: l.drop (i + 1)) = l[i].f0 :: nums (l.drop (i + 1)) := rfl
    rw [hn]
    by_cases h1 : l[i].f0 = n
    · rw [if_pos h1, if_pos (by rw [h1]; exact List.mem_cons_self), tOf, if_pos h1]
      simp
    · rw [if_neg h1, wrapF i (by omega), find_l l hl n q (i + 1) (by omega)]
      by_cases h2 : n ∈ nums (l.drop (i + 1))
      · rw [if_pos h2, if_pos (List.mem_cons_of_mem _ h2), tOf, if_neg h1, if_pos h2]
        refine congrArg some ?_
        omega
      · rw [if_neg h2, if_neg (fun h => by
          rcases List.mem_cons.1 h with h | h
          · exact h1 h.symm
          · exact h2 h)]
theorem find_f (l : List S35) (hl : l.length ≤ 140737488351232) (n : Int) : octroiref33_Find.f (l.length + 1) l n = some (findB (nums l) n) := by
  have h := find_l l hl n l.length 0 (by omega)
  rw [List.drop_zero] at h
  unfold findB
  rw [octroiref33_Find.f]
  refine h.trans (congrArg some ?_)
  split
  · simp
  · rfl
theorem find_up {l : List S35} {n r : Int} {a k : Nat} (h : octroiref33_Find.f a l n = some r) (hk : a ≤ k) : octroiref33_Find.f k l n = some r := up (fun k => octroiref33_Find.mono _ _ k) h hk
end Go.Proofs.YtmkalnljclhigaaGreat.Ch

/-
  The reference's 'Names', 'Needs', 'all'.
-/
namespace Go.Proofs.YtmkalnljclhigaaGreat.Ch
set_option linter.unusedVariables false
set_option linter.unusedSimpArgs false
set_option linter.unnecessarySimpa false
open Go.RowKit Go.Maps Go.Proofs.YtmkalnljclhigaaGreatK Go.Proofs.YtmkalnljclhigaaGreat.XCheckerChecks Go.Proofs.YtmkalnljclhigaaGreatW.PrintWords Go.Proofs.YtmkalnljclhigaaGreatW.PrintLast

theorem mem_lst (s : ByteArray) (l : List (List UInt8)) : s ∈ lst l ↔ s.toList ∈ l := by
  unfold lst
  rw [List.mem_map]
  constructor
  · rintro ⟨b, hb, rfl⟩
    rw [ByteArray.toList_eq]
    simpa using hb
  · intro h
    refine ⟨s.toList, h, ?_⟩
    rw [ByteArray.toList_eq]
theorem isField_iff (s : ByteArray) : isField s = true ↔ s.toList ∈ ([[98, 97, 115, 101], [116, 97, 120], [111, 117, 116], [105, 110]] : List (List UInt8)) := by
  unfold isField
  rw [Lib.containsS_iff, show fieldsL.take 4 = lst [[98, 97, 115, 101], [116, 97, 120], [111, 117, 116], [105, 110]] from rfl]
  exact mem_lst s _
theorem isTag_iff (s : ByteArray) : isTag s = true ↔ s.toList ∈ ([[116, 114, 101, 97, 116], [114, 97, 116, 101], [115, 117, 112, 112, 108, 121], [115, 97, 108, 101], [108, 97, 116, 101], [109, 105, 120, 101, 100]] : List (List UInt8)) := by
  unfold isTag
  rw [Lib.containsS_iff, show tagsL.take 6 = lst [[116, 114, 101, 97, 116], [114, 97, 116, 101], [115, 117, 112, 112, 108, 121], [115, 97, 108, 101], [108, 97, 116, 101], [109, 105, 120, 101, 100]] from rfl]
  exact mem_lst s _
theorem field_f (s : ByteArray) : ∃ v, octroiref25_Field.f 0 0 0 0 0 0 (⟨#[]⟩ : ByteArray) false 0 0 0 (⟨#[]⟩ : ByteArray) (⟨#[]⟩ : ByteArray) 0 0 0 false s = some (v, isField s) := by
  have hi := isField_iff s
  unfold octroiref25_Field.f
  by_cases h1 : s.toList = ([98, 97, 115, 101] : List UInt8)
  · rw [if_pos h1, hi.2 (by rw [h1]; decide)]; exact ⟨_, rfl⟩
  rw [if_neg h1]
  by_cases h2 : s.toList = ([116, 97, 120] : List UInt8)
  · rw [if_pos h2, hi.2 (by rw [h2]; decide)]; exact ⟨_, rfl⟩
  rw [if_neg h2]
  by_cases h3 : s.toList = ([111, 117, 116] : List UInt8)
  · rw [if_pos h3, hi.2 (by rw [h3]; decide)]; exact ⟨_, rfl⟩
  rw [if_neg h3]
  by_cases h4 : s.toList = ([105, 110] : List UInt8)
  · rw [if_pos h4, hi.2 (by rw [h4]; decide)]; exact ⟨_, rfl⟩
  rw [if_neg h4]
  have : isField s = false := by
    cases h : isField s with
    | false => rfl
    | true =>
      have := hi.1 h
      simp [h1, h2, h3, h4] at this
  rw [this]
  exact ⟨_, rfl⟩
theorem tag_f (s : ByteArray) : ∃ v, octroiref25_Tag.f 0 0 0 0 0 0 (⟨#[]⟩ : ByteArray) false 0 0 0 (⟨#[]⟩ : ByteArray) (⟨#[]⟩ : ByteArray) 0 0 0 false s = some (v, isTag s) := by
  have hi := isTag_iff s
  unfold octroiref25_Tag.f
  by_cases h1 : s.toList = ([116, 114, 101, 97, 116] : List UInt8)
  · rw [if_pos h1, hi.2 (by rw [h1]; decide)]; exact ⟨_, rfl⟩
  rw [if_neg h1]
  by_cases h2 : s.toList = ([114, 97, 116, 101] : List UInt8)
  · rw [if_pos h2, hi.2 (by rw [h2]; decide)]; exact ⟨_, rfl⟩
  rw [if_neg h2]
  by_cases h3 : s.toList = ([115, 117, 112, 112, 108, 121] : List UInt8)
  · rw [if_pos h3, hi.2 (by rw [h3]; decide)]; exact ⟨_, rfl⟩
  rw [if_neg h3]
  by_cases h4 : s.toList = ([115, 97, 108, 101] : List UInt8)
  · rw [if_pos h4, hi.2 (by rw [h4]; decide)]; exact ⟨_, rfl⟩
  rw [if_neg h4]
  by_cases h5 : s.toList = ([108, 97, 116, 101] : List UInt8)
  · rw [if_pos h5, hi.2 (by rw [h5]; decide)]; exact ⟨_, rfl⟩
  rw [if_neg h5]
  by_cases h6 : s.toList = ([109, 105, 120, 101, 100] : List UInt8)
  · rw [if_pos h6, hi.2 (by rw [h6]; decide)]; exact ⟨_, rfl⟩
  rw [if_neg h6]
  have : isTag s = false := by
    cases h : isTag s with
    | false => rfl
    | true =>
      have := hi.1 h
      simp [h1, h2, h3, h4, h5, h6] at this
  rw [this]
  exact ⟨_, rfl⟩
def NamesR (x : S33) : Prop := ∃ a, octroiref33_Names.f a x.f0 x.f1 x.f2 x.f3 x.f4 = some (namesB x)
theorem namesf_up {x : S33} {r : Bool} {a k : Nat} (h : octroiref33_Names.f a x.f0 x.f1 x.f2 x.f3 x.f4 = some r) (hk : a ≤ k) : octroiref33_Names.f k x.f0 x.f1 x.f2 x.f3 x.f4 = some r := up (fun k => octroiref33_Names.mono _ _ _ _ _ k) h hk
theorem names1_up {i e0 e1 : Int} {e2 : ByteArray} {e3 : List S62} {e4 : List S33} {r : Bool} {a k : Nat} (h : octroiref33_Names.l1 a i e0 e1 e2 e3 e4 = some r) (hk : a ≤ k) : octroiref33_Names.l1 k i e0 e1 e2 e3 e4 = some r := up (fun k => (octroiref33_Names.mono_l k).2.2 _ _ _ _ _ _) h hk
theorem names_fs (e0 e1 : Int) (e2 : ByteArray) (fs : List S62) (hl : fs.length ≤ 140737488351232) (ks : List S33) : ∀ (q i : Nat) (ok : Bool), i + q = fs.length → octroiref33_Names.l0 (q + 1) ok (i : Int) e0 e1 e2 fs ks = some (ok && !(fs.drop i).any (fun f => !isTag f.f0))
  | 0, i, ok, h => by
    rw [octroiref33_Names.l0, if_neg (by omega), List.drop_eq_nil_of_le (by omega)]
    simp
  | q + 1, i, ok, h => by
    have hi : i < fs.length := by omega
    obtain ⟨v, hv⟩ := tag_f fs[i].f0
    have hd : (fs.drop i).any (fun f => !isTag f.f0) = (!isTag fs[i].f0 || (fs.drop (i + 1)).any (fun f => !isTag f.f0)) := by rw [List.drop_eq_getElem_cons hi, List.any_cons]
    rw [octroiref33_Names.l0, if_pos (by omega), if_pos (by omega), rd64 fs i hi, hv, Option.bind_some, hd, wrapF i (by omega)]
    dsimp only
    rw [names_fs e0 e1 e2 fs hl ks q (i + 1) _ (by omega), names_fs e0 e1 e2 fs hl ks q (i + 1) _ (by omega)]
    cases ok <;> cases isTag fs[i].f0 <;> simp
theorem names_kids (e0 e1 : Int) (e2 : ByteArray) (e3 : List S62) (l : List S33) (hl : l.length ≤ 140737488351232) (hx : ∀ x ∈ l, NamesR x) : ∀ (q i : Nat), i + q = l.length → ∃ a, octroiref33_Names.l1 a (i : Int) e0 e1 e2 e3 l = some (namesL (l.drop i))
  | 0, i, h => ⟨1, by rw [octroiref33_Names.l1, if_neg (by omega), List.drop_eq_nil_of_le (by omega), namesL]⟩
  | q + 1, i, h => by
    have hi : i < l.length := by omega
    have hy : l.getD i z33 ∈ l := by rw [List.getD_eq_getElem?_getD, List.getElem?_eq_getElem hi]; exact List.getElem_mem hi
    obtain ⟨a1, h1⟩ := hx _ hy
    obtain ⟨a2, h2⟩ := names_kids e0 e1 e2 e3 l hl hx q (i + 1) (by omega)
    rw [drop_d l i hi z33, namesL]
    refine ⟨max a1 a2 + 1, ?_⟩
    rw [octroiref33_Names.l1, if_pos (by omega), if_pos (by omega), rd41, namesf_up h1 (Nat.le_max_left _ _), Option.bind_some]
    cases namesB (l.getD i z33) with
    | true => rw [if_pos rfl, wrapF i (by omega), Bool.true_and]; exact names1_up h2 (Nat.le_max_right _ _)
    | false => rw [if_neg (by decide)]; rfl
theorem namesr_n : ∀ (n : Nat) (x : S33), SizeOf.sizeOf x < n → Fit x → NamesR x
  | 0, x, h, _ => by omega
  | n + 1, x, h, hf => by
    have hE : namesB x = if x.f0 = 3 then isField x.f2 && !x.f3.any (fun f => !isTag f.f0) else namesL x.f4 := by obtain ⟨_, _, _, _, _⟩ := x; rw [namesB]
    unfold NamesR
    rw [hE]
    by_cases h3 : x.f0 = 3
    · rw [if_pos h3]
      obtain ⟨v, hv⟩ := field_f x.f2
      have h0 := names_fs x.f0 x.f1 x.f2 x.f3 hf.kids.1 x.f4 x.f3.length 0 (isField x.f2) (by omega)
      rw [show ((0 : Nat) : Int) = 0 from rfl, List.drop_zero] at h0
      exact ⟨x.f3.length + 2, by rw [octroiref33_Names.f, if_pos h3, hv, Option.bind_some]; exact h0⟩
    · rw [if_neg h3]
      obtain ⟨a, ha⟩ := names_kids x.f0 x.f1 x.f2 x.f3 x.f4 hf.kids.2.1 (fun y hy => namesr_n n y (by have := kid_lt hy; omega) (hf.kids.2.2 y hy)) x.f4.length 0 (by omega)
      rw [show ((0 : Nat) : Int) = 0 from rfl, List.drop_zero] at ha
      exact ⟨a + 1, by rw [octroiref33_Names.f, if_neg h3]; exact ha⟩
theorem names_r (x : S33) (hf : Fit x) : NamesR x := namesr_n (SizeOf.sizeOf x + 1) x (Nat.lt_succ_self _) hf
/-! ### Needs -/
theorem need0_up {l : List S35} {r o : List Int} {i : Int} {z : List Int} {a k : Nat} (h : octroiref33_Needs.l0 a l r o i = some z) (hk : a ≤ k) : octroiref33_Needs.l0 k l r o i = some z := up (fun k => (octroiref33_Needs.mono_l k).1 _ _ _ _) h hk
theorem need_rest (l : List S35) (r : List Int) (hr : r.length ≤ 1000000) (i : Nat) (hi : i < l.length) (hl : l.length ≤ 1000) : ∀ (q j : Nat) (o z : List Int) (a : Nat), j + q = r.length → l[i].f0 ∉ r.drop j → octroiref33_Needs.l0 a l r o ((i + 1 : Nat) : Int) = some z → ∃ a, octroiref33_Needs.l1 a l r o (i : Int) (j : Int) = some z
  | 0, j, o, z, a, h, hno, hz => ⟨a + 1, by rw [octroiref33_Needs.l1, if_neg (by omega), wrapF i (by omega)]; exact hz⟩
  | q + 1, j, o, z, a, h, hno, hz => by
    have hj : j < r.length := by omega
    rw [List.drop_eq_getElem_cons hj, List.mem_cons] at hno
    obtain ⟨a2, h2⟩ := need_rest l r hr i hi hl q (j + 1) o z a (by omega) (fun h => hno (.inr h)) hz
    exact ⟨a2 + 1, by rw [octroiref33_Needs.l1, if_pos (by omega), if_pos (by omega), if_pos (by omega), if_pos (by omega), rd43 l i hi, rd_at r j hj, if_neg (fun h => hno (.inl h)), wrapF j (by omega)]; exact h2⟩
theorem need_in (l : List S35) (r : List Int) (hr : r.length ≤ 1000000) (hnd : r.Pairwise (· < ·)) (i : Nat) (hi : i < l.length) (hl : l.length ≤ 1000) : ∀ (q j : Nat) (o z : List Int) (a : Nat), j + q = r.length → o.length ≤ 1000 → octroiref33_Needs.l0 a l r (o ++ if l[i].f0 ∈ r.drop j then [(i : Int)] else []) ((i + 1 : Nat) : Int) = some z → ∃ a, octroiref33_Needs.l1 a l r o (i : Int) (j : Int) = some z
  | 0, j, o, z, a, h, ho, hz => by
    rw [List.drop_eq_nil_of_le (by omega), if_neg (by simp), List.append_nil] at hz
    exact ⟨a + 1, by rw [octroiref33_Needs.l1, if_neg (by omega), wrapF i (by omega)]; exact hz⟩
  | q + 1, j, o, z, a, h, ho, hz => by
    have hj : j < r.length := by omega
    by_cases he : l[i].f0 = r[j]
    · have hno : l[i].f0 ∉ r.drop (j + 1) := fun hm => by
        obtain ⟨t, ht, e⟩ := List.getElem_of_mem hm
        rw [List.getElem_drop] at e
        have := List.pairwise_iff_getElem.1 hnd j (j + 1 + t) hj (by simp at ht; omega) (by omega)
        omega
      rw [if_pos (by rw [he, List.drop_eq_getElem_cons hj]; exact List.mem_cons_self)] at hz
      obtain ⟨a2, h2⟩ := need_rest l r hr i hi hl (q) (j + 1) (o ++ [(i : Int)]) z a (by omega) hno hz
      exact ⟨a2 + 1, by rw [octroiref33_Needs.l1, if_pos (by omega), if_pos (by omega), if_pos (by omega), if_pos (by omega), rd43 l i hi, rd_at r j hj, if_pos he, if_pos (by omega), wrapF j (by omega)]; exact h2⟩
    · have hd : (l[i].f0 ∈ r.drop j) = (l[i].f0 ∈ r.drop (j + 1)) := by
        rw [List.drop_eq_getElem_cons hj, List.mem_cons]
        simp [he]
      rw [show (if l[i].f0 ∈ r.drop j then [(i : Int)] else []) = if l[i].f0 ∈ r.drop (j + 1) then [(i : Int)] else [] by simp only [hd]] at hz
      obtain ⟨a2, h2⟩ := need_in l r hr hnd i hi hl q (j + 1) o z a (by omega) ho hz
      exact ⟨a2 + 1, by rw [octroiref33_Needs.l1, if_pos (by omega), if_pos (by omega), if_pos (by omega), if_pos (by omega), rd43 l i hi, rd_at r j hj, if_neg he, wrapF j (by omega)]; exact h2⟩
/-- The places whose number is named, from one on. -/
def needK (l : List S35) (r : List Int) : Nat → Nat → List Int
  | 0, _ => []
  | q + 1, i => (if (nums l).getD i 0 ∈ r then [(i : Int)] else []) ++ needK l r q (i + 1)
theorem needs_all (l : List S35) (r : List Int) (hr : r.length ≤ 1000000) (hnd : r.Pairwise (· < ·)) (hl : l.length ≤ 1000) : ∀ (q i : Nat) (o : List Int), i + q = l.length → o.length ≤ i → ∃ a, octroiref33_Needs.l0 a l r o (i : Int) = some (o ++ needK l r q i)
  | 0, i, o, h, _ => ⟨1, by rw [octroiref33_Needs.l0, if_neg (by omega), needK, List.append_nil]⟩
  | q + 1, i, o, h, ho => by
    have hi : i < l.length := by omega
    have hg : (nums l).getD i 0 = l[i].f0 := by unfold nums; rw [List.getD_eq_getElem?_getD, List.getElem?_map, List.getElem?_eq_getElem hi]; rfl
    have hlen : (o ++ if l[i].f0 ∈ r then [(i : Int)] else []).length ≤ i + 1 := by
      rw [List.length_append]
      have : (if l[i].f0 ∈ r then [(i : Int)] else []).length ≤ 1 := by split <;> simp
      omega
    obtain ⟨a, ha⟩ := needs_all l r hr hnd hl q (i + 1) (o ++ if l[i].f0 ∈ r then [(i : Int)] else []) (by omega) hlen
    obtain ⟨a2, h2⟩ := need_in l r hr hnd i hi hl r.length 0 o _ a (by omega) (by omega) (by rw [List.drop_zero]; exact ha)
    refine ⟨a2 + 1, ?_⟩
    rw [octroiref33_Needs.l0, if_pos (by omega), needK, hg, ← List.append_assoc]
    exact h2
end Go.Proofs.YtmkalnljclhigaaGreat.Ch

/-
  The reference's 'Needs', 'all', 'Order'.
-/
namespace Go.Proofs.YtmkalnljclhigaaGreat.Ch
set_option linter.unusedVariables false
set_option linter.unusedSimpArgs false
set_option linter.unnecessarySimpa false
open Go.RowKit Go.Maps Go.Proofs.YtmkalnljclhigaaGreatK Go.Proofs.YtmkalnljclhigaaGreat.XCheckerChecks Go.Proofs.YtmkalnljclhigaaGreatW.PrintWords Go.Proofs.YtmkalnljclhigaaGreatW.PrintLast

theorem tOf_get : ∀ (ns : List Int) (y : Int), y ∈ ns → ns.getD (tOf ns y).toNat 0 = y
  | [], y, h => by cases h
  | n :: ns, y, h => by
    rw [tOf]
    by_cases e : n = y
    · rw [if_pos e]; simpa using e
    · have hm : y ∈ ns := by
        rcases List.mem_cons.1 h with h | h
        · exact absurd h.symm e
        · exact h
      have h0 := tOf_nonneg ns y
      rw [if_neg e, if_pos hm, show (1 + tOf ns y).toNat = (tOf ns y).toNat + 1 by omega]
      simpa using tOf_get ns y hm
theorem tOf_at : ∀ (ns : List Int) (k : Nat), ns.Nodup → k < ns.length → tOf ns (ns.getD k 0) = k
  | [], k, _, h => by simp at h
  | n :: ns, 0, _, _ => by simp [tOf]
  | n :: ns, k + 1, hn, h => by
    rw [List.nodup_cons] at hn
    have hk : k < ns.length := by simpa using h
    have hg : (n :: ns).getD (k + 1) 0 = ns.getD k 0 := by simp
    have hm : ns.getD k 0 ∈ ns := by rw [List.getD_eq_getElem?_getD, List.getElem?_eq_getElem hk]; exact List.getElem_mem hk
    rw [hg, tOf, if_neg (fun e => hn.1 (by rw [e]; exact hm)), if_pos hm, tOf_at ns k hn.2 hk]
    omega
theorem needK_mem (l : List S35) (r : List Int) : ∀ (q i : Nat) (z : Int), z ∈ needK l r q i ↔ ∃ k : Nat, i ≤ k ∧ k < i + q ∧ (nums l).getD k 0 ∈ r ∧ z = k
  | 0, i, z => by
    rw [needK]
    exact ⟨fun h => (by cases h), fun ⟨k, h1, h2, _⟩ => by omega⟩
  | q + 1, i, z => by
    rw [needK, List.mem_append, needK_mem l r q (i + 1) z]
    constructor
    · rintro (h | ⟨k, h1, h2, h3, h4⟩)
      · split at h
        · rename_i hm
          exact ⟨i, Nat.le_refl _, by omega, hm, by simpa using h⟩
        · cases h
      · exact ⟨k, by omega, by omega, h3, h4⟩
    · rintro ⟨k, h1, h2, h3, h4⟩
      by_cases e : k = i
      · subst e
        exact .inl (by rw [if_pos h3]; simpa using h4)
      · exact .inr ⟨k, by omega, by omega, h3, h4⟩
theorem needK_rise (l : List S35) (r : List Int) : ∀ (q i : Nat), (needK l r q i).Pairwise (· < ·)
  | 0, i => by rw [needK]; exact List.Pairwise.nil
  | q + 1, i => by
    rw [needK]
    refine List.pairwise_append.2 ⟨by split <;> simp, needK_rise l r q (i + 1), fun a ha b hb => ?_⟩
    obtain ⟨k, h1, _, _, rfl⟩ := (needK_mem l r q (i + 1) b).1 hb
    split at ha
    · rw [List.mem_singleton] at ha; omega
    · cases ha
theorem nums_len (l : List S35) : (nums l).length = l.length := by simp [nums]
theorem needK_eq (l : List S35) (x : S35) (hnd : (nums l).Nodup) (hok : okN (nums l) x = true) : needK l (refsR x.f1) l.length 0 = needZ (nums l) x := by
  have hin : ∀ y ∈ refsR x.f1, y ∈ nums l := fun y hy => by
    have := List.all_eq_true.1 hok y hy
    unfold kOf at this
    exact of_decide_eq_true this
  have hinj : ((refsR x.f1).map (tOf (nums l))).Nodup := by
    have hp := refsR_rise x.f1
    rw [List.nodup_iff_pairwise_ne, List.pairwise_map]
    have : (refsR x.f1).Pairwise fun a b => a ∈ refsR x.f1 ∧ b ∈ refsR x.f1 ∧ a < b := by
      exact List.Pairwise.imp_of_mem (fun ha hb h => ⟨ha, hb, h⟩) hp
    refine this.imp (fun {a b} h e => ?_)
    obtain ⟨ha, hb, hlt⟩ := h
    have h1 := tOf_get _ _ (hin a ha)
    have h2 := tOf_get _ _ (hin b hb)
    rw [e, h2] at h1
    omega
  refine rise_ext _ _ (needK_rise _ _ _ _) (sortI_nodup hinj) (fun z => ?_)
  rw [needK_mem]
  unfold needZ
  rw [sortI_mem, List.mem_map]
  constructor
  · rintro ⟨k, _, h2, h3, rfl⟩
    exact ⟨_, h3, tOf_at _ _ hnd (by rw [nums_len]; omega)⟩
  · rintro ⟨y, hy, rfl⟩
    have h0 := tOf_nonneg (nums l) y
    have h1 := tOf_lt (nums l) y (hin y hy)
    rw [nums_len] at h1
    exact ⟨(tOf (nums l) y).toNat, Nat.zero_le _, by omega, by rw [tOf_get _ _ (hin y hy)]; exact hy, by omega⟩
theorem refsR_few {x : S33} (hp : parts x ≤ 400) : (refsR x).length ≤ 400 := by
  have h1 := (small_of x 400 hp (by omega)).2
  have h2 := refsR_le x
  omega
theorem needs_f (l : List S35) (hl : l.length ≤ 20) (hx : ∀ x ∈ l, Fit x.f1 ∧ Thin x.f1 ∧ parts x.f1 ≤ 400) (hnd : (nums l).Nodup) (hok : l.all (okN (nums l)) = true) (i : Nat) (hi : i < l.length) : ∃ a, octroiref33_Needs.f a l (i : Int) = some (needZ (nums l) l[i]) := by
  obtain ⟨h1, h2, h3⟩ := hx _ (List.getElem_mem hi)
  obtain ⟨a1, ha1⟩ := refs_f l[i].f1 h1 h2 h3
  have hr := refsR_few h3
  obtain ⟨a2, ha2⟩ := needs_all l (refsR l[i].f1) (by omega) (refsR_rise _) (by omega) l.length 0 [] (by omega) (by simp)
  rw [needK_eq l l[i] hnd (List.all_eq_true.1 hok _ (List.getElem_mem hi)), List.nil_append] at ha2
  refine ⟨max a1 a2, ?_⟩
  rw [octroiref33_Needs.f, if_pos (by omega), if_pos (by omega), rd43 l i hi, refs_up ha1 (Nat.le_max_left _ _), Option.bind_some]
  exact need0_up ha2 (Nat.le_max_right _ _)
theorem needsf_up {l : List S35} {i : Int} {z : List Int} {a k : Nat} (h : octroiref33_Needs.f a l i = some z) (hk : a ≤ k) : octroiref33_Needs.f k l i = some z := up (fun k => octroiref33_Needs.mono _ _ k) h hk
theorem all_l (zs : List Int) (ds : List Bool) (hzl : zs.length ≤ 1000000) (hz : ∀ z ∈ zs, 0 ≤ z ∧ z < ds.length) : ∀ (q i : Nat), i + q = zs.length → octroiref33_all.l0 (q + 1) zs ds (i : Int) = some (!(zs.drop i).any fun z => !ds.getD z.toNat false)
  | 0, i, h => by
    rw [octroiref33_all.l0, if_neg (by omega), List.drop_eq_nil_of_le (by omega)]
    rfl
  | q + 1, i, h => by
    have hi : i < zs.length := by omega
    obtain ⟨h1, h2⟩ := hz _ (List.getElem_mem hi)
    rw [octroiref33_all.l0, if_pos (by omega), if_pos (by omega), rd_at zs i hi, if_pos h1, if_pos h2, wrapF i (by omega), all_l zs ds hzl hz q (i + 1) (by omega), List.drop_eq_getElem_cons hi, List.any_cons]
    have hrd : rdOf false ds zs[i] = ds.getD zs[i].toNat false := rfl
    rw [hrd]
    cases ds.getD zs[i].toNat false with
    | true => rw [if_pos rfl]; simp
    | false => rw [if_neg (by decide)]; simp
theorem needZN (ns : List Int) (x : S35) (ds : List Bool) : (needZ ns x).any (fun z => !ds.getD z.toNat false) = lacks ds (needN ns x) := by
  unfold lacks needN
  rw [List.any_map]
  rfl
theorem all_f (ns : List Int) (x : S35) (ds : List Bool) (hl : (needZ ns x).length ≤ 1000000) (hlt : ∀ z ∈ needN ns x, z < ds.length) : octroiref33_all.f ((needZ ns x).length + 1) (needZ ns x) ds = some (!lacks ds (needN ns x)) := by
  have h := all_l (needZ ns x) ds hl (fun z hz => by
    have h0 := needZ_mem hz
    have := hlt z.toNat (List.mem_map.2 ⟨z, hz, rfl⟩)
    omega) (needZ ns x).length 0 (by omega)
  rw [List.drop_zero, needZN] at h
  exact h
theorem allf_up {zs : List Int} {ds : List Bool} {r : Bool} {a k : Nat} (h : octroiref33_all.f a zs ds = some r) (hk : a ≤ k) : octroiref33_all.f k zs ds = some r := up (fun k => octroiref33_all.mono _ _ k) h hk
end Go.Proofs.YtmkalnljclhigaaGreat.Ch

/-
  The reference's 'Order', 'Check'.
-/
namespace Go.Proofs.YtmkalnljclhigaaGreat.Ch
set_option linter.unusedVariables false
set_option linter.unusedSimpArgs false
set_option linter.unnecessarySimpa false
open Go.RowKit Go.Maps Go.Proofs.YtmkalnljclhigaaGreatK Go.Proofs.YtmkalnljclhigaaGreat.XCheckerChecks Go.Proofs.YtmkalnljclhigaaGreatW.PrintWords Go.Proofs.YtmkalnljclhigaaGreatW.PrintLast

theorem uniform {P : Nat → Nat → Prop} (hm : ∀ i a b, P i a → a ≤ b → P i b) : ∀ n, (∀ i, i < n → ∃ a, P i a) → ∃ A, ∀ i, i < n → P i A
  | 0, _ => ⟨0, fun i h => by omega⟩
  | n + 1, h => by
    obtain ⟨A, hA⟩ := uniform hm n (fun i hi => h i (by omega))
    obtain ⟨a, ha⟩ := h n (by omega)
    refine ⟨max A a, fun i hi => ?_⟩
    by_cases e : i = n
    · subst e; exact hm _ _ _ ha (Nat.le_max_right _ _)
    · exact hm _ _ _ (hA i (by omega)) (Nat.le_max_left _ _)
def ints (o : List Nat) : List Int := o.map fun n : Nat => (n : Int)
theorem ints_len (o : List Nat) : (ints o).length = o.length := by simp [ints]
theorem ints_snoc (o : List Nat) (i : Nat) : ints (o ++ [i]) = ints o ++ [(i : Int)] := by simp [ints]
theorem ord1_up {l : List S35} {ds : List Bool} {o z : List Int} {n x i : Int} {a k : Nat} (h : octroiref33_Order.l1 a l ds o n x i = some z) (hk : a ≤ k) : octroiref33_Order.l1 k l ds o n x i = some z := up (fun k => (octroiref33_Order.mono_l k).2.1 _ _ _ _ _ _) h hk
theorem ord_found (l : List S35) (ds : List Bool) (o : List Nat) (m i j : Nat) (hi : i < ds.length) (ho : o.length ≤ 1000) (z : List Int) (a : Nat) (hz : octroiref33_Order.l0 a l (ds.set i true) (ints (o ++ [i])) (wrap64 ((m : Int) + 1)) = some z) : ∃ a, octroiref33_Order.l1 a l ds (ints o) (m : Int) (i : Int) (j : Int) = some z := by
  refine ⟨a + 2, ?_⟩
  have hlen := ints_len o
  have hj : octroiref33_Order.j2 (a + 1) l ds (ints o) (m : Int) (i : Int) (j : Int) false = some z := by
    rw [octroiref33_Order.j2, if_neg (by decide), if_neg (by omega), if_pos (by omega), if_pos (by omega), if_pos (by omega), ← ints_snoc, Int.toNat_natCast]
    exact hz
  rw [octroiref33_Order.l1]
  split
  · rw [decide_eq_false (by omega)]; exact hj
  · exact hj
theorem ord_find (l : List S35) (hl : l.length ≤ 20) (A : Nat) (hA : ∀ i, (hi : i < l.length) → octroiref33_Needs.f A l (i : Int) = some (needZ (nums l) l[i])) (hzl : ∀ x ∈ l, (needZ (nums l) x).length ≤ 1000000) (hlt : ∀ x ∈ l, ∀ z ∈ needN (nums l) x, z < l.length) (ds : List Bool) (hds : ds.length = l.length) (o : List Nat) (ho : o.length ≤ 1000) (m : Nat) : ∀ (q i : Nat) (z : List Int), i + q = l.length → (match nextOf ds ((needsL l).drop i) i with | none => z = ints o | some k => ∃ a, octroiref33_Order.l0 a l (ds.set k true) (ints (o ++ [k])) (wrap64 ((m : Int) + 1)) = some z) → ∃ a, octroiref33_Order.l1 a l ds (ints o) (m : Int) (-1) (i : Int) = some z
  | 0, i, z, h, hz => by
    rw [List.drop_eq_nil_of_le (by unfold needsL; rw [List.length_map]; omega), nextOf] at hz
    refine ⟨2, ?_⟩
    rw [octroiref33_Order.l1, if_neg (by omega), octroiref33_Order.j2, if_neg (by decide), if_pos (by omega), hz]
  | q + 1, i, z, h, hz => by
    have hi : i < l.length := by omega
    have hin : i < (needsL l).length := by unfold needsL; rw [List.length_map]; omega
    have hg : (needsL l)[i] = needN (nums l) l[i] := by simp [needsL]
    rw [List.drop_eq_getElem_cons hin, nextOf, hg] at hz
    have hrd : rdOf false ds (i : Int) = ds.getD i false := by unfold rdOf; rw [Int.toNat_natCast]
    have hal := all_f (nums l) l[i] ds (hzl _ (List.getElem_mem hi)) (fun z hz => by rw [hds]; exact hlt _ (List.getElem_mem hi) z hz)
    have hnext : ∀ (hz : match nextOf ds ((needsL l).drop (i + 1)) (i + 1) with | none => z = ints o | some k => ∃ a, octroiref33_Order.l0 a l (ds.set k true) (ints (o ++ [k])) (wrap64 ((m : Int) + 1)) = some z), ∃ a, octroiref33_Order.l1 a l ds (ints o) (m : Int) (-1) ((i + 1 : Nat) : Int) = some z := fun hz => ord_find l hl A hA hzl hlt ds hds o ho m q (i + 1) z (by omega) hz
    unfold ready at hz
    cases hd : ds.getD i false with
    | true =>
      rw [hd, Bool.not_true, Bool.false_and, if_neg (by decide)] at hz
      obtain ⟨a, ha⟩ := hnext hz
      refine ⟨a + 2, ?_⟩
      rw [octroiref33_Order.l1, if_pos (by omega), decide_eq_true (by omega), octroiref33_Order.j2, if_pos rfl, if_pos (by omega), if_pos (by omega), hrd, hd, if_pos rfl, wrapF i (by omega)]
      exact ha
    | false =>
      rw [hd, Bool.not_false, Bool.true_and] at hz
      cases hk : lacks ds (needN (nums l) l[i]) with
      | true =>
        rw [hk, Bool.not_true, if_neg (by decide)] at hz
        rw [hk, Bool.not_true] at hal
        obtain ⟨a, ha⟩ := hnext hz
        refine ⟨max a (max A ((needZ (nums l) l[i]).length + 1)) + 2, ?_⟩
        rw [octroiref33_Order.l1, if_pos (by omega), decide_eq_true (by omega), octroiref33_Order.j2, if_pos rfl, if_pos (by omega), if_pos (by omega), hrd, hd, if_neg (by decide), needsf_up (hA i hi) (by omega), Option.bind_some, allf_up hal (by omega), Option.bind_some, if_neg (by decide), wrapF i (by omega)]
        exact ord1_up ha (by omega)
      | false =>
        rw [hk, Bool.not_false, if_pos rfl] at hz
        rw [hk, Bool.not_false] at hal
        obtain ⟨a0, ha0⟩ := hz
        obtain ⟨a, ha⟩ := ord_found l ds o m i (i + 1) (by omega) ho z a0 ha0
        refine ⟨max a (max A ((needZ (nums l) l[i]).length + 1)) + 2, ?_⟩
        rw [octroiref33_Order.l1, if_pos (by omega), decide_eq_true (by omega), octroiref33_Order.j2, if_pos rfl, if_pos (by omega), if_pos (by omega), hrd, hd, if_neg (by decide), needsf_up (hA i hi) (by omega), Option.bind_some, allf_up hal (by omega), Option.bind_some, if_pos rfl, wrapF i (by omega)]
        exact ord1_up ha (by omega)
def ordF (ns : List (List Nat)) : Nat → List Bool → List Nat → List Nat
  | 0, _, o => o
  | f + 1, ds, o => match nextOf ds ns 0 with
    | none => o
    | some i => ordF ns f (ds.set i true) (o ++ [i])
theorem ordF_len (ns : List (List Nat)) : ∀ (f : Nat) (ds : List Bool) (o : List Nat), (ordF ns f ds o).length ≤ o.length + f
  | 0, ds, o => by rw [ordF]; omega
  | f + 1, ds, o => by
    rw [ordF]
    split
    · omega
    · rename_i i _
      have := ordF_len ns f (ds.set i true) (o ++ [i])
      rw [List.length_append, List.length_singleton] at this
      omega
theorem ord_arr (ns : List (List Nat)) : ∀ (f : Nat) (ds : List Bool) (o : List Nat), o.length + f = ns.length → arrF ns (f + 1) ds o = if (ordF ns f ds o).length = ns.length then some (ordF ns f ds o) else none
  | 0, ds, o, h => by
    rw [arrF, if_neg (by omega), ordF, if_pos (by omega)]
  | f + 1, ds, o, h => by
    rw [arrF, if_pos (by omega), ordF]
    cases hn : nextOf ds ns 0 with
    | none => dsimp only; rw [if_neg (by omega)]
    | some i => dsimp only; exact ord_arr ns f (ds.set i true) (o ++ [i]) (by simp; omega)
theorem ord_loop (l : List S35) (hl : l.length ≤ 20) (A : Nat) (hA : ∀ i, (hi : i < l.length) → octroiref33_Needs.f A l (i : Int) = some (needZ (nums l) l[i])) (hzl : ∀ x ∈ l, (needZ (nums l) x).length ≤ 1000000) (hlt : ∀ x ∈ l, ∀ z ∈ needN (nums l) x, z < l.length) : ∀ (f : Nat) (ds : List Bool) (o : List Nat), ds.length = l.length → o.length + f = l.length → ∃ a, octroiref33_Order.l0 a l ds (ints o) ((o.length : Nat) : Int) = some (ints (ordF (needsL l) f ds o))
  | 0, ds, o, hds, h => ⟨1, by rw [octroiref33_Order.l0, if_neg (by omega), ordF]⟩
  | f + 1, ds, o, hds, h => by
    have hw : wrap64 (((o.length : Nat) : Int) + 1) = (((o.length + 1 : Nat)) : Int) := wrapF _ (by omega)
    obtain ⟨a, ha⟩ := ord_find l hl A hA hzl hlt ds hds o (by omega) o.length l.length 0 (ints (ordF (needsL l) (f + 1) ds o)) (by omega) (by
      rw [List.drop_zero, ordF]
      cases hn : nextOf ds (needsL l) 0 with
      | none => rfl
      | some i =>
        dsimp only
        obtain ⟨a, ha⟩ := ord_loop l hl A hA hzl hlt f (ds.set i true) (o ++ [i]) (by rw [List.length_set]; exact hds) (by simp; omega)
        refine ⟨a, ?_⟩
        rw [hw]
        rw [List.length_append, List.length_singleton] at ha
        exact ha)
    exact ⟨a + 1, by rw [octroiref33_Order.l0, if_pos (by omega)]; exact ha⟩
/-- What holds of a program whose boxes are told apart and known. -/
structure Known (l : List S35) : Prop where
  few : l.length ≤ 20
  each : ∀ x ∈ l, Fit x.f1 ∧ Thin x.f1 ∧ parts x.f1 ≤ 400
  nodup : (nums l).Nodup
  ok : l.all (okN (nums l)) = true
theorem order_f (l : List S35) (h : Known l) : ∃ a o, octroiref33_Order.f a l = some (ints o) ∧ arr (needsL l) = (if o.length = l.length then some o else none) ∧ o.length ≤ l.length := by
  obtain ⟨A, hA⟩ := uniform (P := fun i a => (hi : i < l.length) → octroiref33_Needs.f a l (i : Int) = some (needZ (nums l) l[i])) (fun i a b hp hab hi => needsf_up (hp hi) hab) l.length (fun i hi => by
    obtain ⟨a, ha⟩ := needs_f l h.few h.each h.nodup h.ok i hi
    exact ⟨a, fun _ => ha⟩)
  have hnl : (needsL l).length = l.length := by unfold needsL; rw [List.length_map]
  have hzl : ∀ x ∈ l, (needZ (nums l) x).length ≤ 1000000 := fun x hx => by
    have h1 := refsR_few (h.each x hx).2.2
    have h2 : (needZ (nums l) x).length = (refsR x.f1).length := by unfold needZ; rw [sortI_len, List.length_map]
    omega
  have hlt : ∀ x ∈ l, ∀ z ∈ needN (nums l) x, z < l.length := fun x hx z hz => by
    have := needN_lt (List.all_eq_true.1 h.ok x hx) hz
    rwa [nums_len] at this
  obtain ⟨a, ha⟩ := ord_loop l h.few A (fun i hi => hA i hi hi) hzl hlt l.length (List.replicate l.length false) [] (by simp) (by simp)
  refine ⟨a, ordF (needsL l) l.length (List.replicate l.length false) [], ?_, ?_, by have := ordF_len (needsL l) l.length (List.replicate l.length false) []; simpa using this⟩
  · rw [octroiref33_Order.f, if_pos (by omega), if_pos (by rw [Int.toNat_natCast]; have := h.few; omega), Int.toNat_natCast]
    exact ha
  · unfold arr
    have := ord_arr (needsL l) l.length (List.replicate l.length false) [] (by simp [hnl])
    rw [hnl] at this ⊢
    exact this
end Go.Proofs.YtmkalnljclhigaaGreat.Ch

/-
  The reference's 'Check' is the program's.
-/
namespace Go.Proofs.YtmkalnljclhigaaGreat.Ch
set_option linter.unusedVariables false
set_option linter.unusedSimpArgs false
set_option linter.unnecessarySimpa false
open Go.RowKit Go.Maps Go.Proofs.YtmkalnljclhigaaGreatK Go.Proofs.YtmkalnljclhigaaGreat.XCheckerChecks Go.Proofs.YtmkalnljclhigaaGreatW.PrintWords Go.Proofs.YtmkalnljclhigaaGreatW.PrintLast

theorem chk2_up {l : List S35} {i j z : Int} {r : List Int} {a k : Nat} (h : octroiref33_Check.l2 a l i r j = some z) (hk : a ≤ k) : octroiref33_Check.l2 k l i r j = some z := up (fun k => (octroiref33_Check.mono_l k).2.2.1 _ _ _ _) h hk
theorem chk0_up {l : List S35} {i z : Int} {a k : Nat} (h : octroiref33_Check.l0 a l i = some z) (hk : a ≤ k) : octroiref33_Check.l0 k l i = some z := up (fun k => (octroiref33_Check.mono_l k).1 _ _) h hk
theorem chk3_up {l : List S35} {i z : Int} {a k : Nat} (h : octroiref33_Check.l3 a l i = some z) (hk : a ≤ k) : octroiref33_Check.l3 k l i = some z := up (fun k => (octroiref33_Check.mono_l k).2.2.2 _ _) h hk
theorem findB_neg (ns : List Int) (n : Int) : (findB ns n < 0 ↔ n ∉ ns) := by
  unfold findB
  have := tOf_nonneg ns n
  split
  · rename_i h; exact ⟨fun h2 => by omega, fun h2 => absurd h h2⟩
  · rename_i h; exact ⟨fun _ => h, fun _ => by omega⟩
theorem kOf_find (ns : List Int) (n : Int) : kOf ns n = decide (0 ≤ findB ns n) := by
  have := findB_neg ns n
  unfold kOf
  rw [decide_eq_decide]
  constructor
  · intro h; exact Int.not_lt.1 (fun h2 => this.1 h2 h)
  · intro h
    by_cases h2 : n ∈ ns
    · exact h2
    · exact absurd (this.2 h2) (by omega)
theorem getD_nums (l : List S35) (i : Nat) (h : i < l.length) : (nums l).getD i 0 = l[i].f0 := by unfold nums; rw [List.getD_eq_getElem?_getD, List.getElem?_map, List.getElem?_eq_getElem h]; rfl
theorem findB_at (l : List S35) (hnd : (nums l).Nodup) (i : Nat) (h : i < l.length) : findB (nums l) l[i].f0 = i := by
  have h1 := tOf_at (nums l) i hnd (by rw [nums_len]; exact h)
  rw [getD_nums l i h] at h1
  unfold findB
  rw [if_pos (by unfold nums; exact List.mem_map.2 ⟨_, List.getElem_mem h, rfl⟩), h1]
theorem nodup_of (l : List S35) (h : ∀ i, (hi : i < l.length) → findB (nums l) l[i].f0 = i) : (nums l).Nodup := by
  rw [List.nodup_iff_pairwise_ne]
  refine List.pairwise_iff_getElem.2 (fun i j hi hj hij e => ?_)
  rw [nums_len] at hi hj
  have h1 := h i hi
  have h2 := h j hj
  have e2 : l[i].f0 = l[j].f0 := by simpa [nums] using e
  rw [e2, h2] at h1
  omega
theorem chk_0 (l : List S35) (hl : l.length ≤ 20) : ∀ (q i : Nat) (z : Int), i + q = l.length → (∀ j, j < i → (hj : j < l.length) → findB (nums l) l[j].f0 = j) → ((nums l).Nodup → ∃ a, octroiref33_Check.l1 a l 0 = some z) → (¬ (nums l).Nodup → z = 51) → ∃ a, octroiref33_Check.l0 a l (i : Int) = some z
  | 0, i, z, h, hlo, hy, hn => by
    obtain ⟨a, ha⟩ := hy (nodup_of l (fun j hj => hlo j (by omega) hj))
    exact ⟨a + 1, by rw [octroiref33_Check.l0, if_neg (by omega)]; exact ha⟩
  | q + 1, i, z, h, hlo, hy, hn => by
    have hi : i < l.length := by omega
    have hf := find_f l (by omega) l[i].f0
    by_cases he : findB (nums l) l[i].f0 = i
    · obtain ⟨a, ha⟩ := chk_0 l hl q (i + 1) z (by omega) (fun j hj hjl => by
        by_cases e : j = i
        · subst e; exact he
        · exact hlo j (by omega) hjl) hy hn
      refine ⟨max a (l.length + 1) + 1, ?_⟩
      rw [octroiref33_Check.l0, if_pos (by omega), if_pos (by omega), rd43 l i hi, find_up hf (Nat.le_max_right _ _), Option.bind_some, if_pos he, wrapF i (by omega)]
      exact chk0_up ha (Nat.le_max_left _ _)
    · refine ⟨l.length + 2, ?_⟩
      rw [octroiref33_Check.l0, if_pos (by omega), if_pos (by omega), rd43 l i hi, hf, Option.bind_some, if_neg he, hn (fun hnd => he (findB_at l hnd i hi))]
theorem chk_2 (l : List S35) (hl : l.length ≤ 20) (i : Nat) (r : List Int) (hr : r.length ≤ 1000) (hi : i < l.length) : ∀ (q j : Nat) (z : Int), j + q = r.length → ((r.drop j).all (kOf (nums l)) = true → ∃ a, octroiref33_Check.l1 a l ((i + 1 : Nat) : Int) = some z) → ((r.drop j).all (kOf (nums l)) = false → z = 83) → ∃ a, octroiref33_Check.l2 a l (i : Int) r (j : Int) = some z
  | 0, j, z, h, hy, hn => by
    obtain ⟨a, ha⟩ := hy (by rw [List.drop_eq_nil_of_le (by omega)]; rfl)
    exact ⟨a + 1, by rw [octroiref33_Check.l2, if_neg (by omega), wrapF i (by omega)]; exact ha⟩
  | q + 1, j, z, h, hy, hn => by
    have hj : j < r.length := by omega
    have hf := find_f l (by omega) r[j]
    have hd : (r.drop j).all (kOf (nums l)) = (kOf (nums l) r[j] && (r.drop (j + 1)).all (kOf (nums l))) := by rw [List.drop_eq_getElem_cons hj, List.all_cons]
    rw [hd] at hy hn
    have hk := kOf_find (nums l) r[j]
    by_cases hneg : findB (nums l) r[j] < 0
    · rw [decide_eq_false (by omega)] at hk
      refine ⟨l.length + 2, ?_⟩
      rw [octroiref33_Check.l2, if_pos (by omega), if_pos (by omega), rd_at r j hj, hf, Option.bind_some, if_pos hneg, hn (by rw [hk]; rfl)]
    · rw [decide_eq_true (by omega)] at hk
      rw [hk, Bool.true_and] at hy hn
      obtain ⟨a, ha⟩ := chk_2 l hl i r hr hi q (j + 1) z (by omega) hy hn
      refine ⟨max a (l.length + 1) + 1, ?_⟩
      rw [octroiref33_Check.l2, if_pos (by omega), if_pos (by omega), rd_at r j hj, find_up hf (Nat.le_max_right _ _), Option.bind_some, if_neg hneg, wrapF j (by omega)]
      exact chk2_up ha (Nat.le_max_left _ _)
theorem chk_1 (l : List S35) (hl : l.length ≤ 20) (hx : ∀ x ∈ l, Fit x.f1 ∧ Thin x.f1 ∧ parts x.f1 ≤ 400) : ∀ (q i : Nat) (z : Int), i + q = l.length → ((l.drop i).all (okN (nums l)) = true → ∃ a, octroiref33_Check.l3 a l 0 = some z) → ((l.drop i).all (okN (nums l)) = false → z = 83) → ∃ a, octroiref33_Check.l1 a l (i : Int) = some z
  | 0, i, z, h, hy, hn => by
    obtain ⟨a, ha⟩ := hy (by rw [List.drop_eq_nil_of_le (by omega)]; rfl)
    exact ⟨a + 1, by rw [octroiref33_Check.l1, if_neg (by omega)]; exact ha⟩
  | q + 1, i, z, h, hy, hn => by
    have hi : i < l.length := by omega
    obtain ⟨h1, h2, h3⟩ := hx _ (List.getElem_mem hi)
    obtain ⟨a1, ha1⟩ := refs_f l[i].f1 h1 h2 h3
    have hr := refsR_few h3
    have hd : (l.drop i).all (okN (nums l)) = (okN (nums l) l[i] && (l.drop (i + 1)).all (okN (nums l))) := by rw [List.drop_eq_getElem_cons hi, List.all_cons]
    rw [hd] at hy hn
    obtain ⟨a2, ha2⟩ := chk_2 l hl i (refsR l[i].f1) (by omega) hi (refsR l[i].f1).length 0 z (by omega)
      (fun h0 => by
        rw [List.drop_zero] at h0
        have ho : okN (nums l) l[i] = true := h0
        rw [ho, Bool.true_and] at hy hn
        exact chk_1 l hl hx q (i + 1) z (by omega) hy hn)
      (fun h0 => by
        rw [List.drop_zero] at h0
        have ho : okN (nums l) l[i] = false := h0
        exact hn (by rw [ho]; rfl))
    refine ⟨max a1 a2 + 1, ?_⟩
    rw [octroiref33_Check.l1, if_pos (by omega), if_pos (by omega), rd43 l i hi, refs_up ha1 (Nat.le_max_left _ _), Option.bind_some]
    exact chk2_up ha2 (Nat.le_max_right _ _)
theorem chk_3 (l : List S35) (hl : l.length ≤ 20) (hx : ∀ x ∈ l, Fit x.f1 ∧ Thin x.f1 ∧ parts x.f1 ≤ 400) (t : List Int) (b : Nat) (ho : octroiref33_Order.f b l = some t) : ∀ (q i : Nat) (z : Int), i + q = l.length → ((l.drop i).any (fun b => !namesB b.f1) = false → z = if (t.length : Int) < (l.length : Int) then 84 else 0) → ((l.drop i).any (fun b => !namesB b.f1) = true → z = 80) → ∃ a, octroiref33_Check.l3 a l (i : Int) = some z
  | 0, i, z, h, hy, hn => by
    refine ⟨b + 1, ?_⟩
    rw [octroiref33_Check.l3, if_neg (by omega), ho, Option.bind_some, hy (by rw [List.drop_eq_nil_of_le (by omega)]; rfl)]
    split <;> rfl
  | q + 1, i, z, h, hy, hn => by
    have hi : i < l.length := by omega
    obtain ⟨a1, ha1⟩ := names_r l[i].f1 (hx _ (List.getElem_mem hi)).1
    have hd : (l.drop i).any (fun b => !namesB b.f1) = (!namesB l[i].f1 || (l.drop (i + 1)).any (fun b => !namesB b.f1)) := by rw [List.drop_eq_getElem_cons hi, List.any_cons]
    rw [hd] at hy hn
    cases hb : namesB l[i].f1 with
    | false =>
      rw [hb] at hn ha1
      refine ⟨a1 + 1, ?_⟩
      rw [octroiref33_Check.l3, if_pos (by omega), if_pos (by omega), rd43 l i hi, ha1, Option.bind_some, if_neg (by decide), hn (by simp)]
    | true =>
      rw [hb, Bool.not_true, Bool.false_or] at hy hn
      rw [hb] at ha1
      obtain ⟨a2, ha2⟩ := chk_3 l hl hx t b ho q (i + 1) z (by omega) hy hn
      refine ⟨max a1 a2 + 1, ?_⟩
      rw [octroiref33_Check.l3, if_pos (by omega), if_pos (by omega), rd43 l i hi, namesf_up ha1 (Nat.le_max_left _ _), Option.bind_some, if_pos rfl, wrapF i (by omega)]
      exact chk3_up ha2 (Nat.le_max_right _ _)
theorem check_f (l : List S35) (hl : l.length ≤ 20) (hx : ∀ x ∈ l, Fit x.f1 ∧ Thin x.f1 ∧ parts x.f1 ≤ 400) : ∃ a, octroiref33_Check.f a l = some (checkE l) := by
  obtain ⟨a1, h1⟩ := goodL_f l (by omega) (fun x h => ⟨(hx x h).1, (hx x h).2.1⟩)
  cases hg : goodL l with
  | false =>
    rw [hg] at h1
    refine ⟨a1, ?_⟩
    unfold checkE
    rw [octroiref33_Check.f, h1, Option.bind_some, if_neg (by decide), if_pos hg]
  | true =>
    rw [hg] at h1
    have hE : checkE l = if ¬ (nums l).Nodup then 51 else if l.all (okN (nums l)) = false then 83 else if l.any (fun b => !namesB b.f1) = true then 80 else if arr (needsL l) = none then 84 else 0 := by unfold checkE; rw [if_neg (by rw [hg]; decide)]
    obtain ⟨a2, h2⟩ := chk_0 l hl l.length 0 (checkE l) (by omega) (fun j hj => by omega)
      (fun hnd => chk_1 l hl hx l.length 0 (checkE l) (by omega)
        (fun hok => by
          rw [List.drop_zero] at hok
          obtain ⟨b, o, ho, harr, holen⟩ := order_f l ⟨hl, hx, hnd, hok⟩
          refine chk_3 l hl hx (ints o) b ho l.length 0 (checkE l) (by omega) (fun hnm => ?_) (fun hnm => ?_)
          · rw [List.drop_zero] at hnm
            rw [hE, if_neg (fun h => h hnd), if_neg (by rw [hok]; decide), if_neg (by rw [hnm]; decide), harr, ints_len]
            by_cases e : o.length = l.length
            · rw [if_pos e, if_neg (by simp), if_neg (by omega)]
            · rw [if_neg e, if_pos rfl, if_pos (by omega)]
          · rw [List.drop_zero] at hnm
            rw [hE, if_neg (fun h => h hnd), if_neg (by rw [hok]; decide), if_pos hnm])
        (fun hok => by
          rw [List.drop_zero] at hok
          rw [hE, if_neg (fun h => h hnd), if_pos hok]))
      (fun hnd => by rw [hE, if_pos hnd])
    refine ⟨max a1 a2, ?_⟩
    rw [octroiref33_Check.f, up (fun k => octroiref31_Good.mono _ k) h1 (Nat.le_max_left _ _), Option.bind_some, if_pos rfl]
    exact chk0_up h2 (Nat.le_max_right _ _)
end Go.Proofs.YtmkalnljclhigaaGreat.Ch
