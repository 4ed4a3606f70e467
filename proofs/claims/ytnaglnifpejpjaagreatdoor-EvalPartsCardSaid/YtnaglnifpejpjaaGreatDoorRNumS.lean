/-
  The digits of octroiref01: Sum and Sub are exact, or refused.
-/
import Derived.Test.YtnaglnifpejpjaaGreatDoorRXEvalRunsx15
import Derived.Test.YtnaglnifpejpjaaGreatDoorRXEvalRunsx13
import Derived.Test.YtnaglnifpejpjaaGreatDoorRMA
namespace Go.Proofs.YtnaglnifpejpjaaGreatDoor.Num
open Go.RowKit Go.Proofs.YtnaglnifpejpjaaGreatDoor.XEvalRuns Go.Proofs.YtnaglnifpejpjaaGreatDoorW.PrintWords Go.Proofs.YtnaglnifpejpjaaGreatDoorW.PrintLast
set_option linter.unusedVariables false
set_option linter.unusedSimpArgs false
set_option linter.unnecessarySimpa false
/-! The digits of octroiref01: base 2^31, the lowest first. (A fragment: pasted where the printed functions are open.) -/
def val : List Int → Int
 | [] => 0
 | d :: l => d + 2147483648 * val l
def Dig (l : List Int) : Prop := ∀ d, d ∈ l → 0 ≤ d ∧ d < 2147483648
/-- No zero at the top. -/
def Norm (l : List Int) : Prop := ∀ d, l.getLast? = some d → d ≠ 0
theorem val_nonneg : ∀ (l : List Int), Dig l → 0 ≤ val l
 | [], _ => Int.le_refl _
 | d :: l, h => by
   have h1 := val_nonneg l (fun x hx => h x (List.mem_cons_of_mem _ hx))
   have h2 := h d (List.mem_cons_self ..)
   simp only [val]
   omega
theorem val_append : ∀ (l m : List Int), val (l ++ m) = val l + 2147483648 ^ l.length * val m
 | [], m => by simp [val]
 | d :: l, m => by
   rw [List.cons_append, val, val_append l m, val, List.length_cons, Int.pow_succ]
   rw [Int.mul_add, Int.add_assoc, Int.mul_comm (2147483648 ^ l.length) 2147483648, Int.mul_assoc]
def digsF : Nat → Nat → List Int
 | 0, _ => []
 | f + 1, n => if n = 0 then [] else ((n % 2147483648 : Nat) : Int) :: digsF f (n / 2147483648)
theorem digsF_val : ∀ (f n : Nat), n < 2147483648 ^ f → val (digsF f n) = (n : Int)
 | 0, n, h => by simp at h; subst h; rfl
 | f + 1, n, h => by
   unfold digsF
   split
   ·rename_i h0; subst h0; rfl
   ·rw [val, digsF_val f (n / 2147483648) (by rw [Nat.pow_succ] at h; exact Nat.div_lt_of_lt_mul (by rw [Nat.mul_comm]; exact h))]
    omega
theorem digsF_dig : ∀ (f n : Nat), Dig (digsF f n)
 | 0, _ => fun d h => by simp [digsF] at h
 | f + 1, n => by
   unfold digsF
   split
   ·intro d h; simp at h
   ·intro d h
    rcases List.mem_cons.1 h with rfl | h
    ·omega
    ·exact digsF_dig f _ d h
theorem Norm.cons {d : Int} {l : List Int} (h : Norm l) (hd : l = [] → d ≠ 0) : Norm (d :: l) := by
 intro x hx
 cases l with
 | nil => simp at hx; subst hx; exact hd rfl
 | cons y l => exact h x (by rw [← hx, List.getLast?_cons_cons])
theorem Norm.nil : Norm [] := fun d h => by simp at h
theorem digsF_norm : ∀ (f n : Nat), n < 2147483648 ^ f → Norm (digsF f n)
 | 0, _, _ => Norm.nil
 | f + 1, n, h => by
   have hq : n / 2147483648 < 2147483648 ^ f := by rw [Nat.pow_succ] at h; exact Nat.div_lt_of_lt_mul (by rw [Nat.mul_comm]; exact h)
   unfold digsF
   split
   ·exact Norm.nil
   ·rename_i h0
    refine Norm.cons (digsF_norm f _ hq) (fun e => ?_)
    have hv := digsF_val f _ hq
    rw [e] at hv
    simp only [val] at hv
    omega
theorem tq (x : Int) : (0 ≤ x ∧ Int.tdiv x 2147483648 = x / 2147483648 ∧ Int.tmod x 2147483648 = x % 2147483648) ∨ (x < 0 ∧ Int.tdiv x 2147483648 = -((-x) / 2147483648) ∧ Int.tmod x 2147483648 = -((-x) % 2147483648)) := by
 by_cases h : 0 ≤ x
 ·exact Or.inl ⟨h, Int.tdiv_eq_ediv_of_nonneg h, Int.tmod_eq_emod_of_nonneg h⟩
 ·refine Or.inr ⟨by omega, ?_, ?_⟩
  ·have e : x = -(-x) := by omega
   rw [e, Int.neg_tdiv, Int.tdiv_eq_ediv_of_nonneg (by omega)]
   simp
  ·have e : x = -(-x) := by omega
   rw [e, Int.neg_tmod, Int.tmod_eq_emod_of_nonneg (by omega)]
   simp
theorem of_walk : ∀ (f n : Nat) (x : Int) (acc : List Int) (neg : Bool) (k : Nat), x.natAbs = n → n ≤ 9223372036854775808 → n < 2147483648 ^ f → acc.length + f < 17592186044416 → f + 1 ≤ k →
 octroiref01_Of.l0 k x acc neg = some (neg, acc ++ digsF f n)
 | 0, n, x, acc, neg, k, hx, hn, hf, ha, hk => by
   obtain ⟨k, rfl⟩ : ∃ q, k = q + 1 := ⟨k - 1, by omega⟩
   have h0 : x = 0 := by simp at hf; omega
   rw [octroiref01_Of.l0, if_pos h0]
   simp [digsF]
 | f + 1, n, x, acc, neg, k, hx, hn, hf, ha, hk => by
   obtain ⟨k, rfl⟩ : ∃ q, k = q + 1 := ⟨k - 1, by omega⟩
   rw [octroiref01_Of.l0]
   by_cases h0 : x = 0
   ·rw [if_pos h0]
    subst h0
    have : n = 0 := by omega
    subst this
    simp [digsF]
   ·rw [if_neg h0]
    have ht := tq x
    have hq : n / 2147483648 < 2147483648 ^ f := by rw [Nat.pow_succ] at hf; exact Nat.div_lt_of_lt_mul (by rw [Nat.mul_comm]; exact hf)
    have hd : (wrap64 (Int.tdiv x 2147483648)).natAbs = n / 2147483648 := by
     have e : wrap64 (Int.tdiv x 2147483648) = Int.tdiv x 2147483648 := by
      unfold wrap64
      omega
     rw [e]
     omega
    have hn0 : n ≠ 0 := by omega
    have e2 : digsF (f + 1) n = ((n % 2147483648 : Nat) : Int) :: digsF f (n / 2147483648) := by
     rw [digsF, if_neg hn0]
    rw [e2]
    by_cases hm : Int.tmod x 2147483648 < 0
    ·rw [if_pos hm, if_pos (by omega), of_walk f (n / 2147483648) _ _ neg k hd (by omega) hq (by simp only [List.length_append, List.length_cons, List.length_nil]; omega) (by omega)]
     have e3 : wrap64 (-(Int.tmod x 2147483648)) = ((n % 2147483648 : Nat) : Int) := by
      unfold wrap64
      omega
     rw [e3]
     simp
    ·rw [if_neg hm, if_pos (by omega), of_walk f (n / 2147483648) _ _ neg k hd (by omega) hq (by simp only [List.length_append, List.length_cons, List.length_nil]; omega) (by omega)]
     have e3 : Int.tmod x 2147483648 = ((n % 2147483648 : Nat) : Int) := by omega
     rw [e3]
     simp
theorem pow_pos' (i : Nat) : (1 : Int) ≤ 2147483648 ^ i := by
 induction i with
 | zero => simp
 | succ i ih => rw [Int.pow_succ]; omega
theorem val_lt : ∀ (l : List Int), Dig l → val l + 1 ≤ 2147483648 ^ l.length
 | [], _ => by simp [val]
 | d :: l, h => by
   have h1 := val_lt l (fun x hx => h x (List.mem_cons_of_mem _ hx))
   have h2 := h d (List.mem_cons_self ..)
   rw [val, List.length_cons, Int.pow_succ]
   omega
theorem Dig.take {l : List Int} (h : Dig l) (i : Nat) : Dig (l.take i) := fun d hd => h d (List.mem_of_mem_take hd)
theorem rd_nat (l : List Int) (i : Nat) : rd l (i : Int) = l.getD i 0 := by unfold rd; rw [Int.toNat_natCast]
theorem take_snoc (l : List Int) (i : Nat) (h : i < l.length) : l.take (i + 1) = l.take i ++ [l.getD i 0] := by
 rw [List.take_add_one, List.getD_eq_getElem?_getD, List.getElem?_eq_getElem h]
 simp
theorem val_snoc (l : List Int) (i : Nat) (h : i < l.length) : val (l.take (i + 1)) = val (l.take i) + 2147483648 ^ i * l.getD i 0 := by
 rw [take_snoc l i h, val_append, List.length_take, Nat.min_eq_left (by omega)]
 simp [val]
theorem dig_get {l : List Int} (h : Dig l) (i : Nat) : 0 ≤ l.getD i 0 ∧ l.getD i 0 < 2147483648 := by
 by_cases hi : i < l.length
 ·rw [List.getD_eq_getElem?_getD, List.getElem?_eq_getElem hi]
  exact h _ (List.getElem_mem hi)
 ·rw [List.getD_eq_getElem?_getD, List.getElem?_eq_none (by omega)]
  simp
/-- What cmp says of two numbers. -/
def CmpS (c a b : Int) : Prop := (c = 0 ∧ a = b) ∨ (0 < c ∧ b < a) ∨ (c < 0 ∧ a < b)
theorem cmp_loop (x y : List Int) (hx : Dig x) (hy : Dig y) (hn : x.length = y.length) (hm : x.length < 1000) : ∀ (i k : Nat), i ≤ x.length → i + 1 ≤ k →
 ∃ c, octroiref01_cmp.l0 k x y ((i : Int) - 1) = some c ∧ CmpS c (val (x.take i)) (val (y.take i)) ∧ -2147483648 ≤ c ∧ c ≤ 2147483648
 | 0, k, _, hk => by
   obtain ⟨k, rfl⟩ : ∃ q, k = q + 1 := ⟨k - 1, by omega⟩
   refine ⟨0, ?_, Or.inl ⟨rfl, rfl⟩, by omega, by omega⟩
   rw [octroiref01_cmp.l0, if_neg (by omega)]
 | i + 1, k, hi, hk => by
   obtain ⟨k, rfl⟩ : ∃ q, k = q + 1 := ⟨k - 1, by omega⟩
   have e : (((i + 1 : Nat) : Int) - 1) = (i : Int) := by omega
   rw [e, octroiref01_cmp.l0, if_pos (by omega), if_pos (by omega), if_pos (by omega), if_pos (by omega), rd_nat, rd_nat]
   have hvx := val_snoc x i (by omega)
   have hvy := val_snoc y i (by omega)
   have hlx := val_lt _ (hx.take i)
   have hly := val_lt _ (hy.take i)
   have hnx := val_nonneg _ (hx.take i)
   have hny := val_nonneg _ (hy.take i)
   rw [List.length_take, Nat.min_eq_left (by omega)] at hlx hly
   have hdx := dig_get hx i
   have hdy := dig_get hy i
   have hp := pow_pos' i
   generalize x.getD i 0 = a at *
   generalize y.getD i 0 = b at *
   by_cases hab : a = b
   ·rw [if_pos hab]
    have e2 : wrap64 ((i : Int) - 1) = (i : Int) - 1 := by unfold wrap64; omega
    rw [e2]
    obtain ⟨c, h1, h2, h3⟩ := cmp_loop x y hx hy hn hm i k (by omega) (by omega)
    refine ⟨c, h1, ?_, h3⟩
    rw [hvx, hvy, hab]
    rcases h2 with h2 | h2 | h2
    ·exact Or.inl ⟨h2.1, by omega⟩
    ·exact Or.inr (Or.inl ⟨h2.1, by omega⟩)
    ·exact Or.inr (Or.inr ⟨h2.1, by omega⟩)
   ·rw [if_neg hab]
    have e2 : wrap64 (a - b) = a - b := by unfold wrap64; omega
    rw [e2]
    refine ⟨a - b, rfl, ?_, by omega, by omega⟩
    rw [hvx, hvy]
    generalize (2147483648 : Int) ^ i = P at *
    by_cases hl : a < b
    ·have hm : P * (a + 1) ≤ P * b := Int.mul_le_mul_of_nonneg_left (by omega) (by omega)
     rw [Int.mul_add] at hm
     exact Or.inr (Or.inr ⟨by omega, by omega⟩)
    ·have hm : P * (b + 1) ≤ P * a := Int.mul_le_mul_of_nonneg_left (by omega) (by omega)
     rw [Int.mul_add] at hm
     exact Or.inr (Or.inl ⟨by omega, by omega⟩)
theorem val_top (l : List Int) (h : Dig l) (hn : Norm l) (h0 : l ≠ []) : 2147483648 ^ (l.length - 1) ≤ val l := by
 have hl : 0 < l.length := List.length_pos_iff.2 h0
 have hv := val_snoc l (l.length - 1) (by omega)
 rw [show l.length - 1 + 1 = l.length by omega, List.take_length] at hv
 have hnn := val_nonneg _ (h.take (l.length - 1))
 have hd := dig_get h (l.length - 1)
 have hne : l.getD (l.length - 1) 0 ≠ 0 := by
  refine hn _ ?_
  rw [List.getLast?_eq_getElem?, List.getD_eq_getElem?_getD, List.getElem?_eq_getElem (by omega)]
  rfl
 have hp := pow_pos' (l.length - 1)
 generalize (2147483648 : Int) ^ (l.length - 1) = P at *
 generalize l.getD (l.length - 1) 0 = a at *
 have hm : P * 1 ≤ P * a := Int.mul_le_mul_of_nonneg_left (by omega) (by omega)
 omega
theorem pow_mono {i j : Nat} (h : i ≤ j) : (2147483648 : Int) ^ i ≤ 2147483648 ^ j := by
 obtain ⟨d, rfl⟩ := Nat.exists_eq_add_of_le h
 rw [Int.pow_add]
 have h1 := pow_pos' i
 have h2 := pow_pos' d
 generalize (2147483648 : Int) ^ i = P at *
 generalize (2147483648 : Int) ^ d = Q at *
 have hm : P * 1 ≤ P * Q := Int.mul_le_mul_of_nonneg_left h2 (by omega)
 omega
theorem len_lt (x y : List Int) (hx : Dig x) (hy : Dig y) (hny : Norm y) (h : x.length < y.length) : val x < val y := by
 have h1 := val_lt x hx
 have h2 := val_top y hy hny (by intro e; subst e; simp at h)
 have h3 := pow_mono (i := x.length) (j := y.length - 1) (by omega)
 omega
theorem cmp_spec (x y : List Int) (hx : Dig x) (hy : Dig y) (hnx : Norm x) (hny : Norm y) (hm : x.length < 1000) (hm2 : y.length < 1000) (k : Nat) (hk : x.length + 1 ≤ k) :
 ∃ c, octroiref01_cmp.f k x y = some c ∧ CmpS c (val x) (val y) := by
 unfold octroiref01_cmp.f
 by_cases hl : x.length = y.length
 ·rw [if_pos (by omega)]
  have e : wrap64 ((x.length : Int) - 1) = (x.length : Int) - 1 := by unfold wrap64; omega
  rw [e]
  obtain ⟨c, h1, h2, _⟩ := cmp_loop x y hx hy hl hm x.length k (Nat.le_refl _) hk
  rw [List.take_length, hl, List.take_length] at h2
  exact ⟨c, h1, h2⟩
 ·rw [if_neg (by omega)]
  have e : wrap64 ((x.length : Int) - (y.length : Int)) = (x.length : Int) - (y.length : Int) := by unfold wrap64; omega
  rw [e]
  refine ⟨_, rfl, ?_⟩
  by_cases hlt : x.length < y.length
  ·exact Or.inr (Or.inr ⟨by omega, len_lt x y hx hy hny hlt⟩)
  ·exact Or.inr (Or.inl ⟨by omega, len_lt y x hy hx hnx (by omega)⟩)
theorem Dig.drop {l : List Int} (h : Dig l) (i : Nat) : Dig (l.drop i) := fun d hd => h d (List.mem_of_mem_drop hd)
theorem Norm.drop {l : List Int} (h : Norm l) (i : Nat) : Norm (l.drop i) := by
 intro d hd
 rw [List.getLast?_drop] at hd
 split at hd
 ·simp at hd
 ·exact h d hd
theorem val_drop (l : List Int) (i : Nat) (h : i < l.length) : val (l.drop i) = l.getD i 0 + 2147483648 * val (l.drop (i + 1)) := by
 rw [List.drop_eq_getElem_cons h, val, List.getD_eq_getElem?_getD, List.getElem?_eq_getElem h]
 rfl
theorem val_drop_nil (l : List Int) (i : Nat) (h : l.length ≤ i) : val (l.drop i) = 0 := by rw [List.drop_eq_nil_of_le h]; rfl
theorem norm_pos {l : List Int} (h : Dig l) (hn : Norm l) (h0 : l ≠ []) : 1 ≤ val l := by
 have h1 := val_top l h hn h0
 have h2 := pow_pos' (l.length - 1)
 omega
theorem tmod_nn (x : Int) (h : 0 ≤ x) : Int.tmod x 2147483648 = x % 2147483648 := Int.tmod_eq_emod_of_nonneg h
theorem tdiv_nn (x : Int) (h : 0 ≤ x) : Int.tdiv x 2147483648 = x / 2147483648 := Int.tdiv_eq_ediv_of_nonneg h
theorem plus_step (X Y R : List Int) (a b c t : Int) (hR : Dig R) (hRn : Norm R) (ha : 0 ≤ a ∧ a < 2147483648) (hb : 0 ≤ b ∧ b < 2147483648) (hc : 0 ≤ c ∧ c ≤ 1)
 (hv : val R = X.length * 0 + t + (a + b + c) / 2147483648) (ht : 0 ≤ t) (hpos : 1 ≤ a + b + c + 2147483648 * t) :
 Dig (((a + b + c) % 2147483648) :: R) ∧ Norm (((a + b + c) % 2147483648) :: R) ∧ val (((a + b + c) % 2147483648) :: R) = a + b + c + 2147483648 * t := by
 refine ⟨?_, ?_, ?_⟩
 ·intro d hd
  rcases List.mem_cons.1 hd with rfl | hd
  ·omega
  ·exact hR d hd
 ·refine hRn.cons (fun e => ?_)
  subst e
  simp only [val] at hv
  omega
 ·rw [val, hv]
  omega
theorem getD_out (l : List Int) (i : Nat) (h : l.length ≤ i) : l.getD i 0 = 0 := by rw [List.getD_eq_getElem?_getD, List.getElem?_eq_none h]; rfl
theorem val_drop' (l : List Int) (i : Nat) : val (l.drop i) = l.getD i 0 + 2147483648 * val (l.drop (i + 1)) := by
 by_cases h : i < l.length
 ·exact val_drop l i h
 ·rw [val_drop_nil l i (by omega), val_drop_nil l (i + 1) (by omega), getD_out l i (by omega)]
  rfl
theorem plus_end (x y acc : List Int) (i k : Nat) (h1 : x.length ≤ i) (h2 : y.length ≤ i) : octroiref01_plus.l0 (k + 2) x y acc 0 (i : Int) = some acc := by
 rw [octroiref01_plus.l0, if_neg (by omega), if_neg (by omega), octroiref01_plus.j1, if_neg (by simp)]
theorem plus_go (x y acc : List Int) (i k : Nat) (c : Int) (hx : Dig x) (hy : Dig y) (hc : 0 ≤ c ∧ c ≤ 1) (hi : i < 2000) (hl : acc.length < 17592186044416) (h : i < x.length ∨ i < y.length ∨ 0 < c) :
 octroiref01_plus.l0 (k + 2) x y acc c (i : Int) = octroiref01_plus.l0 k x y (acc ++ [(x.getD i 0 + y.getD i 0 + c) % 2147483648]) ((x.getD i 0 + y.getD i 0 + c) / 2147483648) ((i + 1 : Nat) : Int) := by
 have ha := dig_get hx i
 have hb := dig_get hy i
 have hw : wrap64 ((i : Int) + 1) = ((i + 1 : Nat) : Int) := by unfold wrap64; omega
 have go : octroiref01_plus.j1 (k + 1) x y acc c (i : Int) true = octroiref01_plus.l0 k x y (acc ++ [(x.getD i 0 + y.getD i 0 + c) % 2147483648]) ((x.getD i 0 + y.getD i 0 + c) / 2147483648) ((i + 1 : Nat) : Int) := by
  rw [octroiref01_plus.j1, if_pos rfl, rd_nat, rd_nat, hw]
  by_cases h1 : i < x.length
  ·rw [if_pos (by omega), if_pos (by omega)]
   have e1 : wrap64 (c + x.getD i 0) = c + x.getD i 0 := by unfold wrap64; omega
   rw [e1]
   by_cases h2 : i < y.length
   ·have e2 : wrap64 (c + x.getD i 0 + y.getD i 0) = x.getD i 0 + y.getD i 0 + c := by unfold wrap64; omega
    have e3 : wrap64 ((x.getD i 0 + y.getD i 0 + c) / 2147483648) = (x.getD i 0 + y.getD i 0 + c) / 2147483648 := by unfold wrap64; omega
    rw [if_pos (by omega), if_pos hl, e2, tmod_nn _ (by omega), tdiv_nn _ (by omega), e3]
   ·have hz := getD_out y i (by omega)
    rw [hz] at *
    have e2 : c + x.getD i 0 = x.getD i 0 + 0 + c := by omega
    have e3 : wrap64 ((x.getD i 0 + 0 + c) / 2147483648) = (x.getD i 0 + 0 + c) / 2147483648 := by unfold wrap64; omega
    rw [if_neg (by omega), if_pos hl, e2, tmod_nn _ (by omega), tdiv_nn _ (by omega), e3]
  ·have hz := getD_out x i (by omega)
   rw [if_neg (by omega)]
   rw [hz] at *
   by_cases h2 : i < y.length
   ·have e1 : wrap64 (c + y.getD i 0) = 0 + y.getD i 0 + c := by unfold wrap64; omega
    have e3 : wrap64 ((0 + y.getD i 0 + c) / 2147483648) = (0 + y.getD i 0 + c) / 2147483648 := by unfold wrap64; omega
    rw [if_pos (by omega), if_pos (by omega), if_pos hl, e1, tmod_nn _ (by omega), tdiv_nn _ (by omega), e3]
   ·have hz2 := getD_out y i (by omega)
    rw [hz2] at *
    have e2 : c = 0 + 0 + c := by omega
    have e3 : wrap64 (c / 2147483648) = (0 + 0 + c) / 2147483648 := by unfold wrap64; omega
    have e4 : c % 2147483648 = (0 + 0 + c) % 2147483648 := by omega
    rw [if_neg (by omega), if_pos hl, tmod_nn _ (by omega), tdiv_nn _ (by omega), e3, e4]
 rw [octroiref01_plus.l0]
 by_cases h1 : i < x.length
 ·rw [if_pos (by omega)]; exact go
 ·rw [if_neg (by omega)]
  by_cases h2 : i < y.length
  ·rw [if_pos (by omega)]; exact go
  ·rw [if_neg (by omega), show decide (c > 0) = true from decide_eq_true (by omega)]; exact go
theorem plus_walk (x y : List Int) (hx : Dig x) (hy : Dig y) (hnx : Norm x) (hny : Norm y) : ∀ (m k i : Nat) (acc : List Int) (c : Int),
 x.length < i + m → y.length < i + m → i + m ≤ 1001 → (m = 0 → c = 0) → 0 ≤ c → c ≤ 1 → acc.length + m < 17592186044416 → 2 * m + 2 ≤ k →
 ∃ r, octroiref01_plus.l0 k x y acc c (i : Int) = some (acc ++ r) ∧ Dig r ∧ Norm r ∧ val r = val (x.drop i) + val (y.drop i) + c ∧ r.length ≤ m
 | 0, k, i, acc, c, h1, h2, h3, h4, h5, h6, h7, h8 => by
   obtain ⟨k, rfl⟩ : ∃ q, k = q + 2 := ⟨k - 2, by omega⟩
   obtain rfl := h4 rfl
   refine ⟨[], ?_, fun d hd => by simp at hd, Norm.nil, ?_, by simp⟩
   ·rw [plus_end x y acc i k (by omega) (by omega), List.append_nil]
   ·rw [val_drop_nil x i (by omega), val_drop_nil y i (by omega)]; rfl
 | m + 1, k, i, acc, c, h1, h2, h3, h4, h5, h6, h7, h8 => by
   obtain ⟨k, rfl⟩ : ∃ q, k = q + 2 := ⟨k - 2, by omega⟩
   by_cases hg : i < x.length ∨ i < y.length ∨ 0 < c
   ·rw [plus_go x y acc i k c hx hy ⟨h5, h6⟩ (by omega) (by omega) hg]
    have ha := dig_get hx i
    have hb := dig_get hy i
    have hvx := val_drop' x i
    have hvy := val_drop' y i
    have hnx0 := val_nonneg _ (hx.drop (i + 1))
    have hny0 := val_nonneg _ (hy.drop (i + 1))
    have hpos : 1 ≤ val (x.drop i) + val (y.drop i) + c := by
     have p1 := val_nonneg _ (hx.drop i)
     have p2 := val_nonneg _ (hy.drop i)
     rcases hg with hg | hg | hg
     ·have := norm_pos (hx.drop i) (hnx.drop i) (by intro e; have := congrArg List.length e; simp at this; omega)
      omega
     ·have := norm_pos (hy.drop i) (hny.drop i) (by intro e; have := congrArg List.length e; simp at this; omega)
      omega
     ·omega
    obtain ⟨r, e, hr, hrn, hv, hrl⟩ := plus_walk x y hx hy hnx hny m k (i + 1) (acc ++ [(x.getD i 0 + y.getD i 0 + c) % 2147483648]) ((x.getD i 0 + y.getD i 0 + c) / 2147483648) (by omega) (by omega) (by omega)
     (fun hm0 => by
       have z1 := getD_out x i (by omega)
       have z2 := getD_out y i (by omega)
       rw [z1, z2]; omega) (by omega) (by omega) (by simp only [List.length_append, List.length_cons, List.length_nil]; omega) (by omega)
    refine ⟨((x.getD i 0 + y.getD i 0 + c) % 2147483648) :: r, ?_, ?_⟩
    ·rw [e, List.append_assoc]; rfl
    ·have st := plus_step [] [] r (x.getD i 0) (y.getD i 0) c (val (x.drop (i + 1)) + val (y.drop (i + 1))) hr hrn ha hb ⟨h5, h6⟩ (by rw [hv]; simp) (by omega) (by omega)
     refine ⟨st.1, st.2.1, ?_, by simp only [List.length_cons]; omega⟩
     rw [st.2.2, hvx, hvy]
     omega
   ·have hc0 : c = 0 := by omega
    subst hc0
    refine ⟨[], ?_, fun d hd => by simp at hd, Norm.nil, ?_, by simp⟩
    ·rw [plus_end x y acc i k (by omega) (by omega), List.append_nil]
    ·rw [val_drop_nil x i (by omega), val_drop_nil y i (by omega)]; rfl
theorem take_norm (x : List Int) (i : Nat) (h : i ≤ x.length) (h0 : i = 0 ∨ x.getD (i - 1) 0 ≠ 0) : Norm (x.take i) := by
 intro d hd
 rcases h0 with rfl | h0
 ·simp at hd
 ·by_cases hi : i = 0
  ·subst hi; simp at hd
  ·have e := take_snoc x (i - 1) (by omega)
   rw [show i - 1 + 1 = i by omega] at e
   rw [e, List.getLast?_concat] at hd
   injection hd with hd
   rw [← hd]
   exact h0
theorem clean_walk (x : List Int) (hm : x.length < 2000) : ∀ (i k : Nat), i ≤ x.length → i + 1 ≤ k →
 ∃ j, j ≤ i ∧ octroiref01_clean.l0 k x (i : Int) = some (x.take j) ∧ Norm (x.take j) ∧ val (x.take j) = val (x.take i)
 | 0, k, hi, hk => by
   obtain ⟨k, rfl⟩ : ∃ q, k = q + 1 := ⟨k - 1, by omega⟩
   refine ⟨0, Nat.le_refl _, ?_, take_norm x 0 hi (Or.inl rfl), rfl⟩
   rw [octroiref01_clean.l0, if_neg (by omega), if_pos (by omega), if_pos (by omega)]
   rfl
 | i + 1, k, hi, hk => by
   obtain ⟨k, rfl⟩ : ∃ q, k = q + 1 := ⟨k - 1, by omega⟩
   have hw : wrap64 (((i + 1 : Nat) : Int) - 1) = (i : Int) := by unfold wrap64; omega
   rw [octroiref01_clean.l0, if_pos (by omega), hw, if_pos (by omega), if_pos (by omega), rd_nat]
   by_cases hz : x.getD i 0 = 0
   ·rw [if_pos hz]
    obtain ⟨j, h1, h2, h3, h4⟩ := clean_walk x hm i k (by omega) (by omega)
    refine ⟨j, by omega, h2, h3, ?_⟩
    rw [h4, val_snoc x i (by omega), hz]
    simp
   ·rw [if_neg hz, if_pos (by omega), if_pos (by omega)]
    refine ⟨i + 1, Nat.le_refl _, rfl, take_norm x (i + 1) hi (Or.inr hz), rfl⟩
theorem clean_spec (x : List Int) (hx : Dig x) (hm : x.length < 2000) (k : Nat) (hk : x.length + 1 ≤ k) : ∃ s, octroiref01_clean.f k x = some s ∧ Dig s ∧ Norm s ∧ val s = val x ∧ s.length ≤ x.length := by
 obtain ⟨j, h1, h2, h3, h4⟩ := clean_walk x hm x.length k (Nat.le_refl _) hk
 rw [List.take_length] at h4
 exact ⟨_, h2, hx.take j, h3, h4, by rw [List.length_take]; omega⟩
theorem minus_go (x y acc : List Int) (i k : Nat) (c : Int) (hx : Dig x) (hy : Dig y) (hc : 0 ≤ c ∧ c ≤ 1) (hi : i < 2000) (hl : acc.length < 17592186044416) (h : i < x.length) :
 octroiref01_minus.l0 (k + 1) x y acc c (i : Int) = octroiref01_minus.l0 k x y (acc ++ [if x.getD i 0 - c - y.getD i 0 < 0 then x.getD i 0 - c - y.getD i 0 + 2147483648 else x.getD i 0 - c - y.getD i 0])
  (if x.getD i 0 - c - y.getD i 0 < 0 then 1 else 0) ((i + 1 : Nat) : Int) := by
 have ha := dig_get hx i
 have hb := dig_get hy i
 have hw : wrap64 ((i : Int) + 1) = ((i + 1 : Nat) : Int) := by unfold wrap64; omega
 have e0 : wrap64 (x.getD i 0 - c) = x.getD i 0 - c := by unfold wrap64; omega
 have e1 : wrap64 (x.getD i 0 - c - y.getD i 0) = x.getD i 0 - c - y.getD i 0 := by unfold wrap64; omega
 have e2 : wrap64 (x.getD i 0 - c - y.getD i 0 + 2147483648) = x.getD i 0 - c - y.getD i 0 + 2147483648 := by unfold wrap64; omega
 rw [octroiref01_minus.l0, if_pos (by omega), if_pos (by omega), rd_nat, rd_nat, hw, e0]
 by_cases h2 : i < y.length
 ·rw [if_pos (by omega), e1, e2]
  by_cases h3 : x.getD i 0 - c - y.getD i 0 < 0
  ·rw [if_pos h3, if_pos hl, if_pos h3, if_pos h3]
  ·rw [if_neg h3, if_pos hl, if_neg h3, if_neg h3]
 ·have hz := getD_out y i (by omega)
  rw [hz] at *
  rw [show x.getD i 0 - c - 0 = x.getD i 0 - c by omega] at *
  rw [if_neg (by omega)]
  by_cases h3 : x.getD i 0 - c < 0
  ·have e3 : wrap64 (x.getD i 0 - c + 2147483648) = x.getD i 0 - c + 2147483648 := by unfold wrap64; omega
   rw [if_pos h3, if_pos hl, if_pos h3, if_pos h3, e3]
  ·rw [if_neg h3, if_pos hl, if_neg h3, if_neg h3]
theorem minus_walk (x y : List Int) (hx : Dig x) (hy : Dig y) (hm : x.length < 1000) : ∀ (m k i : Nat) (acc : List Int) (c : Int), i + m = x.length → 0 ≤ c → c ≤ 1 → acc.length + m < 1000 → Dig acc →
 val (y.drop i) + c ≤ val (x.drop i) → m + 1 + 1001 ≤ k →
 ∃ s, octroiref01_minus.l0 k x y acc c (i : Int) = some s ∧ Dig s ∧ Norm s ∧ val s = val acc + 2147483648 ^ acc.length * (val (x.drop i) - val (y.drop i) - c) ∧ s.length ≤ acc.length + m
 | 0, k, i, acc, c, h1, h2, h3, h4, h5, h6, h7 => by
   obtain ⟨k, rfl⟩ : ∃ q, k = q + 1 := ⟨k - 1, by omega⟩
   rw [val_drop_nil x i (by omega)] at *
   have hny := val_nonneg _ (hy.drop i)
   have hy0 : val (y.drop i) = 0 := by omega
   have hc0 : c = 0 := by omega
   subst hc0
   rw [hy0, octroiref01_minus.l0, if_neg (by omega)]
   obtain ⟨s, e1, e2, e3, e4, e5⟩ := clean_spec acc h5 (by omega) k (by omega)
   refine ⟨s, by rw [e1]; rfl, e2, e3, by rw [e4]; simp, by omega⟩
 | m + 1, k, i, acc, c, h1, h2, h3, h4, h5, h6, h7 => by
   obtain ⟨k, rfl⟩ : ∃ q, k = q + 1 := ⟨k - 1, by omega⟩
   rw [minus_go x y acc i k c hx hy ⟨h2, h3⟩ (by omega) (by omega) (by omega)]
   have ha := dig_get hx i
   have hb := dig_get hy i
   have hvx := val_drop' x i
   have hvy := val_drop' y i
   rw [hvx, hvy] at h6
   rw [hvx, hvy]
   clear hvx hvy
   generalize x.getD i 0 = a at *
   generalize y.getD i 0 = b at *
   have key : ∀ (d c' : Int), 0 ≤ d → d < 2147483648 → 0 ≤ c' → c' ≤ 1 → a - c - b = d - 2147483648 * c' → 
    ∃ s, octroiref01_minus.l0 k x y (acc ++ [d]) c' ((i + 1 : Nat) : Int) = some s ∧ Dig s ∧ Norm s ∧ val s = val acc + 2147483648 ^ acc.length * (a + 2147483648 * val (x.drop (i + 1)) - (b + 2147483648 * val (y.drop (i + 1))) - c) ∧ s.length ≤ acc.length + (m + 1) := by
    intro d c' d0 d1 c0 c1 e
    obtain ⟨s, e1, e2, e3, e4, e5⟩ := minus_walk x y hx hy hm m k (i + 1) (acc ++ [d]) c' (by omega) c0 c1 (by simp only [List.length_append, List.length_cons, List.length_nil]; omega)
     (fun q hq => by
       rcases List.mem_append.1 hq with hq | hq
       ·exact h5 q hq
       ·rw [List.mem_singleton] at hq; omega) (by omega) (by omega)
    refine ⟨s, e1, e2, e3, ?_, by simp only [List.length_append, List.length_cons, List.length_nil] at e5; omega⟩
    rw [e4, val_append, List.length_append, List.length_singleton, Int.pow_succ, val, val]
    have q : a + 2147483648 * val (x.drop (i + 1)) - (b + 2147483648 * val (y.drop (i + 1))) - c = d + 2147483648 * (val (x.drop (i + 1)) - val (y.drop (i + 1)) - c') := by omega
    rw [q]
    generalize (2147483648 : Int) ^ acc.length = P
    generalize val (x.drop (i + 1)) - val (y.drop (i + 1)) - c' = Z
    rw [Int.mul_add, Int.mul_assoc, Int.mul_zero, Int.mul_add, Int.mul_zero, Int.add_zero, Int.add_assoc]
   by_cases hlt : a - c - b < 0
   ·rw [if_pos hlt, if_pos hlt]
    exact key _ 1 (by omega) (by omega) (by omega) (by omega) (by omega)
   ·rw [if_neg hlt, if_neg hlt]
    exact key _ 0 (by omega) (by omega) (by omega) (by omega) (by omega)
def sval (n : Bool) (D : List Int) : Int := if n = true then -val D else val D
theorem digsF_len : ∀ (f n : Nat), (digsF f n).length ≤ f
 | 0, n => by simp [digsF]
 | f + 1, n => by
   unfold digsF
   split
   ·simp
   ·simp only [List.length_cons]
    have := digsF_len f (n / 2147483648)
    omega
theorem of_spec (a : Int) (h1 : -9223372036854775808 ≤ a) (h2 : a ≤ 9223372036854775808) (k : Nat) (hk : 4 ≤ k) :
 octroiref01_Of.f k a = some (decide (a < 0), digsF 3 a.natAbs) ∧ Dig (digsF 3 a.natAbs) ∧ Norm (digsF 3 a.natAbs) ∧ val (digsF 3 a.natAbs) = (a.natAbs : Int) ∧ sval (decide (a < 0)) (digsF 3 a.natAbs) = a ∧ (digsF 3 a.natAbs).length ≤ 3 := by
 have hb : a.natAbs < 2147483648 ^ 3 := by
  have : (2147483648 : Nat) ^ 3 = 9903520314283042199192993792 := by decide
  omega
 have hv := digsF_val 3 a.natAbs hb
 refine ⟨?_, digsF_dig _ _, digsF_norm 3 _ hb, hv, ?_, digsF_len _ _⟩
 ·unfold octroiref01_Of.f
  rw [of_walk 3 a.natAbs a [] (decide (a < 0)) k rfl (by omega) hb (by simp) (by omega)]
  rfl
 ·unfold sval
  rw [hv]
  by_cases ha : a < 0
  ·rw [if_pos (decide_eq_true ha)]; omega
  ·rw [if_neg (by simpa using ha)]; omega
theorem plus_spec (x y : List Int) (hx : Dig x) (hy : Dig y) (hnx : Norm x) (hny : Norm y) (m : Nat) (h1 : x.length < m) (h2 : y.length < m) (hm : m ≤ 1000) (k : Nat) (hk : 2 * m + 2 ≤ k) :
 ∃ r, octroiref01_plus.f k x y = some r ∧ Dig r ∧ Norm r ∧ val r = val x + val y ∧ r.length ≤ m := by
 obtain ⟨r, e1, e2, e3, e4, e5⟩ := plus_walk x y hx hy hnx hny m k 0 [] 0 (by omega) (by omega) (by omega) (fun _ => rfl) (Int.le_refl _) (by omega) (by simp only [List.length_nil]; omega) hk
 refine ⟨r, ?_, e2, e3, ?_, e5⟩
 ·unfold octroiref01_plus.f
  rw [show (0 : Int) = ((0 : Nat) : Int) from rfl] at *
  exact e1
 ·rw [e4]; simp
theorem minus_spec (x y : List Int) (hx : Dig x) (hy : Dig y) (hm : x.length < 1000) (hv : val y ≤ val x) (k : Nat) (hk : x.length + 1 + 1001 ≤ k) :
 ∃ r, octroiref01_minus.f k x y = some r ∧ Dig r ∧ Norm r ∧ val r = val x - val y ∧ r.length ≤ x.length := by
 obtain ⟨r, e1, e2, e3, e4, e5⟩ := minus_walk x y hx hy hm x.length k 0 [] 0 (by omega) (Int.le_refl _) (by omega) (by simpa using hm) (fun d hd => by simp at hd) (by simpa using hv) hk
 refine ⟨r, ?_, e2, e3, ?_, by simpa using e5⟩
 ·unfold octroiref01_minus.f
  exact e1
 ·rw [e4]; simp [val]
theorem add_spec (p q : Bool) (x y : List Int) (hx : Dig x) (hy : Dig y) (hnx : Norm x) (hny : Norm y) (m : Nat) (h1 : x.length < m) (h2 : y.length < m) (hm : m ≤ 900) (k : Nat) (hk : 3000 ≤ k) :
 ∃ n D, octroiref01_Add.f k p x q y = some (n, D) ∧ Dig D ∧ Norm D ∧ sval n D = sval p x + sval q y ∧ D.length ≤ m := by
 unfold octroiref01_Add.f
 by_cases hpq : p = q
 ·subst hpq
  obtain ⟨r, e1, e2, e3, e4, e5⟩ := plus_spec x y hx hy hnx hny m h1 h2 (by omega) k (by omega)
  rw [if_pos (by simp), e1]
  refine ⟨p, r, rfl, e2, e3, ?_, e5⟩
  unfold sval
  cases p <;> simp <;> omega
 ·obtain ⟨c, e1, hc⟩ := cmp_spec x y hx hy hnx hny (by omega) (by omega) k (by omega)
  rw [if_neg (by simpa using hpq), e1]
  have hsum : sval p x + sval q y = (if p = true then -(val x - val y) else val x - val y) := by
   unfold sval
   cases p <;> cases q <;> simp at hpq ⊢ <;> omega
  rw [hsum]
  rcases hc with hc | hc | hc
  ·refine ⟨false, [], ?_, fun d hd => by simp at hd, Norm.nil, ?_, by simp⟩
   ·show (if c = 0 then _ else _) = _
    rw [if_pos hc.1]
   ·rw [hc.2]; cases p <;> simp [sval, val]
  ·obtain ⟨r, f1, f2, f3, f4, f5⟩ := minus_spec x y hx hy (by omega) (by omega) k (by omega)
   refine ⟨p, r, ?_, f2, f3, ?_, by omega⟩
   ·show (if c = 0 then _ else _) = _
    rw [if_neg (by omega), if_pos (by omega), f1]
    rfl
   ·unfold sval; rw [f4]
  ·obtain ⟨r, f1, f2, f3, f4, f5⟩ := minus_spec y x hy hx (by omega) (by omega) k (by omega)
   refine ⟨q, r, ?_, f2, f3, ?_, by omega⟩
   ·show (if c = 0 then _ else _) = _
    rw [if_neg (by omega), if_neg (by omega), f1]
    rfl
   ·unfold sval; rw [f4]
    cases p <;> cases q <;> simp at hpq ⊢ <;> omega
theorem val_drop_le (l : List Int) (h : Dig l) (i : Nat) : val (l.drop i) ≤ val l := by
 have e := val_append (l.take i) (l.drop i)
 rw [List.take_append_drop] at e
 have h1 := val_nonneg _ (h.take i)
 have h2 := val_nonneg _ (h.drop i)
 have h3 := pow_pos' (l.take i).length
 have hm := Int.mul_le_mul_of_nonneg_right h3 h2
 omega
theorem int_loop (n : Bool) (D : List Int) (hD : Dig D) (hl : D.length < 1000) (hv : val D ≤ 4611686018427387904) : ∀ (i k : Nat), i ≤ D.length → i + 1 ≤ k →
 octroiref01_Int.l0 k (val (D.drop i)) ((i : Int) - 1) n D = some (sval n D, true)
 | 0, k, _, hk => by
   obtain ⟨k, rfl⟩ : ∃ q, k = q + 1 := ⟨k - 1, by omega⟩
   rw [octroiref01_Int.l0, if_neg (by omega)]
   have h0 := val_nonneg D hD
   unfold sval
   rw [List.drop_zero]
   by_cases hn : n = true
   ·have w : wrap64 (-val D) = -val D := by unfold wrap64; omega
    rw [if_pos hn, if_pos hn, w]
   ·rw [if_neg hn, if_neg hn]
 | i + 1, k, hi, hk => by
   obtain ⟨k, rfl⟩ : ∃ q, k = q + 1 := ⟨k - 1, by omega⟩
   have e : (((i + 1 : Nat) : Int) - 1) = (i : Int) := by omega
   have hd := val_drop' D i
   have hle := val_drop_le D hD i
   have hge := val_nonneg _ (hD.drop (i + 1))
   have hg := dig_get hD i
   rw [e, octroiref01_Int.l0, if_pos (by omega), if_pos (by omega), if_pos (by omega), rd_nat]
   have w1 : wrap64 (val (D.drop (i + 1)) * 2147483648) = val (D.drop (i + 1)) * 2147483648 := by unfold wrap64; omega
   have w2 : wrap64 (val (D.drop (i + 1)) * 2147483648 + D.getD i 0) = val (D.drop i) := by unfold wrap64; omega
   have w3 : wrap64 ((i : Int) - 1) = (i : Int) - 1 := by unfold wrap64; omega
   rw [w1, w2, w3]
   exact int_loop n D hD hl hv i k (by omega) (by omega)
theorem int_spec (n : Bool) (D : List Int) (hD : Dig D) (hN : Norm D) (hl : D.length < 1000) (k : Nat) (hk : 1002 ≤ k) :
 octroiref01_Int.f k n D = some (if val D ≤ 4611686018427387904 then (sval n D, true) else (0, false)) := by
 obtain ⟨e1, e2, e3, e4, _, e6⟩ := of_spec 4611686018427387904 (by omega) (by omega) k (by omega)
 unfold octroiref01_Int.f
 rw [e1]
 obtain ⟨c, f1, f2⟩ := cmp_spec D (digsF 3 (Int.natAbs 4611686018427387904)) hD e2 hN e3 hl (by omega) k (by omega)
 show ((octroiref01_cmp.f k D (digsF 3 (Int.natAbs 4611686018427387904))).bind _) = _
 rw [f1]
 show (if c > 0 then _ else _) = _
 rw [e4] at f2
 have hw : wrap64 ((D.length : Int) - 1) = (D.length : Int) - 1 := by unfold wrap64; omega
 have h62 : ((Int.natAbs 4611686018427387904 : Nat) : Int) = 4611686018427387904 := by omega
 rw [h62] at f2
 by_cases hv : val D ≤ 4611686018427387904
 ·have hc : ¬ c > 0 := by rcases f2 with f2 | f2 | f2 <;> omega
  rw [if_neg hc, if_pos hv, hw]
  have := int_loop n D hD hl hv D.length k (Nat.le_refl _) (by omega)
  rw [List.drop_length] at this
  exact this
 ·have hc : c > 0 := by rcases f2 with f2 | f2 | f2 <;> omega
  rw [if_pos hc, if_neg hv]
theorem sval_abs (n : Bool) (D : List Int) (hD : Dig D) : (val D ≤ 4611686018427387904) ↔ (-4611686018427387904 ≤ sval n D ∧ sval n D ≤ 4611686018427387904) := by
 have := val_nonneg D hD
 unfold sval
 cases n <;> simp <;> omega
def May (a : Int) : Prop := -4611686018427387904 ≤ a ∧ a ≤ 4611686018427387904
instance (a : Int) : Decidable (May a) := inferInstanceAs (Decidable (-4611686018427387904 ≤ a ∧ a ≤ 4611686018427387904))
theorem may_f (a : Int) : octroiref01_May.f a = some (decide (May a)) := by
 unfold octroiref01_May.f
 by_cases h : a ≥ (-4611686018427387904)
 ·rw [if_pos h]
  refine congrArg some ?_
  rw [Bool.eq_iff_iff, decide_eq_true_iff, decide_eq_true_iff]
  show _ ↔ (-4611686018427387904 ≤ a ∧ a ≤ 4611686018427387904)
  omega
 ·rw [if_neg h]
  exact congrArg some (decide_eq_false (fun hm => h hm.1)).symm
def sumI (l : List Int) : Int := l.foldr (· + ·) 0
theorem sum_loop (l : List Int) (hl : l.length < 800) (hm : ∀ x, x ∈ l → May x) : ∀ (m k i : Nat) (n : Bool) (D : List Int), i + m = l.length → m + 3001 ≤ k → Dig D → Norm D → D.length ≤ i + 4 →
 octroiref01_Sum.l0 k l (i : Int) n D = some (if May (sval n D + sumI (l.drop i)) then (sval n D + sumI (l.drop i), 0) else (0, 3))
 | 0, k, i, n, D, h1, h2, h3, h4, h5 => by
   obtain ⟨k, rfl⟩ : ∃ q, k = q + 1 := ⟨k - 1, by omega⟩
   rw [octroiref01_Sum.l0, if_neg (by omega), int_spec n D h3 h4 (by omega) k (by omega), List.drop_eq_nil_of_le (by omega)]
   show (if (if val D ≤ 4611686018427387904 then (sval n D, true) else (0, false)).2 = true then _ else _) = _
   have ha : val D ≤ 4611686018427387904 ↔ May (sval n D) := sval_abs n D h3
   have e0 : sval n D + sumI [] = sval n D := by simp [sumI]
   rw [e0]
   by_cases hv : val D ≤ 4611686018427387904
   ·rw [if_pos hv, if_pos (ha.1 hv)]; rfl
   ·rw [if_neg hv, if_neg (fun h => hv (ha.2 h))]; rfl
 | m + 1, k, i, n, D, h1, h2, h3, h4, h5 => by
   obtain ⟨k, rfl⟩ : ∃ q, k = q + 1 := ⟨k - 1, by omega⟩
   have hi : i < l.length := by omega
   have hmx : May (l.getD i 0) := by
    rw [List.getD_eq_getElem?_getD, List.getElem?_eq_getElem hi]
    exact hm _ (List.getElem_mem hi)
   rw [octroiref01_Sum.l0, if_pos (by omega), if_pos (by omega), rd_nat, may_f]
   have hd : sumI (l.drop i) = l.getD i 0 + sumI (l.drop (i + 1)) := by
    rw [List.drop_eq_getElem_cons hi, List.getD_eq_getElem?_getD, List.getElem?_eq_getElem hi]
    rfl
   rw [hd]
   generalize l.getD i 0 = a at *
   show (if decide (May a) = true then _ else _) = _
   rw [if_pos (decide_eq_true hmx)]
   unfold May at hmx
   obtain ⟨e1, e2, e3, _, e5, e6⟩ := of_spec a (by omega) (by omega) k (by omega)
   rw [e1]
   show ((octroiref01_Add.f k n D (decide (a < 0)) (digsF 3 a.natAbs)).bind _) = _
   obtain ⟨n', D', f1, f2, f3, f4, f5⟩ := add_spec n (decide (a < 0)) D _ h3 e2 h4 e3 (i + 5) (by omega) (by omega) (by omega) k (by omega)
   rw [f1]
   have hw : wrap64 ((i : Int) + 1) = ((i + 1 : Nat) : Int) := by unfold wrap64; omega
   show octroiref01_Sum.l0 k l (wrap64 ((i : Int) + 1)) n' D' = _
   rw [hw, sum_loop l hl hm m k (i + 1) n' D' (by omega) (by omega) f2 f3 (by omega), f4, e5, Int.add_assoc]
theorem sum_spec (l : List Int) (hl : l.length < 800) (hm : ∀ x, x ∈ l → May x) (k : Nat) (hk : l.length + 3001 ≤ k) :
 octroiref01_Sum.f k l = some (if May (sumI l) then (sumI l, 0) else (0, 3)) := by
 unfold octroiref01_Sum.f
 have h := sum_loop l hl hm l.length k 0 false [] (by omega) hk (fun d hd => by simp at hd) Norm.nil (by simp)
 have e : sval false [] + sumI (l.drop 0) = sumI l := by simp [sval, val]
 rw [e] at h
 exact h

theorem sum_bad (l : List Int) (hl : l.length < 800) : ∀ (m k i : Nat) (n : Bool) (D : List Int), i + m = l.length → m + 3001 ≤ k → Dig D → Norm D → D.length ≤ i + 4 → ¬ (∀ x, x ∈ l.drop i → May x) →
 octroiref01_Sum.l0 k l (i : Int) n D = some (0, 2)
 | 0, k, i, n, D, h1, h2, h3, h4, h5, hm => by
   rw [List.drop_eq_nil_of_le (by omega)] at hm
   exact absurd (fun x hx => by simp at hx) hm
 | m + 1, k, i, n, D, h1, h2, h3, h4, h5, hm => by
   obtain ⟨k, rfl⟩ : ∃ q, k = q + 1 := ⟨k - 1, by omega⟩
   have hi : i < l.length := by omega
   have hd : l.drop i = l.getD i 0 :: l.drop (i + 1) := by
    rw [List.drop_eq_getElem_cons hi, List.getD_eq_getElem?_getD, List.getElem?_eq_getElem hi]
    rfl
   rw [hd] at hm
   rw [octroiref01_Sum.l0, if_pos (by omega), if_pos (by omega), rd_nat, may_f]
   generalize l.getD i 0 = a at *
   show (if decide (May a) = true then _ else _) = _
   by_cases hmx : May a
   ·rw [if_pos (decide_eq_true hmx)]
    have hm2 : ¬ (∀ x, x ∈ l.drop (i + 1) → May x) := fun h => hm (fun x hx => by
     rcases List.mem_cons.1 hx with e | hx
     ·rw [e]; exact hmx
     ·exact h x hx)
    unfold May at hmx
    obtain ⟨e1, e2, e3, _, e5, e6⟩ := of_spec a (by omega) (by omega) k (by omega)
    rw [e1]
    show ((octroiref01_Add.f k n D (decide (a < 0)) (digsF 3 a.natAbs)).bind _) = _
    obtain ⟨n', D', f1, f2, f3, f4, f5⟩ := add_spec n (decide (a < 0)) D _ h3 e2 h4 e3 (i + 5) (by omega) (by omega) (by omega) k (by omega)
    rw [f1]
    have hw : wrap64 ((i : Int) + 1) = ((i + 1 : Nat) : Int) := by unfold wrap64; omega
    show octroiref01_Sum.l0 k l (wrap64 ((i : Int) + 1)) n' D' = _
    rw [hw]
    exact sum_bad l hl m k (i + 1) n' D' (by omega) (by omega) f2 f3 (by omega) hm2
   ·rw [if_neg (by rw [decide_eq_true_iff]; exact hmx)]
theorem sumI_sumL (l : List Int) : sumI l = Go.Proofs.YtnaglnifpejpjaaGreatDoorK.sumL l := by
 induction l with
 | nil => rfl
 | cons x l ih => rw [Go.Proofs.YtnaglnifpejpjaaGreatDoorK.sumL_cons, ← ih]; rfl
theorem may_iff (a : Int) : Go.Proofs.YtnaglnifpejpjaaGreatDoorK.mayM a = true ↔ May a := Go.Proofs.YtnaglnifpejpjaaGreatDoorK.mayM_iff a
theorem sum_all (l : List Int) (hl : l.length ≤ 700) : ∃ a, octroiref01_Sum.f a l = some (Go.Proofs.YtnaglnifpejpjaaGreatDoorK.sumV l, Go.Proofs.YtnaglnifpejpjaaGreatDoorK.sumE l) := by
 refine ⟨l.length + 3001, ?_⟩
 unfold Go.Proofs.YtnaglnifpejpjaaGreatDoorK.sumV Go.Proofs.YtnaglnifpejpjaaGreatDoorK.sumE
 by_cases hm : ∀ x, x ∈ l → May x
 ·have ha : l.all Go.Proofs.YtnaglnifpejpjaaGreatDoorK.mayM = true := List.all_eq_true.2 fun x hx => (may_iff x).2 (hm x hx)
  rw [sum_spec l (by omega) hm _ (Nat.le_refl _), if_pos ha, if_pos ha, sumI_sumL]
  by_cases h : May (Go.Proofs.YtnaglnifpejpjaaGreatDoorK.sumL l)
  ·rw [if_pos h, if_pos ((may_iff _).2 h), if_pos ((may_iff _).2 h)]
  ·rw [if_neg h, if_neg (fun e => h ((may_iff _).1 e)), if_neg (fun e => h ((may_iff _).1 e))]
 ·have ha : ¬ l.all Go.Proofs.YtnaglnifpejpjaaGreatDoorK.mayM = true := fun h => hm fun x hx => (may_iff x).1 (List.all_eq_true.1 h x hx)
  rw [if_neg ha, if_neg ha]
  unfold octroiref01_Sum.f
  have h := sum_bad l (by omega) l.length (l.length + 3001) 0 false [] (by omega) (Nat.le_refl _) (fun d hd => by simp at hd) Norm.nil (by simp) (by rw [List.drop_zero]; exact hm)
  exact h
end Go.Proofs.YtnaglnifpejpjaaGreatDoor.Num
