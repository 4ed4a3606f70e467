/-
  syntax.right, by induction; Deep; GoodExpr, may, Good.
-/
import Derived.Test.YtmkalnljclhigaaGreatQCh4
namespace Go.Proofs.YtmkalnljclhigaaGreat.Ch
set_option linter.unusedVariables false
set_option linter.unusedSimpArgs false
set_option linter.unnecessarySimpa false
open Go.RowKit Go.Proofs.YtmkalnljclhigaaGreatK Go.Proofs.YtmkalnljclhigaaGreat.XCheckerChecks Go.Proofs.YtmkalnljclhigaaGreatW.PrintWords Go.Proofs.YtmkalnljclhigaaGreatW.PrintLast

mutual
noncomputable def rightB : S33 → Bool
  | ⟨k, n, f, fs, ks⟩ =>
    if (kidsB k).2 = false then false else if (ks.length : Int) ≠ (kidsB k).1 then false else if k ≠ 3 ∧ f.size ≠ 0 then false else if k ≠ 3 ∧ 0 < fs.length then false else
    if k = 1 then numB n else if k = 2 then boxedB n else if n ≠ 0 then false else if k = 3 then (if nameB f = false then false else if 16 < fs.length then false else !fs.any (fun f => !picksB f)) else rightL ks
noncomputable def rightL : List S33 → Bool
  | [] => true
  | x :: xs => rightB x && rightL xs
end
theorem rightL_all : ∀ l : List S33, rightL l = !l.any (fun y => !rightB y)
  | [] => by simp [rightL]
  | x :: xs => by rw [rightL, rightL_all xs, List.any_cons]; cases rightB x <;> simp
theorem kidsB_le (k : Int) : (kidsB k).1 ≤ 3 := by
  unfold kidsB
  by_cases h1 : k = 1 ∨ k = 2 ∨ k = 3
  · rw [if_pos h1]; simp
  · rw [if_neg h1]
    by_cases h2 : k = 6
    · rw [if_pos h2]; simp
    · rw [if_neg h2]
      by_cases h3 : k = 4 ∨ k = 5 ∨ k = 7 ∨ k = 8
      · rw [if_pos h3]; simp
      · rw [if_neg h3]
        by_cases h4 : k = 9
        · rw [if_pos h4]; simp
        · rw [if_neg h4]; simp
def RightAt (x : S33) : Prop := ∀ (A4 : Option Addr) (c4 : Nat) (A5 : Option Addr) (c5 : Nat) (w : World), EIn w x A4 c4 A5 c5 → Calls Tryz.prog 77 #[eV x A4 c4 A5 c5] w fun e w' => e = .returned (.bool (rightB x)) ∧ Below w.heap.size w w'
theorem kid_right (y : S33) (h : RightAt y) (A4 : Option Addr) (c4 : Nat) (A5 : Option Addr) (c5 : Nat) (w : World) (hin : EIn w y A4 c4 A5 c5) : Calls Tryz.prog 95 #[eV y A4 c4 A5 c5] w fun e w' => e = .returned (.bool (!rightB y)) ∧ Below w.heap.size w w' := by
  have hp := fun W (hb : Below w.heap.size w W) => h A4 c4 A5 c5 W (hin.below hb)
  generalize rightB y = PB at *
  have hb0 : Below w.heap.size w (w.alloc (.cells #[.int .i64 y.f0, .int .i64 y.f1, .string y.f2, .slice A4 y.f3.length c4, .slice A5 y.f4.length c5] 33)) := s_alloc (Below.refl _ _) _
  have HP := Lib.hid hp
  have HB0 := Lib.hid hb0
  clear hp hb0 hin h
  go_enter Tryz.func95, Tryz.ntmps95
  go_wp2_with (go_at_call 77; refine (HP.out _ HB0.out).mono ?_; rintro e w1 ⟨rfl, hb⟩; have HB1 := Lib.hid (s_trans HB0.out hb); clear hb)
  go_ret
  exact ⟨rfl, HB1.out⟩
theorem right_eq (x : S33) : rightB x = if (kidsB x.f0).2 = false then false else if (x.f4.length : Int) ≠ (kidsB x.f0).1 then false else if x.f0 ≠ 3 ∧ x.f2.size ≠ 0 then false else if x.f0 ≠ 3 ∧ 0 < x.f3.length then false else
    if x.f0 = 1 then numB x.f1 else if x.f0 = 2 then boxedB x.f1 else if x.f1 ≠ 0 then false else if x.f0 = 3 then (if nameB x.f2 = false then false else if 16 < x.f3.length then false else !x.f3.any (fun f => !picksB f)) else rightL x.f4 := by
  obtain ⟨k, n, f, fs, ks⟩ := x
  rw [rightB]
theorem right_step (x : S33) (ih : ∀ y ∈ x.f4, RightAt y) : RightAt x := by
  intro A4 c4 A5 c5 w hin
  have hE := right_eq x
  obtain ⟨m, ok, hk⟩ : ∃ m ok, kidsB x.f0 = (m, ok) := ⟨_, _, rfl⟩
  have hm : m ≤ 3 := by have := kidsB_le x.f0; rw [hk] at this; exact this
  rw [hk] at hE
  dsimp only at hE
  cases ok with
  | false => rw [if_pos rfl] at hE; rw [hE]; exact right_no x A4 c4 A5 c5 w hin m false hk rfl
  | true =>
    rw [if_neg (by simp)] at hE
    by_cases h1 : (x.f4.length : Int) ≠ m
    · rw [if_pos h1] at hE; rw [hE]; exact right_len x A4 c4 A5 c5 w hin m true hk rfl h1
    · rw [if_neg h1] at hE
      replace h1 : (x.f4.length : Int) = m := Classical.byContradiction h1
      by_cases h3 : x.f0 = 3
      · rw [if_neg (fun h => h.1 h3), if_neg (fun h => h.1 h3), if_neg (by omega), if_neg (by omega)] at hE
        by_cases hn : x.f1 ≠ 0
        · rw [if_pos hn] at hE; rw [hE]; exact right_k3n x A4 c4 A5 c5 w hin m true hk rfl h1 h3 hn
        · rw [if_neg hn, if_pos h3] at hE
          replace hn : x.f1 = 0 := Classical.byContradiction hn
          cases hnb : nameB x.f2 with
          | false => rw [hnb, if_pos rfl] at hE; rw [hE]; exact right_k3name x A4 c4 A5 c5 w hin m true hk rfl h1 h3 hn hnb
          | true =>
            rw [hnb, if_neg (by simp)] at hE
            by_cases h16 : 16 < x.f3.length
            · rw [if_pos h16] at hE; rw [hE]; exact right_k3many x A4 c4 A5 c5 w hin m true hk rfl h1 h3 hn hnb h16
            · rw [if_neg h16] at hE; rw [hE]; exact right_k3 x A4 c4 A5 c5 w hin m true hk rfl h1 h3 hn hnb (by omega)
      · by_cases hf : x.f2.size ≠ 0
        · rw [if_pos ⟨h3, hf⟩] at hE; rw [hE]; exact right_field x A4 c4 A5 c5 w hin m true hk rfl h1 h3 hf
        · rw [if_neg (fun h => hf h.2)] at hE
          replace hf : x.f2.size = 0 := Classical.byContradiction hf
          by_cases hfs : 0 < x.f3.length
          · rw [if_pos ⟨h3, hfs⟩] at hE; rw [hE]; exact right_filt x A4 c4 A5 c5 w hin m true hk rfl h1 h3 hf hfs
          · rw [if_neg (fun h => hfs h.2)] at hE
            replace hfs : x.f3.length = 0 := by omega
            by_cases k1 : x.f0 = 1
            · rw [if_pos k1] at hE; rw [hE]; exact right_k1 x A4 c4 A5 c5 w hin m true hk rfl h1 k1 hf hfs
            · rw [if_neg k1] at hE
              by_cases k2 : x.f0 = 2
              · rw [if_pos k2] at hE; rw [hE]; exact right_k2 x A4 c4 A5 c5 w hin m true hk rfl h1 k2 hf hfs
              · rw [if_neg k2] at hE
                by_cases hn : x.f1 ≠ 0
                · rw [if_pos hn] at hE; rw [hE]; exact right_kn x A4 c4 A5 c5 w hin m true hk rfl h1 ⟨k1, k2, h3⟩ hf hfs hn
                · rw [if_neg hn, if_neg h3, rightL_all] at hE
                  replace hn : x.f1 = 0 := Classical.byContradiction hn
                  rw [hE]
                  exact right_k x A4 c4 A5 c5 w hin m true hk rfl h1 ⟨k1, k2, h3⟩ hf hfs hn hm (fun y => !rightB y) (fun y hy A4 c4 A5 c5 W hi => kid_right y (ih y hy) A4 c4 A5 c5 W hi)
theorem kid_lt {x y : S33} (h : y ∈ x.f4) : SizeOf.sizeOf y < SizeOf.sizeOf x := by
  obtain ⟨k, n, f, fs, ks⟩ := x
  have := List.sizeOf_lt_of_mem h
  simp at this ⊢
  omega
theorem right_any : ∀ (n : Nat) (x : S33), SizeOf.sizeOf x < n → RightAt x
  | 0, x, h => by omega
  | n + 1, x, h => right_step x (fun y hy => right_any n y (by have := kid_lt hy; omega))
theorem right_at (x : S33) : RightAt x := right_any (SizeOf.sizeOf x + 1) x (Nat.lt_succ_self _)
/-! ### how deep it is -/
mutual
def depthB : S33 → Nat → Int
  | ⟨_, _, _, _, ks⟩, m => depthL ks m 1
def depthL : List S33 → Nat → Int → Int
  | [], _, d => d
  | x :: xs, m, d => if m = 0 then d else depthL xs m (mx d (1 + depthB x (m - 1)))
end
theorem mx_ge (a b : Int) : a ≤ mx a b ∧ b ≤ mx a b ∧ (mx a b = a ∨ mx a b = b) := by unfold mx; split <;> omega
mutual
theorem depthB_bd : ∀ (x : S33) (m : Nat), 1 ≤ depthB x m ∧ depthB x m ≤ m + 1
  | ⟨_, _, _, _, ks⟩, m => by rw [depthB]; exact depthL_bd ks m 1 (by omega) (by omega)
theorem depthL_bd : ∀ (l : List S33) (m : Nat) (d : Int), 1 ≤ d → d ≤ m + 1 → 1 ≤ depthL l m d ∧ depthL l m d ≤ m + 1
  | [], m, d, h1, h2 => by rw [depthL]; exact ⟨h1, h2⟩
  | x :: xs, m, d, h1, h2 => by
    rw [depthL]
    by_cases hm : m = 0
    · rw [if_pos hm]; exact ⟨h1, h2⟩
    · rw [if_neg hm]
      have hb := depthB_bd x (m - 1)
      have hq := mx_ge d (1 + depthB x (m - 1))
      exact depthL_bd xs m _ (by omega) (by omega)
end
theorem rd41 (L : List S33) (i : Nat) : rd_T33 L (i : Int) = L.getD i z33 := by unfold rd_T33; rw [Int.toNat_natCast]
theorem drop_d {α : Type} (l : List α) (i : Nat) (h : i < l.length) (d : α) : l.drop i = l.getD i d :: l.drop (i + 1) := by
  rw [List.drop_eq_getElem_cons h, List.getD_eq_getElem?_getD, List.getElem?_eq_getElem h]
  rfl
theorem wrapS (i : Nat) (h : i < 1000000000000) : wrap64 ((i : Int) + 1) = ((i + 1 : Nat) : Int) := by unfold wrap64; omega
theorem up {α : Type} {F : Nat → Option α} (hm : ∀ k, LeO (F k) (F (k + 1))) {a : Nat} {r : α} (h : F a = some r) : ∀ {k : Nat}, a ≤ k → F k = some r := by
  intro k hk
  obtain ⟨d, rfl⟩ : ∃ d, k = a + d := ⟨k - a, by omega⟩
  clear hk
  induction d with
  | zero => exact h
  | succ d ih => exact hm _ _ ih
theorem depth_up {x : S33} {m : Int} {r : Int} {a k : Nat} (h : syntax_depth.f a x.f0 x.f1 x.f2 x.f3 x.f4 m = some r) (hk : a ≤ k) : syntax_depth.f k x.f0 x.f1 x.f2 x.f3 x.f4 m = some r := up (fun k => syntax_depth.mono _ _ _ _ _ _ k) h hk
theorem depthl_up {m d : Int} {l : List S33} {n i : Int} {r : Int} {a k : Nat} (h : syntax_depth.l0 a m d l n i = some r) (hk : a ≤ k) : syntax_depth.l0 k m d l n i = some r := up (fun k => (syntax_depth.mono_l k).2 _ _ _ _ _) h hk
theorem wrapD {r : Int} {m : Nat} (h1 : 1 ≤ r) (h2 : r ≤ m + 1) (hm : m ≤ 100) : wrap64 (1 + r) = 1 + r := by unfold wrap64; omega
theorem wrapM {m : Nat} (h : m ≠ 0) (hm : m ≤ 100) : wrap64 ((m : Int) - 1) = ((m - 1 : Nat) : Int) := by unfold wrap64; omega
def DepthAt (x : S33) : Prop := ∀ m : Nat, m ≤ 100 → ∃ a, syntax_depth.f a x.f0 x.f1 x.f2 x.f3 x.f4 (m : Int) = some (depthB x m)
theorem depth_l (l : List S33) (hl : l.length < 1000000000000) (hx : ∀ x ∈ l, DepthAt x) (m : Nat) (hm : m ≤ 100) : ∀ (q i : Nat) (d : Int), i + q = l.length → ∃ a, syntax_depth.l0 a (m : Int) d l (l.length : Int) (i : Int) = some (depthL (l.drop i) m d)
  | 0, i, d, h => ⟨1, by rw [syntax_depth.l0, if_neg (by omega), List.drop_eq_nil_of_le (by omega), depthL]⟩
  | q + 1, i, d, h => by
    have hi : i < l.length := by omega
    rw [drop_d l i hi z33, depthL]
    by_cases hm0 : m = 0
    · refine ⟨1, ?_⟩
      rw [syntax_depth.l0, if_pos (by omega), if_pos (by omega), if_pos (by omega), if_pos (by omega), if_pos hm0]
    · rw [if_neg hm0]
      have hy : l.getD i z33 ∈ l := by rw [List.getD_eq_getElem?_getD, List.getElem?_eq_getElem hi]; exact List.getElem_mem hi
      obtain ⟨a1, h1⟩ := hx _ hy (m - 1) (by omega)
      obtain ⟨a2, h2⟩ := depth_l l hl hx m hm q (i + 1) (mx d (1 + depthB (l.getD i z33) (m - 1))) (by omega)
      have hb := depthB_bd (l.getD i z33) (m - 1)
      refine ⟨max a1 a2 + 1, ?_⟩
      rw [syntax_depth.l0, if_pos (by omega), if_pos (by omega), if_pos (by omega), if_neg (by omega), rd41, wrapM hm0 hm, depth_up h1 (Nat.le_max_left _ _), Option.bind_some, wrapS i (by omega), wrapD hb.1 hb.2 (by omega)]
      exact depthl_up h2 (Nat.le_max_right _ _)
mutual
/-- No list in it is longer than any memory. -/
def Small : S33 → Prop
  | ⟨_, _, _, fs, ks⟩ => fs.length < 1000000000000 ∧ ks.length < 1000000000000 ∧ SmallL ks
def SmallL : List S33 → Prop
  | [] => True
  | x :: xs => Small x ∧ SmallL xs
end
theorem smallL_mem : ∀ {l : List S33}, SmallL l → ∀ y ∈ l, Small y
  | x :: xs, h, y, hy => by
    rw [SmallL] at h
    rcases List.mem_cons.1 hy with e | hy
    · rw [e]; exact h.1
    · exact smallL_mem h.2 y hy
theorem Small.kids {x : S33} (h : Small x) : x.f4.length < 1000000000000 ∧ ∀ y ∈ x.f4, Small y := by
  obtain ⟨k, n, f, fs, ks⟩ := x
  rw [Small] at h
  exact ⟨h.2.1, smallL_mem h.2.2⟩
theorem depth_n : ∀ (n : Nat) (x : S33), SizeOf.sizeOf x < n → Small x → DepthAt x
  | 0, x, h, _ => by omega
  | n + 1, x, h, hs => fun m hm => by
    obtain ⟨a, ha⟩ := depth_l x.f4 hs.kids.1 (fun y hy => depth_n n y (by have := kid_lt hy; omega) (hs.kids.2 y hy)) m hm x.f4.length 0 1 (by omega)
    refine ⟨a + 1, ?_⟩
    rw [show ((0 : Nat) : Int) = 0 from rfl, List.drop_zero] at ha
    obtain ⟨k, n, f, fs, ks⟩ := x
    rw [syntax_depth.f, depthB]
    exact ha
theorem deep_any (x : S33) (hs : Small x) (A4 : Option Addr) (c4 : Nat) (A5 : Option Addr) (c5 : Nat) (w : World) (hin : EIn w x A4 c4 A5 c5) : Calls Tryz.prog 76 #[eV x A4 c4 A5 c5] w fun e w' => e = .returned (.int .i64 (depthB x 64)) ∧ Below w.heap.size w w' := by
  obtain ⟨a, ha⟩ := depth_n (SizeOf.sizeOf x + 1) x (Nat.lt_succ_self _) hs 64 (by omega)
  refine syntax_Deep.calls a x.f0 x.f1 x.f2 A4 c4 x.f3 A5 c5 x.f4 _ w hin.c3 hin.l3 hin.c4 hin.l4 ?_
  unfold syntax_Deep.f
  rw [show (64 : Int) = ((64 : Nat) : Int) from rfl, ha]
  rfl
noncomputable def goodB (x : S33) : Bool := decide (depthB x 64 ≤ 64) && rightB x
set_option maxRecDepth 100000 in
set_option maxHeartbeats 2000000 in
theorem goodE_any (x : S33) (hs : Small x) (A4 : Option Addr) (c4 : Nat) (A5 : Option Addr) (c5 : Nat) (w : World) (hin : EIn w x A4 c4 A5 c5) : Calls Tryz.prog 67 #[eV x A4 c4 A5 c5] w fun e w' => e = .returned (.bool (goodB x)) ∧ Below w.heap.size w w' := by
  have hd := fun W (hb : Below w.heap.size w W) => deep_any x hs A4 c4 A5 c5 W (hin.below hb)
  have hr := fun W (hb : Below w.heap.size w W) => right_at x A4 c4 A5 c5 W (hin.below hb)
  unfold goodB
  obtain ⟨k, n, f, fs, ks⟩ := x
  generalize depthB ⟨k, n, f, fs, ks⟩ 64 = DB at *
  generalize rightB ⟨k, n, f, fs, ks⟩ = RB at *
  have hb0 : Below w.heap.size w (w.alloc (.cells #[.int .i64 k, .int .i64 n, .string f, .slice A4 fs.length c4, .slice A5 ks.length c5] 33)) := s_alloc (Below.refl _ _) _
  have hx0 : (w.alloc (.cells #[.int .i64 k, .int .i64 n, .string f, .slice A4 fs.length c4, .slice A5 ks.length c5] 33)).heap[w.heap.size]? = some (.cells #[.int .i64 k, .int .i64 n, .string f, .slice A4 fs.length c4, .slice A5 ks.length c5] 33 (0, 0)) := Array.getElem?_push_size
  have HD := Lib.hid hd
  have HR := Lib.hid hr
  have HB0 := Lib.hid hb0
  have HX0 := Lib.hid hx0
  clear hd hr hb0 hx0 hin hs
  by_cases h64 : DB ≤ 64
  · have d1 : decide (DB ≤ 64) = true := decide_eq_true h64
    rw [d1]
    go_enter Tryz.func67, Tryz.ntmps67
    go_wp2_with (first
      | (go_at_call 76; refine (HD.out _ HB0.out).mono ?_; rintro e w1 ⟨rfl, hb⟩; have HB1 := Lib.hid (s_trans HB0.out hb); obtain ⟨x0, x1, x2, x3, x4⟩ := cells5 (block_on hb HX0.out); clear hb)
      | (go_at_call 77; refine (HR.out _ HB1.out).mono ?_; rintro e w2 ⟨rfl, hb⟩; have HB2 := Lib.hid (s_trans HB1.out hb); clear hb))
    go_ret
    exact ⟨rfl, HB2.out⟩
  · have d1 : decide (DB ≤ 64) = false := decide_eq_false h64
    rw [d1]
    go_enter Tryz.func67, Tryz.ntmps67
    go_wp2_with (go_at_call 76; refine (HD.out _ HB0.out).mono ?_; rintro e w1 ⟨rfl, hb⟩; have HB1 := Lib.hid (s_trans HB0.out hb); obtain ⟨x0, x1, x2, x3, x4⟩ := cells5 (block_on hb HX0.out); clear hb)
    go_ret
    exact ⟨rfl, HB1.out⟩
end Go.Proofs.YtmkalnljclhigaaGreat.Ch
