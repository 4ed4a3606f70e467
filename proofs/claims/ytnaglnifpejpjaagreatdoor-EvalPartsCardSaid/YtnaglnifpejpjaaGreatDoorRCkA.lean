/- Several texts in one. -/
import Derived.Test.YtnaglnifpejpjaaGreatDoorRChA
import Derived.Laws.MakeOwn
import Derived.Deep.LoopGhost
import Derived.Laws.RangeAny
import Derived.Test.YtnaglnifpejpjaaGreatDoorRXEvalRunsx4
import Derived.Test.YtnaglnifpejpjaaGreatDoorRXEvalRunsx17
import Derived.Test.YtnaglnifpejpjaaGreatDoorRXEvalRunsx18
/-
  Plain words: what stands in a text; rising lists.
-/
namespace Go.Proofs.YtnaglnifpejpjaaGreatDoor.Ch
set_option linter.unusedVariables false
set_option linter.unusedSimpArgs false
set_option linter.unnecessarySimpa false
open Go.RowKit Go.Maps Go.Proofs.YtnaglnifpejpjaaGreatDoorK Go.Proofs.YtnaglnifpejpjaaGreatDoor.XEvalRuns Go.Proofs.YtnaglnifpejpjaaGreatDoorW.PrintWords Go.Proofs.YtnaglnifpejpjaaGreatDoorW.PrintLast Go.Sort

/-! ### letters -/
abbrev outP (r : Nat) : Bool := decide (r < 97) || decide (122 < r)
theorem idx_out (s : ByteArray) : ∀ (f pos : Nat), s.size - pos ≤ f → (Lib.idxFuncFrom outP true s f pos = -1 ↔ ∀ i, pos ≤ i → (h : i < s.size) → outP (s[i]'h).toNat = false)
 | 0, pos, hf => by
   rw [Lib.idxFuncFrom]
   exact ⟨fun _ i h1 h2 => by omega, fun _ => rfl⟩
 | f + 1, pos, hf => by
   rw [Lib.idxFuncFrom]
   by_cases hp : pos < s.size
   ·rw [if_pos hp]
    by_cases ha : (s[pos]'hp).toNat < 128
    ·rw [decode_ascii s pos hp ha]
     cases ho : outP (s[pos]'hp).toNat with
     | true =>
       rw [if_pos rfl]
       exact ⟨fun h => by omega, fun h => by rw [h pos (Nat.le_refl _) hp] at ho; cases ho⟩
     | false =>
       rw [if_neg (by decide), idx_out s f (pos + 1) (by omega)]
       refine ⟨fun h i h1 h2 => ?_, fun h i h1 h2 => h i (by omega) h2⟩
       by_cases e : i = pos
       ·subst e; exact ho
       ·exact h i (by omega) h2
    ·have hd := (decode_high s pos hp (by omega)).1
     have ho : outP (Utf8.decode s pos).1 = true := by unfold outP; simp; omega
     rw [if_pos ho]
     refine ⟨fun h => by omega, fun h => ?_⟩
     have := h pos (Nat.le_refl _) hp
     unfold outP at this
     simp at this
     omega
   ·rw [if_neg hp]
    exact ⟨fun _ i h1 h2 => by omega, fun _ => rfl⟩
theorem out_iff (s : ByteArray) : outIn s = false ↔ ∀ i, (h : i < s.size) → 97 ≤ (s[i]'h).toNat ∧ (s[i]'h).toNat ≤ 122 := by
 unfold outIn
 have h1 := idx_out s s.size 0 (by omega)
 have h2 := Lib.idxFunc_range outP true s
 have e : Lib.idxFuncFrom outP true s s.size 0 = Lib.idxFunc outP true s := rfl
 rw [e] at h1
 rw [decide_eq_false_iff_not]
 constructor
 ·intro h i hi
  have := h1.1 (by rcases h2 with h2 | h2; exact h2; exact absurd h2.1 h) i (Nat.zero_le _) hi
  unfold outP at this
  simp at this
  omega
 ·intro h
  rw [h1.2 (fun i _ hi => by have := h i hi; unfold outP; simp; omega)]
  decide
/-! ### rising lists -/
end Go.Proofs.YtnaglnifpejpjaaGreatDoor.Ch

/-
  Few: it answers; what it looks at is small.
-/
namespace Go.Proofs.YtnaglnifpejpjaaGreatDoor.Ch
set_option linter.unusedVariables false
set_option linter.unusedSimpArgs false
set_option linter.unnecessarySimpa false
open Go.RowKit Go.Maps Go.Proofs.YtnaglnifpejpjaaGreatDoorK Go.Proofs.YtnaglnifpejpjaaGreatDoor.XEvalRuns Go.Proofs.YtnaglnifpejpjaaGreatDoorW.PrintWords Go.Proofs.YtnaglnifpejpjaaGreatDoorW.PrintLast Go.Sort

mutual
/-- No list in it takes more than all memory. -/
def Fit : S25 → Prop
 | ⟨_, _, _, fs, ks⟩ => fs.length ≤ 140737488351232 ∧ ks.length ≤ 140737488351232 ∧ FitL ks
def FitL : List S25 → Prop
 | [] => True
 | x :: xs => Fit x ∧ FitL xs
end
theorem fitL_mem : ∀ {l : List S25}, FitL l → ∀ y ∈ l, Fit y
 | x :: xs, h, y, hy => by
   rw [FitL] at h
   rcases List.mem_cons.1 hy with e | hy
   ·rw [e]; exact h.1
   ·exact fitL_mem h.2 y hy
theorem fitL_of : ∀ {l : List S25}, (∀ y ∈ l, Fit y) → FitL l
 | [], _ => by rw [FitL]; trivial
 | x :: xs, h => by rw [FitL]; exact ⟨h x List.mem_cons_self, fitL_of fun y hy => h y (List.mem_cons_of_mem _ hy)⟩
theorem Fit.kids {x : S25} (h : Fit x) : x.f3.length ≤ 140737488351232 ∧ x.f4.length ≤ 140737488351232 ∧ ∀ y ∈ x.f4, Fit y := by
 obtain ⟨k, n, f, fs, ks⟩ := x
 rw [Fit] at h
 exact ⟨h.1, h.2.1, fitL_mem h.2.2⟩
theorem wrapF (i : Nat) (h : i ≤ 140737488351232) : wrap64 ((i : Int) + 1) = ((i + 1 : Nat) : Int) := by unfold wrap64; omega
/-! ### the reference's depth -/
def DeepAt (x : S25) : Prop := ∀ m : Nat, m ≤ 100 → ∃ a, octroiref31_Deep.f a x.f0 x.f1 x.f2 x.f3 x.f4 (m : Int) = some (depthB x m)
theorem deepf_up {x : S25} {m r : Int} {a k : Nat} (h : octroiref31_Deep.f a x.f0 x.f1 x.f2 x.f3 x.f4 m = some r) (hk : a ≤ k) : octroiref31_Deep.f k x.f0 x.f1 x.f2 x.f3 x.f4 m = some r := up (fun k => octroiref31_Deep.mono _ _ _ _ _ _ k) h hk
theorem deepl_up {m d i e0 e1 : Int} {e2 : ByteArray} {e3 : List S70} {l : List S25} {r : Int} {a k : Nat} (h : octroiref31_Deep.l0 a m d i e0 e1 e2 e3 l = some r) (hk : a ≤ k) : octroiref31_Deep.l0 k m d i e0 e1 e2 e3 l = some r := up (fun k => (octroiref31_Deep.mono_l k).2 _ _ _ _ _ _ _ _) h hk
theorem deep_l (e0 e1 : Int) (e2 : ByteArray) (e3 : List S70) (l : List S25) (hl : l.length ≤ 140737488351232) (hx : ∀ x ∈ l, DeepAt x) (m : Nat) (hm : m ≤ 100) : ∀ (q i : Nat) (d : Int), i + q = l.length → ∃ a, octroiref31_Deep.l0 a (m : Int) d (i : Int) e0 e1 e2 e3 l = some (depthL (l.drop i) m d)
 | 0, i, d, h => ⟨1, by rw [octroiref31_Deep.l0, if_neg (by omega), List.drop_eq_nil_of_le (by omega), depthL]⟩
 | q + 1, i, d, h => by
   have hi : i < l.length := by omega
   rw [drop_d l i hi z25, depthL]
   by_cases hm0 : m = 0
   ·refine ⟨1, ?_⟩
    rw [octroiref31_Deep.l0, if_pos (by omega), if_neg (by omega), if_pos hm0]
   ·rw [if_neg hm0]
    have hy : l.getD i z25 ∈ l := by rw [List.getD_eq_getElem?_getD, List.getElem?_eq_getElem hi]; exact List.getElem_mem hi
    obtain ⟨a1, h1⟩ := hx _ hy (m - 1) (by omega)
    obtain ⟨a2, h2⟩ := deep_l e0 e1 e2 e3 l hl hx m hm q (i + 1) (mx d (1 + depthB (l.getD i z25) (m - 1))) (by omega)
    have hb := depthB_bd (l.getD i z25) (m - 1)
    refine ⟨max a1 a2 + 1, ?_⟩
    rw [octroiref31_Deep.l0, if_pos (by omega), if_pos (by omega), if_pos (by omega), rd41, wrapM hm0 hm, deepf_up h1 (Nat.le_max_left _ _), Option.bind_some, wrapF i (by omega), wrapD hb.1 hb.2 (by omega)]
    exact deepl_up h2 (Nat.le_max_right _ _)
theorem deep_n : ∀ (n : Nat) (x : S25), SizeOf.sizeOf x < n → Fit x → DeepAt x
 | 0, x, h, _ => by omega
 | n + 1, x, h, hs => fun m hm => by
   obtain ⟨a, ha⟩ := deep_l x.f0 x.f1 x.f2 x.f3 x.f4 hs.kids.2.1 (fun y hy => deep_n n y (by have := kid_lt hy; omega) (hs.kids.2.2 y hy)) m hm x.f4.length 0 1 (by omega)
   refine ⟨a + 1, ?_⟩
   rw [show ((0 : Nat) : Int) = 0 from rfl, List.drop_zero] at ha
   obtain ⟨k, n, f, fs, ks⟩ := x
   rw [octroiref31_Deep.f, depthB]
   exact ha
theorem deep_at (x : S25) (h : Fit x) : DeepAt x := deep_n (SizeOf.sizeOf x + 1) x (Nat.lt_succ_self _) h
/-! ### how many parts it has -/
mutual
def sizeB : S25 → Int → Int
 | ⟨_, _, _, fs, ks⟩, most => sizeL ks most (1 + fs.length)
def sizeL : List S25 → Int → Int → Int
 | [], _, n => n
 | x :: xs, most, n => if n > most then n else sizeL xs most (n + sizeB x (most - n))
end
mutual
theorem sizeB_bd : ∀ (x : S25) (most : Int), Fit x → 0 ≤ most → 1 ≤ sizeB x most ∧ sizeB x most ≤ most + 140737488351233
 | ⟨_, _, _, fs, ks⟩, most, h, hm => by
   rw [Fit] at h
   rw [sizeB]
   have := sizeL_bd ks most (1 + fs.length) h.2.2 hm (by omega) (by omega)
   omega
theorem sizeL_bd : ∀ (l : List S25) (most n : Int), FitL l → 0 ≤ most → 1 ≤ n → n ≤ most + 140737488351233 → n ≤ sizeL l most n ∧ sizeL l most n ≤ most + 140737488351233
 | [], most, n, _, _, h1, h2 => by rw [sizeL]; omega
 | x :: xs, most, n, h, hm, h1, h2 => by
   rw [FitL] at h
   rw [sizeL]
   split
   ·omega
   ·have hb := sizeB_bd x (most - n) h.1 (by omega)
    have := sizeL_bd xs most (n + sizeB x (most - n)) h.2 hm (by omega) (by omega)
    omega
end
def SizeAt (x : S25) : Prop := ∀ m : Int, 0 ≤ m → m ≤ 400 → ∃ a, octroilaw31_size.f a x.f0 x.f1 x.f2 x.f3 x.f4 m = some (sizeB x m)
theorem sizef_up {x : S25} {m r : Int} {a k : Nat} (h : octroilaw31_size.f a x.f0 x.f1 x.f2 x.f3 x.f4 m = some r) (hk : a ≤ k) : octroilaw31_size.f k x.f0 x.f1 x.f2 x.f3 x.f4 m = some r := up (fun k => octroilaw31_size.mono _ _ _ _ _ _ k) h hk
theorem sizel_up {m n c i e0 e1 : Int} {e2 : ByteArray} {e3 : List S70} {l : List S25} {r : Int} {a k : Nat} (h : octroilaw31_size.l0 a m n c i e0 e1 e2 e3 l = some r) (hk : a ≤ k) : octroilaw31_size.l0 k m n c i e0 e1 e2 e3 l = some r := up (fun k => (octroilaw31_size.mono_l k).2 _ _ _ _ _ _ _ _ _) h hk
theorem wrapN {x : Int} (h1 : -1000000000000000 ≤ x) (h2 : x ≤ 1000000000000000) : wrap64 x = x := by unfold wrap64; omega
theorem size_l (e0 e1 : Int) (e2 : ByteArray) (e3 : List S70) (l : List S25) (hl : l.length ≤ 140737488351232) (hf : ∀ x ∈ l, Fit x) (hx : ∀ x ∈ l, SizeAt x) (m : Int) (hm0 : 0 ≤ m) (hm : m ≤ 400) : ∀ (q i : Nat) (n : Int), i + q = l.length → 1 ≤ n → n ≤ m + 140737488351233 → ∃ a, octroilaw31_size.l0 a m n (l.length : Int) (i : Int) e0 e1 e2 e3 l = some (sizeL (l.drop i) m n)
 | 0, i, n, h, h1, h2 => ⟨1, by rw [octroilaw31_size.l0, if_neg (by omega), List.drop_eq_nil_of_le (by omega), sizeL]⟩
 | q + 1, i, n, h, h1, h2 => by
   have hi : i < l.length := by omega
   rw [drop_d l i hi z25, sizeL]
   by_cases hn : n > m
   ·refine ⟨1, ?_⟩
    rw [octroilaw31_size.l0, if_pos (by omega), if_pos hn, if_pos hn]
   ·rw [if_neg hn]
    have hy : l.getD i z25 ∈ l := by rw [List.getD_eq_getElem?_getD, List.getElem?_eq_getElem hi]; exact List.getElem_mem hi
    obtain ⟨a1, ha1⟩ := hx _ hy (m - n) (by omega) (by omega)
    have hb := sizeB_bd (l.getD i z25) (m - n) (hf _ hy) (by omega)
    obtain ⟨a2, ha2⟩ := size_l e0 e1 e2 e3 l hl hf hx m hm0 hm q (i + 1) (n + sizeB (l.getD i z25) (m - n)) (by omega) (by omega) (by omega)
    refine ⟨max a1 a2 + 1, ?_⟩
    rw [octroilaw31_size.l0, if_pos (by omega), if_neg hn, if_pos (by omega), if_pos (by omega), rd41, wrapN (x := m - n) (by omega) (by omega), sizef_up ha1 (Nat.le_max_left _ _), Option.bind_some, wrapF i (by omega), wrapN (x := n + sizeB (l.getD i z25) (m - n)) (by omega) (by omega)]
    exact sizel_up ha2 (Nat.le_max_right _ _)
theorem size_n : ∀ (n : Nat) (x : S25), SizeOf.sizeOf x < n → Fit x → SizeAt x
 | 0, x, h, _ => by omega
 | n + 1, x, h, hs => fun m hm0 hm => by
   obtain ⟨a, ha⟩ := size_l x.f0 x.f1 x.f2 x.f3 x.f4 hs.kids.2.1 hs.kids.2.2 (fun y hy => size_n n y (by have := kid_lt hy; omega) (hs.kids.2.2 y hy)) m hm0 hm x.f4.length 0 (1 + x.f3.length) (by omega) (by omega) (by have := hs.kids.1; omega)
   refine ⟨a + 1, ?_⟩
   rw [show ((0 : Nat) : Int) = 0 from rfl, List.drop_zero] at ha
   have hk := hs.kids.1
   obtain ⟨k, n, f, fs, ks⟩ := x
   dsimp only at ha hk ⊢
   rw [octroilaw31_size.f, sizeB, wrapN (by omega) (by omega)]
   exact ha
theorem size_at (x : S25) (h : Fit x) : SizeAt x := size_n (SizeOf.sizeOf x + 1) x (Nat.lt_succ_self _) h
/-! ### all parts -/
mutual
def parts : S25 → Nat
 | ⟨_, _, _, fs, ks⟩ => 1 + fs.length + partsL ks
def partsL : List S25 → Nat
 | [] => 0
 | x :: xs => parts x + partsL xs
end
mutual
theorem parts_of : ∀ (x : S25) (most : Int), Fit x → 0 ≤ most → sizeB x most ≤ most → sizeB x most = parts x
 | ⟨_, _, _, fs, ks⟩, most, hf, hm, h => by
   rw [Fit] at hf
   rw [sizeB] at h
   rw [parts, sizeB]
   have := partsL_of ks most (1 + fs.length) hf.2.2 hm (by omega) h
   omega
theorem partsL_of : ∀ (l : List S25) (most n : Int), FitL l → 0 ≤ most → 1 ≤ n → sizeL l most n ≤ most → sizeL l most n = n + (partsL l : Int)
 | [], most, n, _, _, h1, h => by rw [sizeL, partsL]; omega
 | x :: xs, most, n, hf, hm, h1, h => by
   rw [FitL] at hf
   rw [sizeL] at h
   rw [sizeL, partsL]
   by_cases hn : n > most
   ·rw [if_pos hn] at h; omega
   ·rw [if_neg hn] at h
    rw [if_neg hn]
    have hb := sizeB_bd x (most - n) hf.1 (by omega)
    have hg := sizeL_bd xs most (n + sizeB x (most - n)) hf.2 hm (by omega) (by omega)
    have h2 := parts_of x (most - n) hf.1 (by omega) (by omega)
    have h3 := partsL_of xs most (n + sizeB x (most - n)) hf.2 hm (by omega) h
    omega
end
mutual
theorem small_of : ∀ (x : S25) (n : Nat), parts x ≤ n → n ≤ 1000000 → Small x ∧ (refsB x).length ≤ parts x
 | ⟨k, b, _, fs, ks⟩, n, h, hn => by
   rw [parts] at h
   have hk := small_ofL ks n (by omega) hn
   rw [Small, refsB, parts, List.length_append]
   refine ⟨⟨by omega, by omega, hk.1⟩, ?_⟩
   have : (if k = 2 then [b] else []).length ≤ 1 := by split <;> simp
   omega
theorem small_ofL : ∀ (l : List S25) (n : Nat), partsL l ≤ n → n ≤ 1000000 → SmallL l ∧ (refsL l).length ≤ partsL l ∧ l.length ≤ partsL l
 | [], n, _, _ => by rw [SmallL, refsL]; simp
 | x :: xs, n, h, hn => by
   rw [partsL] at h
   have h1 := small_of x n (by omega) hn
   have h2 := small_ofL xs n (by omega) hn
   have h3 : 1 ≤ parts x := by obtain ⟨_, _, _, _, _⟩ := x; rw [parts]; omega
   rw [SmallL, refsL, partsL, List.length_append, List.length_cons]
   exact ⟨⟨h1.1, h2.1⟩, by omega, by omega⟩
end
/-! ### short -/
def ShortAt (x : S25) : Prop := ∃ a r, octroilaw31_short.f a x.f0 x.f1 x.f2 x.f3 x.f4 = some r
theorem shortf_up {x : S25} {r : Bool} {a k : Nat} (h : octroilaw31_short.f a x.f0 x.f1 x.f2 x.f3 x.f4 = some r) (hk : a ≤ k) : octroilaw31_short.f k x.f0 x.f1 x.f2 x.f3 x.f4 = some r := up (fun k => octroilaw31_short.mono _ _ _ _ _ k) h hk
theorem short1_up {l : List S25} {n i : Int} {r : Bool} {a k : Nat} (h : octroilaw31_short.l1 a l n i = some r) (hk : a ≤ k) : octroilaw31_short.l1 k l n i = some r := up (fun k => (octroilaw31_short.mono_l k).2.2 _ _ _) h hk
theorem short_l1 (l : List S25) (hl : l.length ≤ 140737488351232) (hx : ∀ x ∈ l, ShortAt x) : ∀ (q i : Nat), i + q = l.length → ∃ a r, octroilaw31_short.l1 a l (l.length : Int) (i : Int) = some r
 | 0, i, h => ⟨1, true, by rw [octroilaw31_short.l1, if_neg (by omega)]⟩
 | q + 1, i, h => by
   have hi : i < l.length := by omega
   have hy : l.getD i z25 ∈ l := by rw [List.getD_eq_getElem?_getD, List.getElem?_eq_getElem hi]; exact List.getElem_mem hi
   obtain ⟨a1, r1, h1⟩ := hx _ hy
   obtain ⟨a2, r2, h2⟩ := short_l1 l hl hx q (i + 1) (by omega)
   cases r1 with
   | true =>
     refine ⟨max a1 a2 + 1, r2, ?_⟩
     rw [octroilaw31_short.l1, if_pos (by omega), if_pos (by omega), if_pos (by omega), rd41, shortf_up h1 (Nat.le_max_left _ _), Option.bind_some, if_pos rfl, wrapF i (by omega)]
     exact short1_up h2 (Nat.le_max_right _ _)
   | false =>
     refine ⟨a1 + 1, false, ?_⟩
     rw [octroilaw31_short.l1, if_pos (by omega), if_pos (by omega), if_pos (by omega), rd41, h1, Option.bind_some, if_neg (by decide)]
theorem short_l0 (fs : List S70) (hl : fs.length ≤ 140737488351232) (e0 e1 : Int) (e2 : ByteArray) (e3 : List S70) (l : List S25) (a : Nat) (r : Bool) (hr : octroilaw31_short.l1 a l (l.length : Int) 0 = some r) : ∀ (q i : Nat), i + q = fs.length → ∃ a r, octroilaw31_short.l0 a fs (fs.length : Int) (i : Int) e0 e1 e2 e3 l = some r
 | 0, i, h => ⟨a + 1, r, by rw [octroilaw31_short.l0, if_neg (by omega)]; exact hr⟩
 | q + 1, i, h => by
   obtain ⟨a2, r2, h2⟩ := short_l0 fs hl e0 e1 e2 e3 l a r hr q (i + 1) (by omega)
   by_cases hs : (((rd_T70 fs (i : Int)).f0).size : Int) > 100
   ·exact ⟨1, false, by rw [octroilaw31_short.l0, if_pos (by omega), if_pos (by omega), if_pos (by omega), if_pos hs]⟩
   ·refine ⟨a2 + 1, r2, ?_⟩
    rw [octroilaw31_short.l0, if_pos (by omega), if_pos (by omega), if_pos (by omega), if_neg hs, wrapF i (by omega)]
    exact h2
theorem short_n : ∀ (n : Nat) (x : S25), SizeOf.sizeOf x < n → Fit x → ShortAt x
 | 0, x, h, _ => by omega
 | n + 1, x, h, hs => by
   obtain ⟨a, r, ha⟩ := short_l1 x.f4 hs.kids.2.1 (fun y hy => short_n n y (by have := kid_lt hy; omega) (hs.kids.2.2 y hy)) x.f4.length 0 (by omega)
   obtain ⟨a2, r2, h2⟩ := short_l0 x.f3 hs.kids.1 x.f0 x.f1 x.f2 x.f3 x.f4 a r ha x.f3.length 0 (by omega)
   by_cases hz : (x.f2.size : Int) > 100
   ·exact ⟨1, false, by rw [octroilaw31_short.f, if_pos hz]⟩
   ·exact ⟨a2 + 1, r2, by rw [octroilaw31_short.f, if_neg hz]; exact h2⟩
theorem short_at (x : S25) (h : Fit x) : ShortAt x := short_n (SizeOf.sizeOf x + 1) x (Nat.lt_succ_self _) h
/-! ### few, Few -/
theorem few_at (x : S25) (h : Fit x) : ∃ a r, octroilaw31_few.f a x.f0 x.f1 x.f2 x.f3 x.f4 = some r ∧ (r = true → depthB x 100 ≤ 100 ∧ parts x ≤ 400) := by
 obtain ⟨a1, h1⟩ := deep_at x h 100 (by omega)
 obtain ⟨a2, h2⟩ := size_at x h 400 (by omega) (by omega)
 obtain ⟨a3, r3, h3⟩ := short_at x h
 refine ⟨max a1 (max a2 a3), ?_⟩
 rw [octroilaw31_few.f, show (100 : Int) = ((100 : Nat) : Int) from rfl, deepf_up h1 (Nat.le_max_left _ _), Option.bind_some]
 by_cases c1 : depthB x 100 ≤ ((100 : Nat) : Int)
 ·rw [if_pos c1, sizef_up h2 (by omega), Option.bind_some]
  by_cases c2 : sizeB x 400 ≤ 400
  ·rw [if_pos c2, shortf_up h3 (by omega), Option.bind_some]
   refine ⟨_, rfl, fun _ => ⟨c1, ?_⟩⟩
   have := parts_of x 400 h (by omega) c2
   omega
  ·rw [if_neg c2]
   exact ⟨_, rfl, fun h => by cases h⟩
 ·rw [if_neg c1]
  exact ⟨_, rfl, fun h => by cases h⟩
theorem few_up {x : S25} {r : Bool} {a k : Nat} (h : octroilaw31_few.f a x.f0 x.f1 x.f2 x.f3 x.f4 = some r) (hk : a ≤ k) : octroilaw31_few.f k x.f0 x.f1 x.f2 x.f3 x.f4 = some r := up (fun k => octroilaw31_few.mono _ _ _ _ _ k) h hk
theorem Fewl_up {l l2 : List S66} {n i : Int} {r : Bool} {a k : Nat} (h : octroilaw31_Few.l0 a l l2 n i = some r) (hk : a ≤ k) : octroilaw31_Few.l0 k l l2 n i = some r := up (fun k => (octroilaw31_Few.mono_l k) _ _ _ _) h hk
theorem rd43 (L : List S66) (i : Nat) (h : i < L.length) : rd_T66 L (i : Int) = L[i] := by unfold rd_T66; rw [Int.toNat_natCast, List.getD_eq_getElem?_getD, List.getElem?_eq_getElem h]; rfl
theorem Few_l (l : List S66) (hl : l.length ≤ 140737488351232) (hx : ∀ x ∈ l, Fit x.f1) : ∀ (q i : Nat), i + q = l.length → ∃ a r, octroilaw31_Few.l0 a l l (l.length : Int) (i : Int) = some r ∧ (r = true → l.length ≤ 20 ∧ ∀ x ∈ l.drop i, depthB x.f1 100 ≤ 100 ∧ parts x.f1 ≤ 400)
 | 0, i, h => ⟨1, decide ((l.length : Int) ≤ 20), by rw [octroilaw31_Few.l0, if_neg (by omega)], fun h2 => ⟨by have := of_decide_eq_true h2; omega, by rw [List.drop_eq_nil_of_le (by omega)]; simp⟩⟩
 | q + 1, i, h => by
   have hi : i < l.length := by omega
   obtain ⟨a1, r1, h1, h1'⟩ := few_at l[i].f1 (hx _ (List.getElem_mem hi))
   obtain ⟨a2, r2, h2, h2'⟩ := Few_l l hl hx q (i + 1) (by omega)
   cases r1 with
   | true =>
     refine ⟨max a1 a2 + 1, r2, ?_, fun hr => ⟨(h2' hr).1, ?_⟩⟩
     ·rw [octroilaw31_Few.l0, if_pos (by omega), if_pos (by omega), if_pos (by omega), rd43 l i hi, few_up h1 (Nat.le_max_left _ _), Option.bind_some, if_pos rfl, wrapF i (by omega)]
      exact Fewl_up h2 (Nat.le_max_right _ _)
     ·rw [List.drop_eq_getElem_cons hi]
      intro x hx
      rcases List.mem_cons.1 hx with rfl | hx
      ·exact h1' rfl
      ·exact (h2' hr).2 x hx
   | false =>
     refine ⟨a1 + 1, false, ?_, fun h => by cases h⟩
     rw [octroilaw31_Few.l0, if_pos (by omega), if_pos (by omega), if_pos (by omega), rd43 l i hi, h1, Option.bind_some, if_neg (by decide)]
theorem Few_at (l : List S66) (hl : l.length ≤ 140737488351232) (hx : ∀ x ∈ l, Fit x.f1) : ∃ a r, octroilaw31_Few.f a l = some r ∧ (r = true → l.length ≤ 20 ∧ ∀ x ∈ l, depthB x.f1 100 ≤ 100 ∧ parts x.f1 ≤ 400) := by
 obtain ⟨a, r, h1, h2⟩ := Few_l l hl hx l.length 0 (by omega)
 rw [List.drop_zero] at h2
 exact ⟨a, r, h1, h2⟩
end Go.Proofs.YtnaglnifpejpjaaGreatDoor.Ch

/-
  The reference's words of the syntax: names, what is right, what is good.
-/
namespace Go.Proofs.YtnaglnifpejpjaaGreatDoor.Ch
set_option linter.unusedVariables false
set_option linter.unusedSimpArgs false
set_option linter.unnecessarySimpa false
open Go.RowKit Go.Maps Go.Proofs.YtnaglnifpejpjaaGreatDoorK Go.Proofs.YtnaglnifpejpjaaGreatDoor.XEvalRuns Go.Proofs.YtnaglnifpejpjaaGreatDoorW.PrintWords Go.Proofs.YtnaglnifpejpjaaGreatDoorW.PrintLast Go.Sort

def lettersB (s : ByteArray) : Nat → Nat → Bool
 | 0, _ => true
 | q + 1, i => decide (97 ≤ bt s i ∧ bt s i ≤ 122) && lettersB s q (i + 1)
theorem bt_at (s : ByteArray) (i : Nat) (h : i < s.size) : bt s (i : Int) = ((s[i]'h).toNat : Int) := by
 unfold bt
 simp only [Int.toNat_natCast]
 rw [dif_pos h]
theorem letters_iff (s : ByteArray) : ∀ (q i : Nat), i + q = s.size → (lettersB s q i = true ↔ ∀ j, i ≤ j → (h : j < s.size) → 97 ≤ (s[j]'h).toNat ∧ (s[j]'h).toNat ≤ 122)
 | 0, i, h => by
   rw [lettersB]
   exact ⟨fun _ j h1 h2 => by omega, fun _ => rfl⟩
 | q + 1, i, h => by
   have hi : i < s.size := by omega
   rw [lettersB, Bool.and_eq_true, decide_eq_true_eq, letters_iff s q (i + 1) (by omega), bt_at s i hi]
   constructor
   ·rintro ⟨h1, h2⟩ j h3 h4
    by_cases e : j = i
    ·subst e; omega
    ·exact h2 j (by omega) h4
   ·intro h1
    have := h1 i (Nat.le_refl _) hi
    exact ⟨by omega, fun j h3 h4 => h1 j (by omega) h4⟩
theorem letters_out (s : ByteArray) : lettersB s s.size 0 = !outIn s := by
 have h1 := letters_iff s s.size 0 (by omega)
 have h2 := out_iff s
 cases ho : outIn s with
 | false =>
   rw [ho] at h2
   exact h1.2 (fun j _ hj => h2.1 rfl j hj)
 | true =>
   rw [ho] at h2
   cases hl : lettersB s s.size 0 with
   | false => rfl
   | true =>
     rw [hl] at h1
     exact absurd (h2.2 (fun i hi => h1.1 rfl i (Nat.zero_le _) hi)) (by decide)
def tailN (s : ByteArray) : Bool := decide (1 ≤ s.size) && decide (s.size ≤ 32) && !keyB s
theorem nameB_eq (s : ByteArray) : nameB s = (lettersB s s.size 0 && tailN s) := by
 unfold nameB tailN
 rw [letters_out]
 by_cases h1 : s.size < 1
 ·rw [if_pos h1, decide_eq_false (by omega)]; simp
 rw [if_neg h1, decide_eq_true (by omega : 1 ≤ s.size)]
 by_cases h2 : 32 < s.size
 ·rw [if_pos h2, decide_eq_false (by omega)]; simp
 rw [if_neg h2, decide_eq_true (by omega : s.size ≤ 32)]
 cases keyB s <;> cases outIn s <;> rfl
end Go.Proofs.YtnaglnifpejpjaaGreatDoor.Ch

/-
  The reference's 'right', 'GoodExpr', 'Good'.
-/
namespace Go.Proofs.YtnaglnifpejpjaaGreatDoor.Ch
set_option linter.unusedVariables false
set_option linter.unusedSimpArgs false
set_option linter.unnecessarySimpa false
open Go.RowKit Go.Maps Go.Proofs.YtnaglnifpejpjaaGreatDoorK Go.Proofs.YtnaglnifpejpjaaGreatDoor.XEvalRuns Go.Proofs.YtnaglnifpejpjaaGreatDoorW.PrintWords Go.Proofs.YtnaglnifpejpjaaGreatDoorW.PrintLast Go.Sort

mutual
/-- No string in it is longer than all memory. -/
def Thin : S25 → Prop
 | ⟨_, _, f, fs, ks⟩ => f.size ≤ 140737488351232 ∧ (∀ q ∈ fs, q.f0.size ≤ 140737488351232) ∧ ThinL ks
def ThinL : List S25 → Prop
 | [] => True
 | x :: xs => Thin x ∧ ThinL xs
end
theorem thinL_of : ∀ {l : List S25}, (∀ y ∈ l, Thin y) → ThinL l
 | [], _ => by rw [ThinL]; trivial
 | x :: xs, h => by rw [ThinL]; exact ⟨h x List.mem_cons_self, thinL_of fun y hy => h y (List.mem_cons_of_mem _ hy)⟩
end Go.Proofs.YtnaglnifpejpjaaGreatDoor.Ch
