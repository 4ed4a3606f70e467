import Derived.Test.YtbjoegladcmibaaThP
import Derived.Test.YtbjoegladcmibaaXThresholdAddsx11
namespace Go.Proofs.Ytbjoegladcmibaa.ThP
set_option linter.unusedVariables false
set_option linter.unusedSimpArgs false
set_option linter.unnecessarySimpa false
open Go.RowKit Go.Proofs.Ytbjoegladcmibaa.XThresholdAdds Go.Proofs.YtbjoegladcmibaaW.PrintWords Go.Proofs.YtbjoegladcmibaaW.PrintLast Go.Proofs.Ytbjoegladcmibaa.ThNum Go.Proofs.YtbjoegladcmibaaK
open Go.Proofs.Ytbjoegladcmibaa.Thr (upd withV withE overB Yrs)

def bstep (last b y : Int) : Int := if y > last then (if b = 0 then y else if y < b then y else b) else b
def bestF (last : Int) : Int → List S53 → Int
  | b, [] => b
  | b, x :: l => bestF last (bstep last b x.f0) l
theorem best_spec (last : Int) (h0 : 0 ≤ last) : ∀ (l : List S53) (b : Int), (b = 0 ∨ last < b) →
    (bestF last b l = 0 → b = 0 ∧ ∀ x ∈ l, x.f0 ≤ last) ∧ (bestF last b l ≠ 0 → last < bestF last b l ∧ (bestF last b l = b ∨ ∃ x ∈ l, x.f0 = bestF last b l) ∧ (b ≠ 0 → bestF last b l ≤ b) ∧ ∀ x ∈ l, last < x.f0 → bestF last b l ≤ x.f0)
  | [], b, hb => ⟨fun h => ⟨h, fun x hx => by simp at hx⟩, fun h => ⟨by rcases hb with hb | hb; exact absurd hb h; exact hb, Or.inl rfl, fun _ => Int.le_refl _, fun x hx => by simp at hx⟩⟩
  | x :: l, b, hb => by
    have hb' : bstep last b x.f0 = 0 ∨ last < bstep last b x.f0 := by
      unfold bstep
      split
      · split
        · exact Or.inr (by omega)
        · split
          · exact Or.inr (by omega)
          · exact hb
      · exact hb
    obtain ⟨i1, i2⟩ := best_spec last h0 l (bstep last b x.f0) hb'
    have hs : (bstep last b x.f0 = 0 ↔ b = 0 ∧ x.f0 ≤ last) ∧ (bstep last b x.f0 ≠ 0 → (bstep last b x.f0 = b ∨ bstep last b x.f0 = x.f0) ∧ (b ≠ 0 → bstep last b x.f0 ≤ b) ∧ (last < x.f0 → bstep last b x.f0 ≤ x.f0)) := by
      unfold bstep
      split
      · split
        · refine ⟨⟨fun h => by omega, fun h => by omega⟩, fun _ => ⟨Or.inr rfl, fun h => by omega, fun _ => Int.le_refl _⟩⟩
        · split
          · refine ⟨⟨fun h => by omega, fun h => by omega⟩, fun _ => ⟨Or.inr rfl, fun h => by omega, fun _ => Int.le_refl _⟩⟩
          · refine ⟨⟨fun h => by omega, fun h => by omega⟩, fun _ => ⟨Or.inl rfl, fun h => Int.le_refl _, fun _ => by omega⟩⟩
      · exact ⟨⟨fun h => ⟨h, by omega⟩, fun h => h.1⟩, fun _ => ⟨Or.inl rfl, fun _ => Int.le_refl _, fun h => by omega⟩⟩
    obtain ⟨s1, s2⟩ := hs
    rw [show bestF last b (x :: l) = bestF last (bstep last b x.f0) l from rfl]
    refine ⟨fun h => ?_, fun h => ?_⟩
    · obtain ⟨j1, j2⟩ := i1 h
      obtain ⟨j3, j4⟩ := s1.1 j1
      exact ⟨j3, fun z hz => by rcases List.mem_cons.1 hz with e | e; rw [e]; exact j4; exact j2 z e⟩
    · obtain ⟨j1, j2, j3, j4⟩ := i2 h
      generalize hc : bstep last b x.f0 = c at *
      have hle : ∀ z ∈ x :: l, last < z.f0 → bestF last c l ≤ z.f0 := fun z hz hlt => by
        rcases List.mem_cons.1 hz with e | e
        · subst e
          have hcn : c ≠ 0 := fun e => by have := (s1.1 e).2; omega
          have := (s2 hcn).2.2 hlt
          have := j3 hcn
          omega
        · exact j4 z e hlt
      have hbb : b ≠ 0 → bestF last c l ≤ b := fun hb0 => by
        have hcn : c ≠ 0 := fun e => hb0 (s1.1 e).1
        have := (s2 hcn).2.1 hb0
        have := j3 hcn
        omega
      refine ⟨j1, ?_, hbb, hle⟩
      rcases j2 with j2 | ⟨z, hz, e⟩
      · have hcn : c ≠ 0 := fun e => h (by rw [j2, e])
        rcases (s2 hcn).1 with e | e
        · exact Or.inl (j2.trans e)
        · exact Or.inr ⟨x, List.mem_cons_self .., by rw [j2, e]⟩
      · exact Or.inr ⟨z, List.mem_cons_of_mem _ hz, e⟩
def fin (l : List S53) (acc : List Int) (kk : Int) (k : Nat) (best : Int) : Option (List Int) :=
  if best = 0 then some acc else ((octroiref19_Of.f k l best).bind fun t225 => (if t225 = 0 then (octroiref19_Years.l0 k l acc best (wrap64 (kk + 1))) else (if acc.length < 17592186044416 then (octroiref19_Years.l0 k l (acc ++ [best]) best (wrap64 (kk + 1))) else (none))))
theorem l1_spec (l : List S53) (hl : l.length ≤ 100) (acc : List Int) (last kk : Int) (k : Nat) : ∀ (m i : Nat) (b : Int), i + m = l.length → octroiref19_Years.l1 (k + m + 1) l acc last kk b (i : Int) = fin l acc kk k (bestF last b (l.drop i))
  | 0, i, b, h => by
    rw [Nat.add_zero, octroiref19_Years.l1, if_neg (by omega), List.drop_eq_nil_of_le (by omega)]
    rfl
  | m + 1, i, b, h => by
    have hi : i < l.length := by omega
    have hd : l.drop i = l.getD i z53 :: l.drop (i + 1) := by
      rw [List.drop_eq_getElem_cons hi, List.getD_eq_getElem?_getD, List.getElem?_eq_getElem hi]
      rfl
    have hw : wrap64 ((i : Int) + 1) = ((i + 1 : Nat) : Int) := by unfold wrap64; omega
    rw [octroiref19_Years.l1, if_pos (by omega), if_pos (by omega), rd53_nat, hw, hd]
    show _ = fin l acc kk k (bestF last (bstep last b (l.getD i z53).f0) (l.drop (i + 1)))
    have e : k + (m + 1) = k + m + 1 := rfl
    rw [e]
    unfold bstep
    split
    · split
      · exact l1_spec l hl acc last kk k m (i + 1) _ (by omega)
      · split
        · exact l1_spec l hl acc last kk k m (i + 1) _ (by omega)
        · exact l1_spec l hl acc last kk k m (i + 1) _ (by omega)
    · exact l1_spec l hl acc last kk k m (i + 1) _ (by omega)
def YsP (l : List S53) (T : Int → Int) (last : Int) (ys : List Int) : Prop := ys.Pairwise (· < ·) ∧ ∀ y, y ∈ ys ↔ last < y ∧ (∃ x ∈ l, x.f0 = y) ∧ T y ≠ 0
theorem filter_le (last best : Int) (hlt : last < best) : ∀ (q : List S53), (q.filter (fun x => decide (best < x.f0))).length ≤ (q.filter (fun x => decide (last < x.f0))).length
  | [] => by simp
  | u :: q => by
    have ih := filter_le last best hlt q
    by_cases h1 : best < u.f0
    · rw [List.filter_cons_of_pos (by simpa using h1), List.filter_cons_of_pos (by simp; omega)]
      simp only [List.length_cons]; omega
    · rw [List.filter_cons_of_neg (by simpa using h1)]
      by_cases h2 : last < u.f0
      · rw [List.filter_cons_of_pos (by simpa using h2)]; simp only [List.length_cons]; omega
      · rw [List.filter_cons_of_neg (by simpa using h2)]; exact ih
theorem filter_less {last best : Int} {x0 : S53} : ∀ (l : List S53), x0 ∈ l → x0.f0 = best → last < best → (l.filter (fun x => decide (best < x.f0))).length < (l.filter (fun x => decide (last < x.f0))).length
  | [], h, _, _ => by simp at h
  | z :: l, hx0, e0, c1 => by
    rcases List.mem_cons.1 hx0 with e | e
    · subst e
      rw [List.filter_cons_of_neg (by simp; omega), List.filter_cons_of_pos (by simp; omega)]
      have := filter_le last best c1 l
      simp only [List.length_cons]; omega
    · have ih' := filter_less l e e0 c1
      by_cases h1 : best < z.f0
      · rw [List.filter_cons_of_pos (by simpa using h1), List.filter_cons_of_pos (by simp; omega)]
        simp only [List.length_cons]; omega
      · rw [List.filter_cons_of_neg (by simpa using h1)]
        by_cases h2 : last < z.f0
        · rw [List.filter_cons_of_pos (by simpa using h2)]; simp only [List.length_cons]; omega
        · rw [List.filter_cons_of_neg (by simpa using h2)]; exact ih'
theorem yn0 {P n F k : Nat} (h : P + (n + 2) + F ≤ k) : k = k - n - 2 + n + 1 + 1 := by omega
theorem yn1 {P n k F : Nat} (h : P + (n + 2) + F ≤ k + n + 1 + 1) : P + F ≤ k := by omega
theorem yn2 {P k F : Nat} (h : P + F ≤ k) (hF : 6000 ≤ F) : 5000 ≤ k := by omega
theorem yn3 {P k F : Nat} (h : P + F ≤ k) (hF : 6000 ≤ F) : k = k - 1 + 1 := by omega
theorem yn4 {m kk n : Nat} (h : m + 1 + kk = n) : m + (kk + 1) = n := by omega
theorem yn5 {n kk m : Nat} (h : m + 1 + kk = n) : (kk : Int) < (n : Int) := by omega
theorem yn6 {n kk m : Nat} (h : m + 1 + kk = n) (hn : n ≤ 100) : wrap64 ((kk : Int) + 1) = ((kk + 1 : Nat) : Int) := by unfold wrap64; omega
theorem yn7 {a kk m n : Nat} (ha : a ≤ kk) (h : m + 1 + kk = n) (hn : n ≤ 100) : a < 17592186044416 := by omega
theorem yn8 {a b : Int} (h0 : 0 ≤ a) (h : a < b) : 0 ≤ b := by omega
theorem yn9 {a b m : Nat} (h : a < b) (h2 : b ≤ m + 1) : a ≤ m := by omega
theorem years_loop {l : List S53} {T : Int → Int} (h : Good l T) (hl : l.length ≤ 100) {F : Nat} (hF : 6000 ≤ F) : ∀ (m k kk : Nat) (last : Int) (acc : List Int), (l.filter (fun x => decide (last < x.f0))).length ≤ m → m + kk = l.length → 0 ≤ last → (m + 1) * (l.length + 2) + F ≤ k → acc.length ≤ kk →
    ∃ ys, octroiref19_Years.l0 k l acc last (kk : Int) = some (acc ++ ys) ∧ YsP l T last ys
  | 0, k, kk, last, acc, hm, hk, h0, hf, ha => by
    obtain ⟨k, rfl⟩ : ∃ q, k = q + 1 := ⟨k - 1, yn3 hf hF⟩
    rw [octroiref19_Years.l0, if_neg (by omega)]
    refine ⟨[], by simp, List.Pairwise.nil, fun y => ⟨fun hy => by simp at hy, fun ⟨h1, ⟨x, hx, e⟩, _⟩ => ?_⟩⟩
    have h3 := List.eq_nil_of_length_eq_zero (Nat.le_zero.1 hm)
    have : x ∈ l.filter (fun x => decide (last < x.f0)) := List.mem_filter.2 ⟨hx, by rw [e]; exact decide_eq_true h1⟩
    rw [h3] at this
    simp at this
  | m + 1, k, kk, last, acc, hm, hk, h0, hf, ha => by
    rw [Nat.succ_mul] at hf
    generalize hP : (m + 1) * (l.length + 2) = P at hf
    obtain ⟨k, rfl⟩ : ∃ q, k = q + l.length + 1 + 1 := ⟨k - l.length - 2, yn0 hf⟩
    have hfk := yn1 hf
    have hk5 := yn2 hfk hF
    rw [octroiref19_Years.l0, if_pos (yn5 hk)]
    have e1 := l1_spec l hl acc last (kk : Int) k l.length 0 0 (by omega)
    rw [List.drop_zero] at e1
    rw [show ((0 : Nat) : Int) = 0 from rfl] at e1
    rw [e1]
    obtain ⟨b1, b2⟩ := best_spec last h0 l 0 (Or.inl rfl)
    generalize bestF last 0 l = best at *
    unfold fin
    by_cases hb : best = 0
    · rw [if_pos hb]
      obtain ⟨_, hall⟩ := b1 hb
      refine ⟨[], by simp, List.Pairwise.nil, fun y => ⟨fun hy => by simp at hy, fun ⟨h1, ⟨x, hx, e⟩, _⟩ => ?_⟩⟩
      have := hall x hx
      omega
    · obtain ⟨c1, c2, _, c4⟩ := b2 hb
      have c2' : ∃ x ∈ l, x.f0 = best := by
        rcases c2 with c2 | c2
        · exact absurd c2 hb
        · exact c2
      obtain ⟨x0, hx0, ex0⟩ := c2'
      have hfl : (l.filter (fun x => decide (best < x.f0))).length ≤ m := by
        exact yn9 (filter_less l hx0 ex0 c1) hm
      have hw := yn6 hk hl
      rw [if_neg hb, of_spec19 h hl best k hk5, Option.bind_some, hw]
      by_cases ht : T best = 0
      · rw [if_pos ht]
        obtain ⟨ys, e2, s1, s2⟩ := years_loop h hl hF m k (kk + 1) best acc hfl (yn4 hk) (yn8 h0 c1) (by rw [hP]; exact hfk) (Nat.le_succ_of_le ha)
        refine ⟨ys, e2, s1, fun y => ?_⟩
        rw [s2 y]
        refine ⟨fun ⟨h1, h2, h3⟩ => ⟨by omega, h2, h3⟩, fun ⟨h1, h2, h3⟩ => ⟨?_, h2, h3⟩⟩
        obtain ⟨x, hx, e⟩ := h2
        have h9 := c4 x hx (by omega)
        have : y ≠ best := fun e => h3 (by rw [e]; exact ht)
        omega
      · rw [if_neg ht, if_pos (by have := yn7 ha hk hl; exact_mod_cast this)]
        obtain ⟨ys, e2, s1, s2⟩ := years_loop h hl hF m k (kk + 1) best (acc ++ [best]) hfl (yn4 hk) (yn8 h0 c1) (by rw [hP]; exact hfk) (by rw [List.length_append]; exact Nat.succ_le_succ ha)
        refine ⟨best :: ys, by rw [e2]; simp, List.pairwise_cons.2 ⟨fun y hy => ((s2 y).1 hy).1, s1⟩, fun y => ?_⟩
        rw [List.mem_cons, s2 y]
        constructor
        · rintro (rfl | ⟨h1, h2, h3⟩)
          · exact ⟨c1, ⟨x0, hx0, ex0⟩, ht⟩
          · exact ⟨by omega, h2, h3⟩
        · rintro ⟨h1, ⟨x, hx, e⟩, h3⟩
          have h9 := c4 x hx (by omega)
          by_cases hyb : y = best
          · exact Or.inl hyb
          · exact Or.inr ⟨by omega, ⟨x, hx, e⟩, h3⟩
theorem sumI_own_nil {l : List S53} {T : Int → Int} (h : Good l T) {y : Int} (hy : T y ≠ 0) : ∃ x ∈ l, x.f0 = y := by
  cases ho : own l y with
  | nil => exact absurd (by rw [h.sum y, ho]; rfl) hy
  | cons a q =>
    have : a ∈ own l y := by rw [ho]; exact List.mem_cons_self ..
    unfold own at this
    obtain ⟨z, hz, _⟩ := List.mem_map.1 this
    obtain ⟨h1, h2⟩ := List.mem_filter.1 hz
    exact ⟨z, h1, by simpa using h2⟩
theorem years_spec {l : List S53} {T : Int → Int} (h : Good l T) (hl : l.length ≤ 100) (k : Nat) (hk : 20000 ≤ k) : ∃ ys, octroiref19_Years.f k l = some ys ∧ Yrs (fun y => T y != 0) ys := by
  have hb : (l.length + 1) * (l.length + 2) ≤ 101 * 102 := Nat.mul_le_mul (by omega) (by omega)
  obtain ⟨ys, e, s1, s2⟩ := years_loop h hl (Nat.le_refl _) l.length k 0 0 [] (List.length_filter_le _ _) (by omega) (Int.le_refl _) (by omega) (Nat.le_refl _)
  refine ⟨ys, by unfold octroiref19_Years.f; simpa using e, s1, fun y hy => ?_, fun y hy => ?_⟩
  · obtain ⟨_, ⟨x, hx, e⟩, _⟩ := (s2 y).1 hy
    have := h.year x hx
    exact WalkArith.wf_i64 (by omega)
  · rw [s2 y]
    simp only [bne_iff_ne, ne_eq]
    refine ⟨fun h => h.2.2, fun ht => ?_⟩
    obtain ⟨x, hx, e⟩ := sumI_own_nil h ht
    have := h.year x hx
    exact ⟨by omega, ⟨x, hx, e⟩, ht⟩
theorem sorted_eq : ∀ {a b : List Int}, a.Pairwise (· < ·) → b.Pairwise (· < ·) → (∀ y, y ∈ a ↔ y ∈ b) → a = b
  | [], [], _, _, _ => rfl
  | [], y :: b, _, _, h => by have := (h y).2 (List.mem_cons_self ..); simp at this
  | x :: a, [], _, _, h => by have := (h x).1 (List.mem_cons_self ..); simp at this
  | x :: a, y :: b, ha, hb, h => by
    obtain ⟨a1, a2⟩ := List.pairwise_cons.1 ha
    obtain ⟨b1, b2⟩ := List.pairwise_cons.1 hb
    have hxy : x = y := by
      rcases List.mem_cons.1 ((h x).1 (List.mem_cons_self ..)) with e | e
      · exact e
      · have h1 := b1 x e
        rcases List.mem_cons.1 ((h y).2 (List.mem_cons_self ..)) with e2 | e2
        · exact e2.symm
        · have := a1 y e2
          omega
    subst hxy
    rw [sorted_eq a2 b2 (fun z => ?_)]
    constructor
    · intro hz
      rcases List.mem_cons.1 ((h z).1 (List.mem_cons_of_mem _ hz)) with e | e
      · have := a1 z hz; omega
      · exact e
    · intro hz
      rcases List.mem_cons.1 ((h z).2 (List.mem_cons_of_mem _ hz)) with e | e
      · have := b1 z hz; omega
      · exact e
theorem same_loop (a : List Int) (ha : a.length < 1000000) : ∀ (m k i : Nat), i + m = a.length → m + 1 ≤ k → octroiref03_Same.l0 k a a (i : Int) = some true
  | 0, k, i, h1, h2 => by
    obtain ⟨k, rfl⟩ : ∃ q, k = q + 1 := ⟨k - 1, by omega⟩
    rw [octroiref03_Same.l0, if_neg (by omega)]
  | m + 1, k, i, h1, h2 => by
    obtain ⟨k, rfl⟩ : ∃ q, k = q + 1 := ⟨k - 1, by omega⟩
    have hw : wrap64 ((i : Int) + 1) = ((i + 1 : Nat) : Int) := by unfold wrap64; omega
    rw [octroiref03_Same.l0, if_pos (by omega), if_pos (by omega), if_pos (by omega), if_pos rfl, hw]
    exact same_loop a ha m k (i + 1) (by omega) (by omega)
theorem same_spec (a : List Int) (ha : a.length < 1000000) (k : Nat) (hk : a.length + 1 ≤ k) : octroiref03_Same.f k a a = some true := by
  unfold octroiref03_Same.f
  rw [if_pos rfl]
  exact same_loop a ha a.length k 0 (by omega) (by omega)
theorem Yrs.uniq {K : Int → Bool} {a b : List Int} (h1 : Yrs K a) (h2 : Yrs K b) : a = b :=
  sorted_eq h1.sorted h2.sorted (fun y => ⟨fun hy => (h2.mem y (h1.wf y hy)).2 ((h1.mem y (h1.wf y hy)).1 hy), fun hy => (h1.mem y (h2.wf y hy)).2 ((h2.mem y (h2.wf y hy)).1 hy)⟩)
end Go.Proofs.Ytbjoegladcmibaa.ThP
