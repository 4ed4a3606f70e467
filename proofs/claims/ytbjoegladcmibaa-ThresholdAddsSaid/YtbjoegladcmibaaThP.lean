import Derived.Test.YtbjoegladcmibaaThNum
import Derived.Test.YtbjoegladcmibaaXThresholdAddsx4
import Derived.Test.YtbjoegladcmibaaThY
namespace Go.Proofs.Ytbjoegladcmibaa.ThP
set_option linter.unusedVariables false
set_option linter.unusedSimpArgs false
set_option linter.unnecessarySimpa false
open Go.RowKit Go.Proofs.Ytbjoegladcmibaa.XThresholdAdds Go.Proofs.YtbjoegladcmibaaW.PrintWords Go.Proofs.YtbjoegladcmibaaW.PrintLast Go.Proofs.Ytbjoegladcmibaa.ThNum Go.Proofs.YtbjoegladcmibaaK
open Go.Proofs.Ytbjoegladcmibaa.Thr (upd withV withE overB Yrs)

def own (l : List S53) (y : Int) : List Int := (l.filter (fun x => x.f0 == y)).map (·.f1)
theorem own_nil (y : Int) : own [] y = [] := rfl
theorem own_cons (x : S53) (l : List S53) (y : Int) : own (x :: l) y = if x.f0 = y then x.f1 :: own l y else own l y := by
  unfold own
  by_cases h : x.f0 = y
  · rw [if_pos h, List.filter_cons_of_pos (by simpa using h)]; rfl
  · rw [if_neg h, List.filter_cons_of_neg (by simpa using h)]
theorem own_append (l m : List S53) (y : Int) : own (l ++ m) y = own l y ++ own m y := by
  unfold own; rw [List.filter_append, List.map_append]
theorem own_len (l : List S53) (y : Int) : (own l y).length ≤ l.length := by
  unfold own; rw [List.length_map]; exact List.length_filter_le _ _
theorem sumI_append (a b : List Int) : sumI (a ++ b) = sumI a + sumI b := by
  induction a with
  | nil => simp [sumI]
  | cons x a ih => simp only [List.cons_append]; show x + sumI (a ++ b) = x + sumI a + sumI b; rw [ih, Int.add_assoc]
theorem sum_any (l : List Int) (hl : l.length < 800) (hm : ∀ x ∈ l, May x) (k : Nat) (hk : 4000 ≤ k) : octroiref01_Sum.f k l = some (if May (sumI l) then (sumI l, 0) else (0, 3)) := sum_spec l hl hm k (by omega)
/-- What was added, and what it comes to. -/
structure Good (l : List S53) (T : Int → Int) : Prop where
  may : ∀ x ∈ l, May x.f1
  year : ∀ x ∈ l, 1970 ≤ x.f0 ∧ x.f0 ≤ 9999
  sum : ∀ y, T y = sumI (own l y)
  in_ : ∀ y, May (T y)
theorem Good.ownMay {l : List S53} {T : Int → Int} (h : Good l T) (y : Int) : ∀ x ∈ own l y, May x := fun x hx => by
  unfold own at hx
  obtain ⟨z, hz, rfl⟩ := List.mem_map.1 hx
  exact h.may z (List.mem_filter.1 hz).1
theorem rd53_nat (l : List S53) (i : Nat) : rd_T53 l (i : Int) = l.getD i z53 := by unfold rd_T53; rw [Int.toNat_natCast]
theorem of_loop (l : List S53) (hl : l.length ≤ 100) (y : Int) : ∀ (m k i : Nat) (acc : List Int), i + m = l.length → m + 4001 ≤ k → acc.length ≤ i → (∀ x ∈ acc ++ own (l.drop i) y, May x) →
    octroiref19_Of.l0 k l y acc (i : Int) = some (if May (sumI (acc ++ own (l.drop i) y)) then sumI (acc ++ own (l.drop i) y) else 0)
  | 0, k, i, acc, h1, h2, h3, h4 => by
    obtain ⟨k, rfl⟩ : ∃ q, k = q + 1 := ⟨k - 1, by omega⟩
    rw [octroiref19_Of.l0, if_neg (by omega)]
    rw [List.drop_eq_nil_of_le (by omega), own_nil, List.append_nil] at h4 ⊢
    rw [sum_any acc (by omega) h4 k (by omega)]
    by_cases h : May (sumI acc)
    · rw [if_pos h, if_pos h]; rfl
    · rw [if_neg h, if_neg h]; rfl
  | m + 1, k, i, acc, h1, h2, h3, h4 => by
    obtain ⟨k, rfl⟩ : ∃ q, k = q + 1 := ⟨k - 1, by omega⟩
    have hi : i < l.length := by omega
    have hd : l.drop i = l.getD i z53 :: l.drop (i + 1) := by
      rw [List.drop_eq_getElem_cons hi, List.getD_eq_getElem?_getD, List.getElem?_eq_getElem hi]
      rfl
    have hw : wrap64 ((i : Int) + 1) = ((i + 1 : Nat) : Int) := by unfold wrap64; omega
    rw [octroiref19_Of.l0, if_pos (by omega), if_pos (by omega), rd53_nat, hw]
    rw [hd, own_cons] at h4 ⊢
    generalize l.getD i z53 = x at *
    by_cases hx : x.f0 = y
    · rw [if_pos hx] at h4 ⊢
      rw [if_pos hx, if_pos (by omega), of_loop l hl y m k (i + 1) (acc ++ [x.f1]) (by omega) (by omega) (by simp; omega) (by simpa using h4)]
      rw [List.append_assoc]; rfl
    · rw [if_neg hx] at h4 ⊢
      rw [if_neg hx, of_loop l hl y m k (i + 1) acc (by omega) (by omega) (by omega) h4]
theorem of_spec19 {l : List S53} {T : Int → Int} (h : Good l T) (hl : l.length ≤ 100) (y : Int) (k : Nat) (hk : 5000 ≤ k) : octroiref19_Of.f k l y = some (T y) := by
  have := of_loop l hl y l.length k 0 [] (by omega) (by omega) (Nat.zero_le _) (by rw [List.drop_zero, List.nil_append]; exact h.ownMay y)
  rw [List.drop_zero, List.nil_append, ← h.sum y, if_pos (h.in_ y)] at this
  exact this
theorem may_iff (a : Int) : mayM a = true ↔ May a := mayM_iff a
theorem sumL_two (a b : Int) : sumL [a, b] = a + b := by rw [sumL_cons, sumL_cons, sumL_nil, Int.add_zero]
theorem two_spec {t : Int} (ht : May t) (a : Int) (k : Nat) (hk : 4000 ≤ k) : octroiref01_Sum.f k [t, a] = some (sumV [t, a], sumE [t, a]) := by
  unfold sumV sumE
  by_cases ha : May a
  · have h1 : [t, a].all mayM = true := by simp [may_iff, ht, ha]
    rw [if_pos h1, if_pos h1, sum_any [t, a] (by simp) (fun x hx => by simp at hx; rcases hx with rfl | rfl <;> assumption) k hk, sumL_two]
    have hs : sumI [t, a] = t + a := by simp [sumI]
    rw [hs]
    by_cases h : May (t + a)
    · rw [if_pos h, if_pos ((may_iff _).2 h), if_pos ((may_iff _).2 h)]
    · rw [if_neg h, if_neg (fun e => h ((may_iff _).1 e)), if_neg (fun e => h ((may_iff _).1 e))]
  · have h1 : ¬ ([t, a].all mayM = true) := by simp [may_iff, ha]
    rw [if_neg h1, if_neg h1, sum_bad_spec [t, a] (by simp) ⟨a, by simp, ha⟩ k (by simp; omega)]
theorem wrong_spec {l : List S53} {T : Int → Int} (h : Good l T) (hl : l.length ≤ 100) (y a : Int) (k : Nat) (hk : 6000 ≤ k) : octroiref19_wrong.f k l y a = some (withE T y a) := by
  obtain ⟨k, rfl⟩ : ∃ q, k = q + 1 := ⟨k - 1, by omega⟩
  unfold octroiref19_wrong.f withE
  by_cases h1 : y < 1970
  · rw [if_pos h1, if_neg (by omega), octroiref19_wrong.j0, if_pos rfl]
  · rw [if_neg h1]
    by_cases h2 : y > 9999
    · rw [if_neg (by omega), decide_eq_true h2, octroiref19_wrong.j0, if_pos rfl]
    · rw [if_pos ⟨by omega, by omega⟩, decide_eq_false h2, octroiref19_wrong.j0, if_neg (by decide), of_spec19 h hl y k (by omega), Option.bind_some, two_spec (h.in_ y) a k (by omega)]
      rfl
theorem add_spec19 {l : List S53} {T : Int → Int} (h : Good l T) (hl : l.length ≤ 100) (y a : Int) (k : Nat) (hk : 6000 ≤ k) : octroiref19_Add.f k l y a = some (if withE T y a = 0 then l ++ [⟨y, a⟩] else l, withE T y a) := by
  unfold octroiref19_Add.f
  rw [wrong_spec h hl y a k hk, Option.bind_some]
  by_cases he : withE T y a = 0
  · rw [if_pos he, if_pos he, he, Option.bind_some, if_pos (by simp; omega), Option.bind_some, if_pos (by simp; omega)]
    rfl
  · rw [if_neg he, if_neg he]
theorem over_spec19 {l : List S53} {T : Int → Int} (h : Good l T) (hl : l.length ≤ 100) (y a : Int) (o : Bool) (k : Nat) (hk : 6000 ≤ k) : octroiref19_Over.f k l y a o = some (overB T y a o, withE T y a) := by
  unfold octroiref19_Over.f
  rw [wrong_spec h hl y a k hk, Option.bind_some]
  unfold overB
  by_cases he : withE T y a = 0
  · rw [if_pos he, if_pos he, he, of_spec19 h hl y k (by omega), Option.bind_some, two_spec (h.in_ y) a k (by omega), Option.bind_some]
    have hy : 1970 ≤ y ∧ y ≤ 9999 := by
      by_cases hy : 1970 ≤ y ∧ y ≤ 9999
      · exact hy
      · unfold withE at he; rw [if_neg hy] at he; cases he
    have hV : withV T y a = sumV [T y, a] := by unfold withV; rw [if_pos hy]
    have hw : wrap64 (y - 1) = y - 1 := by unfold wrap64; omega
    cases o
    · rw [if_neg (by decide), hw, of_spec19 h hl (y - 1) k (by omega), Option.bind_some, hV]
      by_cases h1 : T (y - 1) > 1000000
      · rw [if_pos h1]
        have : decide (1000000 < T (y - 1)) = true := decide_eq_true h1
        rw [this]
        simp
      · rw [if_neg h1]
        have : decide (1000000 < T (y - 1)) = false := decide_eq_false h1
        rw [this]
        simp
    · rw [if_pos rfl]
      simp
  · rw [if_neg he, if_neg he]
theorem Good.none : Good [] (fun _ => 0) := ⟨fun x hx => by simp at hx, fun x hx => by simp at hx, fun y => rfl, fun y => by unfold May; omega⟩
theorem withE_zero {T : Int → Int} {y a : Int} (he : withE T y a = 0) : (1970 ≤ y ∧ y ≤ 9999) ∧ May a ∧ May (T y) ∧ May (T y + a) ∧ withV T y a = T y + a := by
  unfold withE at he
  by_cases hy : 1970 ≤ y ∧ y ≤ 9999
  · rw [if_pos hy] at he
    unfold withV
    rw [if_pos hy]
    unfold sumE at he
    unfold sumV
    by_cases h1 : [T y, a].all mayM = true
    · rw [if_pos h1] at he ⊢
      simp [may_iff] at h1
      by_cases h2 : mayM (sumL [T y, a]) = true
      · rw [if_pos h2]
        rw [sumL_two] at h2 ⊢
        exact ⟨hy, h1.2, h1.1, (may_iff _).1 h2, rfl⟩
      · rw [if_neg h2] at he; cases he
    · rw [if_neg h1] at he; cases he
  · rw [if_neg hy] at he; cases he
theorem Good.add {l : List S53} {T : Int → Int} (h : Good l T) {y a : Int} (he : withE T y a = 0) : Good (l ++ [⟨y, a⟩]) (upd T y (withV T y a)) := by
  obtain ⟨h1, h2, h3, h4, h5⟩ := withE_zero he
  refine ⟨fun x hx => ?_, fun x hx => ?_, fun z => ?_, fun z => ?_⟩
  · rcases List.mem_append.1 hx with hx | hx
    · exact h.may x hx
    · rw [List.mem_singleton.1 hx]; exact h2
  · rcases List.mem_append.1 hx with hx | hx
    · exact h.year x hx
    · rw [List.mem_singleton.1 hx]; exact h1
  · rw [own_append, sumI_append, own_cons, own_nil]
    unfold upd
    by_cases hz : z = y
    · subst hz
      rw [if_pos rfl, if_pos rfl, h5, h.sum z]
      simp [sumI]
    · rw [if_neg hz, if_neg (fun e => hz e.symm), h.sum z]
      simp [sumI]
  · unfold upd
    by_cases hz : z = y
    · rw [if_pos hz, h5]; exact h4
    · rw [if_neg hz]; exact h.in_ z
end Go.Proofs.Ytbjoegladcmibaa.ThP
