/-
  The document's rates, and the program's: what Set, Of, States, Same come to (plain).
-/
import Derived.Test.YtbjoegladcmibaaQSpI2
namespace Go.Proofs.Ytbjoegladcmibaa.SpI
set_option linter.unusedVariables false
set_option linter.unusedSimpArgs false
set_option linter.unnecessarySimpa false
set_option maxRecDepth 1000000
open Go.RowKit Go.Proofs.Ytbjoegladcmibaa.Ln Go.Proofs.Ytbjoegladcmibaa.LnI Go.Proofs.Ytbjoegladcmibaa.Rt Go.Proofs.Ytbjoegladcmibaa.VRatesSets Go.Proofs.YtbjoegladcmibaaW.PrintWords Go.Proofs.YtbjoegladcmibaaW.PrintLast

abbrev RM := Lit → Option (Nat × Value × List Held)
theorem up {α : Type} {F : Nat → Option α} (hm : ∀ k, LeO (F k) (F (k + 1))) {a : Nat} {r : α} (h : F a = some r) : ∀ {k : Nat}, a ≤ k → F k = some r := by
  intro k hk
  obtain ⟨d, rfl⟩ : ∃ d, k = a + d := ⟨k - a, by omega⟩
  clear hk
  induction d with
  | zero => exact h
  | succ d ih => exact hm _ _ ih
theorem member_up (c : ByteArray) {k : Nat} (hk : 500 ≤ k) : octroiref07_Member.f k c = some (memB c) := up (fun k => octroiref07_Member.mono c k) (member_r c 500 rfl) hk
theorem members_up {k : Nat} (hk : 500 ≤ k) : octroiref07_Members.f k = some mems := up (fun k => octroiref07_Members.mono k) members_f hk
def lineR (L : List S26) (s : ByteArray) (c : Int) : List S24 := (L.filter (fun x => decide (x.f0 = s ∧ x.f1 = c))).map (·.f2)
theorem lineR_cons (x : S26) (L : List S26) (s : ByteArray) (c : Int) : lineR (x :: L) s c = if x.f0 = s ∧ x.f1 = c then x.f2 :: lineR L s c else lineR L s c := by
  unfold lineR
  rw [List.filter_cons]
  by_cases h : x.f0 = s ∧ x.f1 = c
  · rw [if_pos (by simpa using h), if_pos h]; rfl
  · rw [if_neg (by simpa using h), if_neg h]
theorem lineR_add (L : List S26) (x : S26) (s : ByteArray) (c : Int) : lineR (L ++ [x]) s c = if x.f0 = s ∧ x.f1 = c then lineR L s c ++ [x.f2] else lineR L s c := by
  unfold lineR
  rw [List.filter_append, List.map_append, List.filter_cons, List.filter_nil]
  by_cases h : x.f0 = s ∧ x.f1 = c
  · rw [if_pos (by simpa using h), if_pos h]; rfl
  · rw [if_neg (by simpa using h), if_neg h, List.map_nil, List.append_nil]
theorem lineR_len (L : List S26) (s : ByteArray) (c : Int) : (lineR L s c).length ≤ L.length := by unfold lineR; rw [List.length_map]; exact List.length_filter_le _ _
theorem rd26 (L : List S26) (i : Nat) : rd_T26 L (i : Int) = L.getD i z26 := by unfold rd_T26; rw [Int.toNat_natCast]
theorem small_line {a b : Nat} (h1 : a ≤ b) (h2 : b < 100000) : a < 5864062014805 := by omega
theorem line_l (s : ByteArray) (c : Int) (L : List S26) (hL : L.length < 100000) : ∀ (m k i : Nat) (acc : List S24), i + m = L.length → m + 1 ≤ k → acc.length ≤ i →
    octroiref14_line.l0 k L s c acc (i : Int) = some (acc ++ lineR (L.drop i) s c)
  | 0, k, i, acc, h1, h2, h3 => by
    obtain ⟨k, rfl⟩ : ∃ q, k = q + 1 := ⟨k - 1, by omega⟩
    rw [octroiref14_line.l0, if_neg (by omega), List.drop_eq_nil_of_le (by omega)]
    simp [lineR]
  | m + 1, k, i, acc, h1, h2, h3 => by
    obtain ⟨k, rfl⟩ : ∃ q, k = q + 1 := ⟨k - 1, by omega⟩
    rw [octroiref14_line.l0, if_pos (by omega), if_pos (by omega), rd26, wrapS i (by omega), drop_d L i (by omega) z26, lineR_cons]
    generalize L.getD i z26 = x
    by_cases a1 : x.f0 = s
    · by_cases a2 : x.f1 = c
      · rw [if_pos (by rw [a1]), if_pos a2, if_pos (small_line h3 (by omega)), if_pos ⟨a1, a2⟩, line_l s c L hL m k (i + 1) _ (by omega) (by omega) (by simp; omega)]
        simp
      · rw [if_pos (by rw [a1]), if_neg a2, if_neg (fun h => a2 h.2), line_l s c L hL m k (i + 1) _ (by omega) (by omega) (by omega)]
    · rw [if_neg (fun e => a1 (ba_ext e)), if_neg (fun h => a1 h.1), line_l s c L hL m k (i + 1) _ (by omega) (by omega) (by omega)]
theorem line_f (s : ByteArray) (c : Int) (L : List S26) (hL : L.length < 100000) {k : Nat} (hk : L.length + 1 ≤ k) : octroiref14_line.f k L s c = some (lineR L s c) := by
  have := line_l s c L hL L.length k 0 [] (by omega) hk (Nat.le_refl _)
  rw [List.drop_zero, List.nil_append] at this
  exact this
/-- The program's rates, and the document's. -/
structure RelR (M : RM) (L : List S26) : Prop where
  line : ∀ s c, s.size ≤ maxLen → (Lit.int .i64 c).wf = true → Rel (cont M (keyL s c)) (lineR L s c)
  all : ∀ kl, M kl ≠ none ↔ ∃ x ∈ L, kl = keyL x.f0 x.f1
  good : ∀ x ∈ L, memB x.f0 = true ∧ x.f0.size ≤ maxLen ∧ 1 ≤ x.f1 ∧ x.f1 ≤ 3
theorem wf64 {n : Int} (h1 : -9223372036854775808 ≤ n) (h2 : n ≤ 9223372036854775807) : (Lit.int .i64 n).wf = true := WalkArith.wf_i64 ⟨h1, h2⟩
theorem wf3 {c : Int} (h : 1 ≤ c ∧ c ≤ 3) : (Lit.int .i64 c).wf = true := wf64 (by omega) (by omega)
theorem RelR.start : RelR (fun _ => none) [] := ⟨fun s c _ _ => Rel.nil, fun kl => ⟨fun h => absurd rfl h, fun ⟨x, hx, _⟩ => (by simp at hx)⟩, fun x hx => (by simp at hx)⟩
/-- The same, at other places. -/
structure SameR (M M' : RM) : Prop where
  cont : ∀ k, Rt.cont M' k = Rt.cont M k
  none : ∀ k, M' k = none ↔ M k = none
theorem RelR.same {M M' : RM} {L : List S26} (h : RelR M L) (hs : SameR M M') : RelR M' L :=
  ⟨fun s c h1 h2 => by rw [hs.cont]; exact h.line s c h1 h2, fun kl => (not_congr (hs.none _)).trans (h.all kl), h.good⟩
theorem rs_good {l : List Held} {s : ByteArray} {c f u x : Int} (he : rsE l s c f u x = 0) : memB s = true ∧ 1 ≤ c ∧ c ≤ 3 ∧ setE l f u = 0 := by
  unfold rsE at he
  by_cases hm : memB s = true
  · rw [if_pos hm] at he
    by_cases hc : c < 1 ∨ 3 < c ∨ x < 0 ∨ 10000 < x
    · rw [if_pos hc] at he; cases he
    · rw [if_neg hc] at he
      exact ⟨hm, by omega, by omega, he⟩
  · rw [if_neg hm] at he; cases he
theorem RelR.set {M M' : RM} {L : List S26} (h : RelR M L) (s : ByteArray) (c f u x : Int) (hs : s.size ≤ maxLen) (hc : (Lit.int .i64 c).wf = true) (h1 : ∀ k, k ≠ keyL s c → M' k = M k) (h2 : cont M' (keyL s c) = rsL (cont M (keyL s c)) s c f u x)
    (h3 : M' (keyL s c) = none ↔ M (keyL s c) = none ∧ rsE (cont M (keyL s c)) s c f u x ≠ 0) : RelR M' (if rsE (cont M (keyL s c)) s c f u x = 0 then L ++ [⟨s, c, ⟨f, u, x⟩⟩] else L) := by
  have hoth : ∀ s' c', keyL s' c' ≠ keyL s c → cont M' (keyL s' c') = cont M (keyL s' c') := fun s' c' hne => by unfold cont; rw [h1 _ hne]
  by_cases he : rsE (cont M (keyL s c)) s c f u x = 0
  · rw [if_pos he]
    obtain ⟨g1, g2, g3, g4⟩ := rs_good he
    have hl : rsL (cont M (keyL s c)) s c f u x = setL (cont M (keyL s c)) f u x := by unfold rsL; rw [if_pos he]
    rw [hl] at h2
    refine ⟨fun s' c' a1 a2 => ?_, fun kl => ?_, fun y hy => ?_⟩
    · rw [lineR_add]
      by_cases e : s = s' ∧ c = c'
      · obtain ⟨rfl, rfl⟩ := e
        rw [if_pos ⟨rfl, rfl⟩, h2]
        exact (h.line s c hs hc).set x g4
      · rw [if_neg e, hoth s' c' (fun e2 => e (by have := key_inj s' s c' c a1 a2 hs hc e2; exact ⟨this.1.symm, this.2.symm⟩))]
        exact h.line s' c' a1 a2
    · by_cases e : kl = keyL s c
      · subst e
        refine ⟨fun _ => ⟨_, List.mem_append_right _ (List.mem_singleton.2 rfl), rfl⟩, fun _ e2 => ?_⟩
        exact (h3.1 e2).2 he
      · rw [h1 _ e, h.all kl]
        constructor
        · rintro ⟨y, hy, e2⟩; exact ⟨y, List.mem_append_left _ hy, e2⟩
        · rintro ⟨y, hy, e2⟩
          rcases List.mem_append.1 hy with hy | hy
          · exact ⟨y, hy, e2⟩
          · rw [List.mem_singleton.1 hy] at e2
            exact absurd e2 e
    · rcases List.mem_append.1 hy with hy | hy
      · exact h.good y hy
      · rw [List.mem_singleton.1 hy]
        exact ⟨g1, hs, g2, g3⟩
  · rw [if_neg he]
    have hl : rsL (cont M (keyL s c)) s c f u x = cont M (keyL s c) := by unfold rsL; rw [if_neg he]
    rw [hl] at h2
    refine ⟨fun s' c' a1 a2 => ?_, fun kl => ?_, h.good⟩
    · by_cases e : keyL s' c' = keyL s c
      · rw [e, h2, ← e]; exact h.line s' c' a1 a2
      · rw [hoth s' c' e]; exact h.line s' c' a1 a2
    · by_cases e : kl = keyL s c
      · subst e
        rw [← h.all]
        exact not_congr ⟨fun e2 => (h3.1 e2).1, fun e2 => h3.2 ⟨e2, he⟩⟩
      · rw [h1 _ e, h.all kl]
theorem small_set {a : Nat} (h : a < 100000) : 0 + a < 2932031007402 ∧ a + 1 < 2932031007402 := by omega
theorem set14_f {M : RM} {L : List S26} (h : RelR M L) (hL : L.length < 100000) (s : ByteArray) (c f u x : Int) (hs : s.size ≤ maxLen) (hc : (Lit.int .i64 c).wf = true) {k : Nat} (hk : 110000 ≤ k) :
    octroiref14_Set.f k L s c f u x = some (if rsE (cont M (keyL s c)) s c f u x = 0 then L ++ [⟨s, c, ⟨f, u, x⟩⟩] else L, rsE (cont M (keyL s c)) s c f u x) := by
  unfold octroiref14_Set.f
  rw [member_up s (by omega), Option.bind_some]
  have hE : rsE (cont M (keyL s c)) s c f u x = if memB s = true then (if c < 1 ∨ 3 < c ∨ x < 0 ∨ 10000 < x then 2 else setE (cont M (keyL s c)) f u) else 40 := rfl
  obtain ⟨q, rfl⟩ : ∃ q, k = q + 1 := ⟨k - 1, by omega⟩
  by_cases hm : memB s = true
  · rw [if_pos hm] at hE ⊢
    by_cases hw : c < 1 ∨ 3 < c ∨ x < 0 ∨ 10000 < x
    · rw [if_pos hw] at hE
      rw [hE, if_neg (show ¬ ((2 : Int) = 0) by omega)]
      have e2 : octroiref14_Set.j0 (q + 1) L true s c f u x = some (L, 2) := by rw [octroiref14_Set.j0, if_pos rfl]
      rw [e2]
      by_cases w1 : c < 1
      · rw [if_pos w1]
      · rw [if_neg w1]
        by_cases w2 : c > 3
        · rw [if_pos w2]
        · rw [if_neg w2]
          by_cases w3 : x < 0
          · rw [if_pos w3]
          · rw [if_neg w3, decide_eq_true (by omega), e2]
    · rw [if_neg hw] at hE
      rw [if_neg (show ¬ c < 1 by omega), if_neg (show ¬ c > 3 by omega), if_neg (show ¬ x < 0 by omega), decide_eq_false (show ¬ x > 10000 by omega), octroiref14_Set.j0, if_neg (by simp), line_f s c L hL (by omega), Option.bind_some]
      have hl := lineR_len L s c
      rw [set_f (h.line s c hs hc) (by omega) f u x q (by omega), Option.bind_some, hE]
      obtain ⟨z1, z2⟩ := small_set hL
      by_cases he : setE (cont M (keyL s c)) f u = 0
      · rw [if_pos he, if_pos he, Option.bind_some]
        simp only [List.nil_append, List.length_nil, List.length_cons, Option.bind_some]
        rw [if_pos z1, if_pos z2, he]
      · simp [he]
  · rw [if_neg hm] at hE ⊢
    rw [hE, if_neg (show ¬ ((40 : Int) = 0) by omega)]
theorem of14_f {M : RM} {L : List S26} (h : RelR M L) (hL : L.length < 100000) (s : ByteArray) (c day : Int) (hs : s.size ≤ maxLen) (hc : (Lit.int .i64 c).wf = true) {k : Nat} (hk : 110000 ≤ k) :
    octroiref14_Of.f k L s c day = some (ofV (cont M (keyL s c)) s c day, ofE (cont M (keyL s c)) s c day) := by
  unfold octroiref14_Of.f
  rw [member_up s (by omega), Option.bind_some]
  unfold ofV ofE
  obtain ⟨q, rfl⟩ : ∃ q, k = q + 1 := ⟨k - 1, by omega⟩
  by_cases hm : memB s = true
  · rw [if_pos hm, if_pos hm, if_pos hm]
    have e2 : octroiref14_Of.j0 (q + 1) L s c day true = some (0, 2) := by rw [octroiref14_Of.j0, if_pos rfl]
    by_cases w1 : c < 1
    · rw [if_pos w1, e2, if_neg (show ¬ (c = 4 ∨ c = 5) by omega), if_pos (show c < 1 ∨ 3 < c from Or.inl w1), if_neg (show ¬ (c = 4 ∨ c = 5) by omega), if_pos (show c < 1 ∨ 3 < c from Or.inl w1)]
    · rw [if_neg w1]
      by_cases w2 : c > 5
      · rw [decide_eq_true w2, e2, if_neg (show ¬ (c = 4 ∨ c = 5) by omega), if_pos (show c < 1 ∨ 3 < c by omega), if_neg (show ¬ (c = 4 ∨ c = 5) by omega), if_pos (show c < 1 ∨ 3 < c by omega)]
      · rw [decide_eq_false w2, octroiref14_Of.j0, if_neg (by simp)]
        by_cases w3 : c > 3
        · rw [if_pos w3, if_pos (show c = 4 ∨ c = 5 by omega), if_pos (show c = 4 ∨ c = 5 by omega)]
        · have hl := lineR_len L s c
          rw [if_neg w3, if_neg (show ¬ (c = 4 ∨ c = 5) by omega), if_neg (show ¬ (c < 1 ∨ 3 < c) by omega), if_neg (show ¬ (c = 4 ∨ c = 5) by omega), if_neg (show ¬ (c < 1 ∨ 3 < c) by omega), line_f s c L hL (by omega), Option.bind_some, at_f (h.line s c hs hc) (by omega) day q (by omega), Option.bind_some]
          by_cases ha : atB (cont M (keyL s c)) day = true
          · rw [if_pos ha, if_pos ha, if_pos ha]
          · rw [if_neg ha, if_neg ha, if_neg ha]
  · rw [if_neg hm, if_neg hm, if_neg hm]
/-! ### the states -/
theorem st_l1 (L : List S26) (hL : L.length < 100000) (ms : List ByteArray) (j : Nat) (hj : j < ms.length) (acc : List ByteArray) (hacc : acc.length ≤ 1000) : ∀ (m k i : Nat) (b : Bool), i + m = L.length →
    octroiref14_States.l1 (k + m + 1) L acc ms (j : Int) b (i : Int) = octroiref14_States.l0 k L (if (b || (L.drop i).any (fun x => decide (x.f0 = ms.getD j ByteArray.empty))) = true then acc ++ [ms.getD j ByteArray.empty] else acc) ms (wrap64 ((j : Int) + 1))
  | 0, k, i, b, h1 => by
    rw [octroiref14_States.l1, if_neg (by omega), List.drop_eq_nil_of_le (by omega), List.any_nil, Bool.or_false]
    by_cases hb : b = true
    · rw [if_pos hb, if_pos hb, if_pos (by omega), if_pos (by omega), if_pos (by omega), rdS]
    · rw [if_neg hb, if_neg hb]
  | m + 1, k, i, b, h1 => by
    rw [show k + (m + 1) + 1 = (k + m + 1) + 1 by omega, octroiref14_States.l1, if_pos (by omega), wrapS i (by omega), drop_d L i (by omega) z26, List.any_cons]
    by_cases hb : b = true
    · rw [if_pos hb, st_l1 L hL ms j hj acc hacc m k (i + 1) true (by omega), hb]
      simp
    · have hbf : b = false := by simpa using hb
      rw [if_neg hb, if_pos (by omega), if_pos (by omega), if_pos (by omega), rd26, rdS, st_l1 L hL ms j hj acc hacc m k (i + 1) _ (by omega), hbf, Bool.false_or]
      congr 2
      have : ((L.getD i z26).f0.toList == (ms.getD j ByteArray.empty).toList) = decide ((L.getD i z26).f0 = ms.getD j ByteArray.empty) := by
        rw [Bool.eq_iff_iff, beq_iff_eq, decide_eq_true_iff]
        exact ⟨ba_ext, fun e => by rw [e]⟩
      rw [this]
theorem st_l0 (L : List S26) (hL : L.length < 100000) (ms : List ByteArray) (hms : ms.length ≤ 100) : ∀ (m k j : Nat) (acc : List ByteArray), j + m = ms.length → acc.length ≤ j →
    octroiref14_States.l0 (k + 1 + m * (L.length + 2)) L acc ms (j : Int) = some (acc ++ (ms.drop j).filter (fun s => L.any (fun x => decide (x.f0 = s))))
  | 0, k, j, acc, h1, h2 => by
    rw [Nat.zero_mul, Nat.add_zero, octroiref14_States.l0, if_neg (by omega), List.drop_eq_nil_of_le (by omega)]
    simp
  | m + 1, k, j, acc, h1, h2 => by
    have e : k + 1 + (m + 1) * (L.length + 2) = (k + 1 + m * (L.length + 2) + L.length + 1) + 1 := by rw [Nat.succ_mul]; omega
    have := st_l1 L hL ms j (by omega) acc (by omega) L.length (k + 1 + m * (L.length + 2)) 0 false (by omega)
    rw [show ((0 : Nat) : Int) = 0 from rfl, List.drop_zero, Bool.false_or, wrapS j (by omega)] at this
    rw [e, octroiref14_States.l0, if_pos (by omega), this, drop_d ms j (by omega) ByteArray.empty, List.filter_cons]
    by_cases hb : (L.any (fun x => decide (x.f0 = ms.getD j ByteArray.empty))) = true
    · rw [if_pos hb, if_pos hb, st_l0 L hL ms hms m k (j + 1) _ (by omega) (by simp; omega)]
      simp
    · rw [if_neg hb, if_neg hb, st_l0 L hL ms hms m k (j + 1) _ (by omega) (by omega)]
def statesR (L : List S26) : List ByteArray := mems.filter (fun s => L.any (fun x => decide (x.f0 = s)))
theorem states_f (L : List S26) (hL : L.length ≤ 1000) {k : Nat} (hk : 50000 ≤ k) : octroiref14_States.f k L = some (statesR L) := by
  unfold octroiref14_States.f
  rw [members_up (by omega), Option.bind_some]
  have hb : mems.length * (L.length + 2) ≤ 27 * 1002 := by rw [mems_len]; exact Nat.mul_le_mul (Nat.le_refl _) (by omega)
  have := st_l0 L (by omega) mems (by rw [mems_len]; omega) mems.length (k - 1 - mems.length * (L.length + 2)) 0 [] (by omega) (Nat.le_refl _)
  rw [show k - 1 - mems.length * (L.length + 2) + 1 + mems.length * (L.length + 2) = k by omega, List.drop_zero, List.nil_append] at this
  exact this
/-- One text's bytes stand ahead of the other's. -/
def ltB (a b : ByteArray) : Prop := a.data.toList < b.data.toList
theorem ltB.irrefl (a : ByteArray) : ¬ ltB a a := List.lt_irrefl _
theorem ltB.trans {a b c : ByteArray} (h : ltB a b) (k : ltB b c) : ltB a c := List.lt_trans h k
theorem ltB.asymm {a b : ByteArray} (h : ltB a b) : ¬ ltB b a := fun k => ltB.irrefl a (h.trans k)
instance : DecidableRel ltB := fun a b => inferInstanceAs (Decidable (a.data.toList < b.data.toList))
theorem mems_sorted : mems.Pairwise ltB := of_decide_eq_true (by kernel_rfl)
theorem nodup_of {rs : List ByteArray} (h : rs.Pairwise ltB) : rs.Nodup := List.Pairwise.imp (S := fun a b => a ≠ b) (fun {a b} (hl : ltB a b) (e : a = b) => ltB.irrefl b (by rw [e] at hl; exact hl)) h
/-- The states that are told: in their order, each that has a rate. -/
structure States (M : RM) (rs : List ByteArray) : Prop where
  sorted : rs.Pairwise ltB
  mem : ∀ s, s ∈ rs ↔ ∃ c, M (keyL s c) ≠ none ∧ s.size ≤ maxLen ∧ (Lit.int .i64 c).wf = true
theorem states_eq {M : RM} {L : List S26} (h : RelR M L) {rs : List ByteArray} (hs : States M rs) : rs = statesR L := by
  have hn : (statesR L).Pairwise ltB := mems_sorted.filter _
  have hp : rs.Perm (statesR L) := (List.perm_ext_iff_of_nodup (nodup_of hs.sorted) (nodup_of hn)).2 fun s => by
    rw [hs.mem]
    unfold statesR
    rw [List.mem_filter, List.any_eq_true]
    constructor
    · rintro ⟨c, h1, h2, h3⟩
      obtain ⟨x, hx, e⟩ := (h.all _).1 h1
      obtain ⟨g1, g2, g3, g4⟩ := h.good x hx
      obtain ⟨rfl, rfl⟩ := key_inj s x.f0 c x.f1 h2 h3 g2 (wf3 ⟨g3, g4⟩) e
      rw [mem_b, List.any_eq_true] at g1
      obtain ⟨y, hy, ey⟩ := g1
      have ey' : x.f0 = y := of_decide_eq_true ey
      exact ⟨by rw [ey']; exact hy, x, hx, decide_eq_true rfl⟩
    · rintro ⟨_, x, hx, e⟩
      have e' : x.f0 = s := of_decide_eq_true e
      subst e'
      obtain ⟨g1, g2, g3, g4⟩ := h.good x hx
      exact ⟨x.f1, (h.all _).2 ⟨x, hx, rfl⟩, g2, wf3 ⟨g3, g4⟩⟩
  exact List.Perm.eq_of_pairwise (le := ltB) (fun a b _ _ h1 h2 => absurd h2 h1.asymm) hs.sorted hn hp
theorem statesR_len (L : List S26) : (statesR L).length ≤ 27 := by
  unfold statesR
  have := List.length_filter_le (fun s => L.any (fun x => decide (x.f0 = s))) mems
  rwa [mems_len] at this
theorem same_l (rs : List ByteArray) (hl : rs.length < 100000) : ∀ (m k i : Nat), i + m = rs.length → m + 1 ≤ k → octroiref07_Same.l0 k rs rs (i : Int) = some true
  | 0, k, i, h1, h2 => by
    obtain ⟨k, rfl⟩ : ∃ q, k = q + 1 := ⟨k - 1, by omega⟩
    rw [octroiref07_Same.l0, if_neg (by omega)]
  | m + 1, k, i, h1, h2 => by
    obtain ⟨k, rfl⟩ : ∃ q, k = q + 1 := ⟨k - 1, by omega⟩
    rw [octroiref07_Same.l0, if_pos (by omega), if_pos (by omega), if_pos (by omega), if_pos rfl, wrapS i (by omega)]
    exact same_l rs hl m k (i + 1) (by omega) (by omega)
theorem same_f (rs : List ByteArray) (hl : rs.length < 100000) {k : Nat} (hk : rs.length + 1 ≤ k) : octroiref07_Same.f k rs rs = some true := by
  unfold octroiref07_Same.f
  rw [if_pos rfl]
  exact same_l rs hl rs.length k 0 (by omega) hk
end Go.Proofs.Ytbjoegladcmibaa.SpI
