/-
  The document's people, and the program's: the same answers (plain).
-/
import Derived.Test.YtbjoegladcmibaaQSpB2
import Derived.Test.YtbjoegladcmibaaQPc5
import Derived.Test.YtbjoegladcmibaaQZPeopleSetsx1
import Derived.Test.YtbjoegladcmibaaQZPeopleSetsx11
namespace Go.Proofs.Ytbjoegladcmibaa.SpB
set_option linter.unusedVariables false
set_option linter.unusedSimpArgs false
set_option linter.unnecessarySimpa false
open Go.RowKit Go.Proofs.Ytbjoegladcmibaa.Ln Go.Proofs.Ytbjoegladcmibaa.LnB Go.Proofs.Ytbjoegladcmibaa.ZPeopleSets Go.Proofs.Ytbjoegladcmibaa.Pl Go.Proofs.Ytbjoegladcmibaa.Pe Go.Proofs.Ytbjoegladcmibaa.Vi Go.Proofs.YtbjoegladcmibaaW.PrintWords Go.Proofs.YtbjoegladcmibaaW.PrintLast

def lineL (L : List S139) (s : ByteArray) : List S24 := (L.filter (fun x => decide (x.f0 = s))).map (·.f1)
theorem lineL_cons (x : S139) (L : List S139) (s : ByteArray) : lineL (x :: L) s = if x.f0 = s then x.f1 :: lineL L s else lineL L s := by
  unfold lineL
  rw [List.filter_cons]
  by_cases h : x.f0 = s
  · rw [if_pos (by simpa using h), if_pos h]; rfl
  · rw [if_neg (by simpa using h), if_neg h]
theorem lineL_add (L : List S139) (x : S139) (s : ByteArray) : lineL (L ++ [x]) s = if x.f0 = s then lineL L s ++ [x.f1] else lineL L s := by
  unfold lineL
  rw [List.filter_append, List.map_append, List.filter_cons, List.filter_nil]
  by_cases h : x.f0 = s
  · rw [if_pos (by simpa using h), if_pos h]; rfl
  · rw [if_neg (by simpa using h), if_neg h, List.map_nil, List.append_nil]
theorem lineL_len (L : List S139) (s : ByteArray) : (lineL L s).length ≤ L.length := by unfold lineL; rw [List.length_map]; exact List.length_filter_le _ _
theorem rd139 (L : List S139) (i : Nat) : rd_T139 L (i : Int) = L.getD i z139 := by unfold rd_T139; rw [Int.toNat_natCast]
theorem small_line {a b : Nat} (h1 : a ≤ b) (h2 : b < 100000) : a < 5864062014805 := by omega
theorem line_l (home s : ByteArray) (O : List S24) (L : List S139) (hL : L.length < 100000) : ∀ (m k i : Nat) (acc : List S24), i + m = L.length → m + 1 ≤ k → acc.length ≤ i →
    octroiref15_People_line.l0 k s acc (i : Int) home O L = some (acc ++ lineL (L.drop i) s)
  | 0, k, i, acc, h1, h2, h3 => by
    obtain ⟨k, rfl⟩ : ∃ q, k = q + 1 := ⟨k - 1, by omega⟩
    rw [octroiref15_People_line.l0, if_neg (by omega), List.drop_eq_nil_of_le (by omega)]
    simp [lineL]
  | m + 1, k, i, acc, h1, h2, h3 => by
    obtain ⟨k, rfl⟩ : ∃ q, k = q + 1 := ⟨k - 1, by omega⟩
    rw [octroiref15_People_line.l0, if_pos (by omega), if_pos (by omega), rd139, wrapS i (by omega), drop_d L i (by omega) z139, lineL_cons]
    generalize L.getD i z139 = x
    by_cases a1 : x.f0 = s
    · rw [if_pos (by rw [a1]), if_pos (small_line h3 (by omega)), if_pos a1, line_l home s O L hL m k (i + 1) _ (by omega) (by omega) (by simp; omega)]
      simp
    · rw [if_neg (fun e => a1 (ba_ext e)), if_neg a1, line_l home s O L hL m k (i + 1) _ (by omega) (by omega) (by omega)]
theorem line_f (home s : ByteArray) (O : List S24) (L : List S139) (hL : L.length < 100000) {k : Nat} (hk : L.length + 1 ≤ k) : octroiref15_People_line.f k home O L s = some (lineL L s) := by
  have := line_l home s O L hL L.length k 0 [] (by omega) hk (Nat.le_refl _)
  rw [List.drop_zero, List.nil_append] at this
  exact this
/-- The program's people, and the document's. -/
structure RelP (M : PM) (O : List S24) (L : List S139) : Prop where
  opt : Rel (cont M none) O
  line : ∀ s, Rel (cont M (some s)) (lineL L s)
  known : ∀ s, M (some s) ≠ none ↔ ∃ x ∈ L, x.f0 = s
  word : ∀ x ∈ L, x.f0.size ≠ 0
theorem RelP.start (g0 : Nat) : RelP (M0 g0) [] [] := ⟨Rel.nil, fun s => Rel.nil, fun s => ⟨fun h => absurd rfl h, fun ⟨x, hx, _⟩ => (by simp at hx)⟩, fun x hx => (by simp at hx)⟩
theorem RelP.same {M M' : PM} {O : List S24} {L : List S139} (h : RelP M O L) (hs : Same M M') : RelP M' O L :=
  ⟨by rw [hs.cont]; exact h.opt, fun s => by rw [hs.cont]; exact h.line s, fun s => (not_congr (hs.none _)).trans (h.known s), h.word⟩
theorem RelP.choose {M M' : PM} {O : List S24} {L : List S139} (h : RelP M O L) (f u x : Int) (h1 : ∀ j, j ≠ none → M' j = M j) (h2 : cont M' none = setL (cont M none) f u true) :
    RelP M' (if setE (cont M none) f u = 0 then O ++ [⟨f, u, x⟩] else O) L := by
  have hc : ∀ s, cont M' (some s) = cont M (some s) := fun s => by unfold cont; rw [h1 _ (by simp)]
  refine ⟨?_, fun s => by rw [hc]; exact h.line s, fun s => by rw [h1 _ (by simp)]; exact h.known s, h.word⟩
  rw [h2]
  by_cases he : setE (cont M none) f u = 0
  · rw [if_pos he]; exact h.opt.set x he
  · rw [if_neg he]
    have : setL (cont M none) f u true = cont M none := by unfold setL; rw [if_neg he]
    rw [this]
    exact h.opt
theorem rid_word {c n : ByteArray} (h : ridB c n = true) : (c ++ n).size ≠ 0 := by
  have hc : countryB c = true := by
    cases hb : countryB c
    · unfold ridB at h
      rw [hb] at h
      simp at h
    · rfl
  have : c.size = 2 := by
    unfold countryB at hc
    by_cases h2 : c.size = 2
    · exact h2
    · simp [h2] at hc
  rw [ByteArray.size_append]
  omega
theorem RelP.status {M M' : PM} {O : List S24} {L : List S139} (h : RelP M O L) (c n : ByteArray) (f u x : Int) (h1 : ∀ j, j ≠ some (c ++ n) → M' j = M j) (h2 : cont M' (some (c ++ n)) = stL M c n f u) (h3 : M' (some (c ++ n)) = none ↔ M (some (c ++ n)) = none ∧ stE M c n f u ≠ 0) :
    RelP M' O (if stE M c n f u = 0 then L ++ [⟨c ++ n, ⟨f, u, x⟩⟩] else L) := by
  have hc : ∀ s, s ≠ c ++ n → cont M' (some s) = cont M (some s) := fun s hs => by unfold cont; rw [h1 _ (fun e => hs (Option.some.inj e))]
  have ho : cont M' none = cont M none := by unfold cont; rw [h1 _ (by simp)]
  by_cases he : stE M c n f u = 0
  · rw [if_pos he]
    have hr : ridB c n = true := by
      cases hb : ridB c n
      · unfold stE at he; rw [hb, if_neg (by decide)] at he; cases he
      · rfl
    have he' : setE (cont M (some (c ++ n))) f u = 0 := by unfold stE at he; rwa [if_pos hr] at he
    refine ⟨by rw [ho]; exact h.opt, fun s => ?_, fun s => ?_, fun y hy => ?_⟩
    · rw [lineL_add]
      by_cases hs : s = c ++ n
      · subst hs
        rw [if_pos rfl, h2]
        unfold stL
        rw [if_pos hr]
        exact (h.line _).set x he'
      · rw [if_neg (fun e => hs e.symm), hc s hs]; exact h.line s
    · by_cases hs : s = c ++ n
      · subst hs
        exact ⟨fun _ => ⟨_, List.mem_append_right _ (List.mem_singleton.2 rfl), rfl⟩, fun _ e => (h3.1 e).2 he⟩
      · rw [h1 _ (fun e => hs (Option.some.inj e)), h.known s]
        constructor
        · rintro ⟨y, hy, e⟩; exact ⟨y, List.mem_append_left _ hy, e⟩
        · rintro ⟨y, hy, e⟩
          rcases List.mem_append.1 hy with hy | hy
          · exact ⟨y, hy, e⟩
          · rw [List.mem_singleton.1 hy] at e; exact absurd e.symm hs
    · rcases List.mem_append.1 hy with hy | hy
      · exact h.word y hy
      · rw [List.mem_singleton.1 hy]; exact rid_word hr
  · rw [if_neg he]
    refine ⟨by rw [ho]; exact h.opt, fun s => ?_, fun s => ?_, h.word⟩
    · by_cases hs : s = c ++ n
      · subst hs
        rw [h2]
        have : stL M c n f u = cont M (some (c ++ n)) := by
          unfold stL
          unfold stE at he
          by_cases hr : ridB c n = true
          · rw [if_pos hr] at he ⊢
            unfold setL
            rw [if_neg he]
          · rw [if_neg hr]
        rw [this]
        exact h.line _
      · rw [hc s hs]; exact h.line s
    · by_cases hs : s = c ++ n
      · subst hs
        rw [← h.known]
        exact not_congr (h3.trans ⟨fun e => e.1, fun e => ⟨e, he⟩⟩)
      · rw [h1 _ (fun e => hs (Option.some.inj e))]; exact h.known s
theorem small_sets {a : Nat} (h : a < 100000) : a < 3518437208883 ∧ a + 1 < 3518437208883 := by omega
theorem set_f15 {M : PM} {O : List S24} {L : List S139} (h : RelP M O L) (hL : L.length < 100000) (home c n : ByteArray) (hc : c.size ≤ 1000) (hn : n.size ≤ 1000) (f u x : Int) {k : Nat} (hk : 110000 ≤ k) :
    octroiref15_People_Set.f k home O L c n f u x = some (home, O, if stE M c n f u = 0 then L ++ [⟨c ++ n, ⟨f, u, x⟩⟩] else L, stE M c n f u) := by
  unfold octroiref15_People_Set.f stE
  rw [right_f c n hn hk, Option.bind_some]
  by_cases hr : ridB c n = true
  · have hl := lineL_len L (c ++ n)
    obtain ⟨s1, s2⟩ := small_sets hL
    rw [if_pos hr, if_pos hr, if_pos (by omega), line_f home _ O L hL (by omega), Option.bind_some, set_f (h.line (c ++ n)) (by omega) f u x k (by omega), Option.bind_some]
    by_cases he : setE (cont M (some (c ++ n))) f u = 0
    · simp only [he, if_true, Option.bind_some, List.length_nil, Nat.zero_add, List.nil_append, List.length_cons, s1, s2]
    · simp only [he, if_false]
  · rw [if_neg hr, if_neg hr, if_neg (by decide)]
theorem opted_f {M : PM} {O : List S24} {L : List S139} (h : RelP M O L) (hO : O.length < 100000) (home : ByteArray) (day : Int) {k : Nat} (hk : O.length + 1 ≤ k) : octroiref15_People_Opted.f k home O L day = some (heldB (cont M none) day) := by
  unfold octroiref15_People_Opted.f heldB
  obtain ⟨v, e⟩ := at_f h.opt hO day k hk
  rw [e, Option.bind_some, held_at h.opt]
theorem biz_f {M : PM} {O : List S24} {L : List S139} (h : RelP M O L) (hL : L.length < 100000) (home c n : ByteArray) (hc : c.size ≤ 1000) (hn : n.size ≤ 1000) (day : Int) {k : Nat} (hk : 110001 ≤ k) : octroiref15_People_Business.f k home O L c n day = some (bizB home M c n day) := by
  obtain ⟨k, rfl⟩ : ∃ q, k = q + 1 := ⟨k - 1, by omega⟩
  have hl := lineL_len L (c ++ n)
  have hj : ∀ b, octroiref15_People_Business.j0 (k + 1) c n day b home O L = some (if b = true then true else heldB (cont M (some (c ++ n))) day) := fun b => by
    rw [octroiref15_People_Business.j0]
    cases b
    · obtain ⟨v, e⟩ := at_f (h.line (c ++ n)) (by omega) day k (by omega)
      simp only [Bool.false_eq_true, if_false]
      rw [if_pos (by omega), line_f home _ O L hL (by omega), Option.bind_some, e, Option.bind_some]
      unfold heldB
      rw [held_at (h.line (c ++ n))]
    · simp only [if_true]
  unfold octroiref15_People_Business.f bizB
  rw [right_f c n hn (by omega), Option.bind_some]
  by_cases hr : ridB c n = true
  · rw [if_pos hr, if_pos hr]
    by_cases hh : c = home
    · rw [if_pos (by rw [hh]), hj, if_pos rfl, if_pos (Or.inl hh)]
    · rw [if_neg (fun e => hh (ba_ext e)), member_up c (by omega), Option.bind_some, hj]
      cases memB c
      · rw [Bool.not_false, if_pos rfl, if_pos (Or.inr rfl)]
      · rw [Bool.not_true, if_neg (by decide), if_neg (by rintro (e | e); exact hh e; cases e)]
  · rw [if_neg hr, if_neg hr]
end Go.Proofs.Ytbjoegladcmibaa.SpB
