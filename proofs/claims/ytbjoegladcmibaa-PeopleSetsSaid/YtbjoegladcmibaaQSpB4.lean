/-
  The document's numbers that are known, in their order (plain).
-/
import Derived.Test.YtbjoegladcmibaaQSpB3
import Derived.Sort.Walk0
namespace Go.Proofs.Ytbjoegladcmibaa.SpB
set_option linter.unusedVariables false
set_option linter.unusedSimpArgs false
set_option linter.unnecessarySimpa false
open Go.RowKit Go.Proofs.Ytbjoegladcmibaa.Ln Go.Proofs.Ytbjoegladcmibaa.LnB Go.Proofs.Ytbjoegladcmibaa.ZPeopleSets Go.Proofs.Ytbjoegladcmibaa.Pl Go.Proofs.Ytbjoegladcmibaa.Pe Go.Proofs.Ytbjoegladcmibaa.Vi Go.Proofs.YtbjoegladcmibaaW.PrintWords Go.Proofs.YtbjoegladcmibaaW.PrintLast

/-- One text's bytes stand ahead of the other's. -/
def ltB (a b : ByteArray) : Prop := a.data.toList < b.data.toList
theorem less_iff (a b : ByteArray) : (Op.bytesLess a.toList b.toList = true) ↔ ltB a b := by
  rw [bytesLess_eq, ByteArray.toList_eq, ByteArray.toList_eq, decide_eq_true_iff]
  rfl
theorem ltB.irrefl (a : ByteArray) : ¬ ltB a a := List.lt_irrefl _
theorem ltB.trans {a b c : ByteArray} (h : ltB a b) (k : ltB b c) : ltB a c := List.lt_trans h k
theorem ltB.asymm {a b : ByteArray} (h : ltB a b) : ¬ ltB b a := fun k => ltB.irrefl a (h.trans k)
theorem empty_iff (a : ByteArray) : a.toList = ([] : List UInt8) ↔ a.size = 0 := by
  rw [ByteArray.toList_eq]
  constructor
  · intro h
    have : a.data.toList.length = 0 := by rw [h]; rfl
    rwa [Array.length_toList] at this
  · intro h
    exact List.eq_nil_of_length_eq_zero (by rw [Array.length_toList]; exact h)
theorem empty_lt {s : ByteArray} (h : s.size ≠ 0) : ltB ⟨#[]⟩ s := by
  unfold ltB
  cases hs : s.data.toList with
  | nil => exact absurd ((empty_iff s).1 (by rw [ByteArray.toList_eq, hs])) h
  | cons a l => exact List.nil_lt_cons a l
/-- The least behind `last`, if there is one. -/
def Best (last b : ByteArray) (P : List S139) : Prop :=
  (b.size = 0 ∧ ∀ x ∈ P, ¬ ltB last x.f0) ∨ (b.size ≠ 0 ∧ ltB last b ∧ (∃ x ∈ P, x.f0 = b) ∧ ∀ x ∈ P, ltB last x.f0 → ¬ ltB x.f0 b)
theorem Best.skip {last b : ByteArray} {P : List S139} {x : S139} (h : Best last b P) (hx : ¬ ltB last x.f0) : Best last b (P ++ [x]) := by
  rcases h with ⟨h1, h2⟩ | ⟨h1, h2, ⟨y, hy, e⟩, h4⟩
  · exact Or.inl ⟨h1, fun y hy => by rcases List.mem_append.1 hy with hy | hy; exact h2 y hy; rw [List.mem_singleton.1 hy]; exact hx⟩
  · exact Or.inr ⟨h1, h2, ⟨y, List.mem_append_left _ hy, e⟩, fun z hz hl => by rcases List.mem_append.1 hz with hz | hz; exact h4 z hz hl; rw [List.mem_singleton.1 hz] at hl; exact absurd hl hx⟩
theorem Best.take {last b : ByteArray} {P : List S139} {x : S139} (h : Best last b P) (hw : x.f0.size ≠ 0) (hx : ltB last x.f0) (hb : b.size = 0 ∨ ltB x.f0 b) : Best last x.f0 (P ++ [x]) := by
  refine Or.inr ⟨hw, hx, ⟨x, List.mem_append_right _ (List.mem_singleton.2 rfl), rfl⟩, fun z hz hl hlt => ?_⟩
  rcases List.mem_append.1 hz with hz | hz
  · rcases h with ⟨h1, h2⟩ | ⟨h1, h2, _, h4⟩
    · exact h2 z hz hl
    · rcases hb with hb | hb
      · exact h1 hb
      · exact h4 z hz hl (hlt.trans hb)
  · rw [List.mem_singleton.1 hz] at hlt; exact ltB.irrefl _ hlt
theorem Best.stay {last b : ByteArray} {P : List S139} {x : S139} (h : Best last b P) (h0 : b.size ≠ 0) (hb : ¬ ltB x.f0 b) : Best last b (P ++ [x]) := by
  rcases h with ⟨h1, _⟩ | ⟨h1, h2, ⟨y, hy, e⟩, h4⟩
  · exact absurd h1 h0
  · exact Or.inr ⟨h1, h2, ⟨y, List.mem_append_left _ hy, e⟩, fun z hz hl => by rcases List.mem_append.1 hz with hz | hz; exact h4 z hz hl; rw [List.mem_singleton.1 hz]; exact hb⟩
theorem take_d {α : Type} (l : List α) (i : Nat) (h : i < l.length) (d : α) : l.take (i + 1) = l.take i ++ [l.getD i d] := by
  rw [List.take_succ_eq_append_getElem h, List.getD_eq_getElem?_getD, List.getElem?_eq_getElem h]
  rfl
theorem known_l1 (home : ByteArray) (O : List S24) (L : List S139) (hL : L.length < 100000) (hw : ∀ x ∈ L, x.f0.size ≠ 0) (out : List ByteArray) (last : ByteArray) : ∀ (m k i : Nat) (b : ByteArray), i + m = L.length → Best last b (L.take i) →
    ∃ b', Best last b' L ∧ octroiref15_People_Known.l1 (k + m + 1) out last b (i : Int) home O L = (if b'.toList = ([] : List UInt8) then (some out) else (if out.length < 8796093022208 then (octroiref15_People_Known.l0 k (out ++ [b']) b' home O L) else (none)))
  | 0, k, i, b, h1, hb => by
    rw [List.take_of_length_le (by omega)] at hb
    refine ⟨b, hb, ?_⟩
    rw [Nat.add_zero, octroiref15_People_Known.l1, if_neg (by omega)]
  | m + 1, k, i, b, h1, hb => by
    have ht := take_d L i (by omega) z139
    have hm : L.getD i z139 ∈ L := by
      rw [List.getD_eq_getElem?_getD, List.getElem?_eq_getElem (show i < L.length by omega)]
      exact List.getElem_mem _
    have hx := hw _ hm
    rw [show k + (m + 1) + 1 = (k + m + 1) + 1 by omega, octroiref15_People_Known.l1, if_pos (by omega), if_pos (by omega), rd139, wrapS i (by omega)]
    generalize L.getD i z139 = x at *
    have ih := fun c (hc : Best last c (L.take (i + 1))) => known_l1 home O L hL hw out last m k (i + 1) c (by omega) hc
    rw [ht] at ih
    by_cases a1 : ltB last x.f0
    · rw [if_pos ((less_iff _ _).2 a1)]
      by_cases a2 : b.size = 0
      · rw [if_pos ((empty_iff b).2 a2)]
        exact ih x.f0 (hb.take hx a1 (Or.inl a2))
      · rw [if_neg (fun e => a2 ((empty_iff b).1 e))]
        by_cases a3 : ltB x.f0 b
        · rw [if_pos ((less_iff _ _).2 a3)]
          exact ih x.f0 (hb.take hx a1 (Or.inr a3))
        · rw [if_neg (fun e => a3 ((less_iff _ _).1 e))]
          exact ih b (hb.stay a2 a3)
    · rw [if_neg (fun e => a1 ((less_iff _ _).1 e))]
      exact ih b (hb.skip a1)
theorem small_out {a : Nat} (h : a < 1000000) : a < 8796093022208 := by omega
theorem known_l0 (home : ByteArray) (O : List S24) (L : List S139) (hL : L.length < 100000) (hw : ∀ x ∈ L, x.f0.size ≠ 0) (rs : List ByteArray) (hs : rs.Pairwise ltB) (hm : ∀ s, s ∈ rs ↔ ∃ x ∈ L, x.f0 = s) (hrs : rs.length < 1000000) :
    ∀ (post pre : List ByteArray) (last : ByteArray) (k : Nat), rs = pre ++ post → (∀ s ∈ pre, ¬ ltB last s) → (∀ s ∈ post, ltB last s) → octroiref15_People_Known.l0 (k + (post.length + 1) * (L.length + 2)) pre last home O L = some rs
  | [], pre, last, k, e, h1, h2 => by
    rw [List.append_nil] at e
    obtain ⟨b', hb, hr⟩ := known_l1 home O L hL hw pre last L.length k 0 ⟨#[]⟩ (by omega) (Or.inl ⟨rfl, fun x hx => by simp at hx⟩)
    rw [show k + (([] : List ByteArray).length + 1) * (L.length + 2) = (k + L.length + 1) + 1 by simp; omega, octroiref15_People_Known.l0]
    rw [show ((0 : Nat) : Int) = 0 from rfl] at hr
    rw [hr, if_pos, e]
    rcases hb with ⟨q1, _⟩ | ⟨q1, q2, ⟨x, hx, q3⟩, _⟩
    · exact (empty_iff _).2 q1
    · exact absurd q2 (h1 b' (by rw [← e]; exact (hm b').2 ⟨x, hx, q3⟩))
  | r :: post, pre, last, k, e, h1, h2 => by
    obtain ⟨b', hb, hr⟩ := known_l1 home O L hL hw pre last L.length (k + (post.length + 1) * (L.length + 2)) 0 ⟨#[]⟩ (by omega) (Or.inl ⟨rfl, fun x hx => by simp at hx⟩)
    have hk : k + ((r :: post).length + 1) * (L.length + 2) = (k + (post.length + 1) * (L.length + 2) + L.length + 1) + 1 := by
      rw [List.length_cons, Nat.succ_mul]
      omega
    rw [hk, octroiref15_People_Known.l0]
    rw [show ((0 : Nat) : Int) = 0 from rfl] at hr
    rw [hr]
    have hlr := h2 r (List.mem_cons_self ..)
    obtain ⟨xr, hxr, exr⟩ := (hm r).1 (by rw [e]; exact List.mem_append_right _ (List.mem_cons_self ..))
    have hp := hs
    rw [e] at hp
    obtain ⟨p1, p2, p3⟩ := List.pairwise_append.1 hp
    obtain ⟨p4, p5⟩ := List.pairwise_cons.1 p2
    have hbr : b' = r := by
      rcases hb with ⟨q1, q2⟩ | ⟨q1, q2, ⟨x, hx, q3⟩, q4⟩
      · exact absurd (by rw [exr]; exact hlr) (q2 xr hxr)
      · have hin : b' ∈ pre ++ r :: post := by rw [← e]; exact (hm b').2 ⟨x, hx, q3⟩
        rcases List.mem_append.1 hin with hin | hin
        · exact absurd q2 (h1 b' hin)
        · rcases List.mem_cons.1 hin with hin | hin
          · exact hin
          · have := q4 xr hxr (by rw [exr]; exact hlr)
            rw [exr] at this
            exact absurd (p4 b' hin) this
    subst hbr
    have hne : b'.toList ≠ ([] : List UInt8) := fun hz => by
      have h0 := (empty_iff _).1 hz
      have := hw xr hxr
      rw [exr] at this
      exact this h0
    rw [if_neg hne, if_pos (small_out (by have : pre.length ≤ rs.length := by rw [e]; simp
                                          omega))]
    refine known_l0 home O L hL hw rs hs hm hrs post (pre ++ [b']) b' k (by rw [e]; simp) (fun s hsm => ?_) (fun s hsm => p4 s hsm)
    rcases List.mem_append.1 hsm with hsm | hsm
    · exact (p3 s hsm b' (List.mem_cons_self ..)).asymm
    · rw [List.mem_singleton.1 hsm]; exact ltB.irrefl _
theorem keys_sorted {M : PM} {rs : List ByteArray} (h : Keys M rs) : rs.Pairwise ltB := by
  have := List.pairwise_map.1 h.sorted
  exact this
theorem keys_nodup {M : PM} {rs : List ByteArray} (h : Keys M rs) : rs.Nodup := List.Pairwise.imp (S := fun a b => a ≠ b) (fun {a b} (hl : ltB a b) (e : a = b) => ltB.irrefl b (by rw [e] at hl; exact hl)) (keys_sorted h)
theorem keys_uniq {M M' : PM} {rs rs' : List ByteArray} (h : Keys M rs) (h' : Keys M' rs') (hs : ∀ s, M' (some s) = none ↔ M (some s) = none) : rs' = rs := by
  have hp : rs'.Perm rs := (List.perm_ext_iff_of_nodup (keys_nodup h') (keys_nodup h)).2 fun s => by
    rw [h'.mem, h.mem]
    exact not_congr (hs s)
  exact List.Perm.eq_of_pairwise (le := ltB) (fun a b _ _ h1 h2 => absurd h2 h1.asymm) (keys_sorted h') (keys_sorted h) hp
theorem sub_len : ∀ (rs l : List ByteArray), rs.Nodup → (∀ s ∈ rs, s ∈ l) → rs.length ≤ l.length
  | [], l, _, _ => Nat.zero_le _
  | r :: rs, l, hn, hs => by
    obtain ⟨n1, n2⟩ := List.nodup_cons.1 hn
    have hr := hs r (List.mem_cons_self ..)
    obtain ⟨a, b, rfl⟩ := List.append_of_mem hr
    have := sub_len rs (a ++ b) n2 (fun s hsm => by
      rcases List.mem_append.1 (hs s (List.mem_cons_of_mem _ hsm)) with h | h
      · exact List.mem_append_left _ h
      · rcases List.mem_cons.1 h with h | h
        · exact absurd (by rw [← h]; exact hsm) n1
        · exact List.mem_append_right _ h)
    simp only [List.length_append, List.length_cons] at this ⊢
    omega
theorem keys_len {M : PM} {O : List S24} {L : List S139} (hR : RelP M O L) {rs : List ByteArray} (h : Keys M rs) : rs.length ≤ L.length := by
  have : rs.length ≤ (L.map (·.f0)).length := sub_len _ _ (keys_nodup h) fun s hs => by
    obtain ⟨x, hx, e⟩ := (hR.known s).1 ((h.mem s).1 hs)
    exact List.mem_map.2 ⟨x, hx, e⟩
  rwa [List.length_map] at this
theorem known_f {M : PM} {O : List S24} {L : List S139} (hR : RelP M O L) (hL : L.length ≤ 1000) (home : ByteArray) {rs : List ByteArray} (h : Keys M rs) {k : Nat} (hk : 2000000 ≤ k) : octroiref15_People_Known.f k home O L = some rs := by
  have hl := keys_len hR h
  have hb : (rs.length + 1) * (L.length + 2) ≤ 1001 * 1002 := Nat.mul_le_mul (by omega) (by omega)
  have := known_l0 home O L (by omega) hR.word rs (keys_sorted h) (fun s => (h.mem s).trans (hR.known s)) (by omega) rs [] ⟨#[]⟩ (k - (rs.length + 1) * (L.length + 2)) rfl (fun s hs => by simp at hs) (fun s hs => by
    obtain ⟨x, hx, e⟩ := (hR.known s).1 ((h.mem s).1 hs)
    rw [← e]
    exact empty_lt (hR.word x hx))
  rw [show k - (rs.length + 1) * (L.length + 2) + (rs.length + 1) * (L.length + 2) = k by omega] at this
  exact this
theorem same_l (rs : List ByteArray) (hl : rs.length < 100000) : ∀ (m k i : Nat), i + m = rs.length → m + 1 ≤ k → octroiref07_Same.l0 k rs rs (i : Int) = some true
  | 0, k, i, h1, h2 => by
    obtain ⟨k, rfl⟩ : ∃ q, k = q + 1 := ⟨k - 1, by omega⟩
    rw [octroiref07_Same.l0, if_neg (by omega)]
  | m + 1, k, i, h1, h2 => by
    obtain ⟨k, rfl⟩ : ∃ q, k = q + 1 := ⟨k - 1, by omega⟩
    rw [octroiref07_Same.l0, if_pos (by omega), if_pos (by omega), if_pos (by omega), if_pos rfl, wrapS i (by omega)]
    exact same_l rs hl m k (i + 1) (by omega) (by omega)
theorem same_f (rs : List ByteArray) (hl : rs.length < 100000) {k : Nat} (hk : rs.length + 1 ≤ k) : octroiref07_Same.f k rs rs = some true := by
  unfold octroiref07_Same.f
  rw [if_pos rfl]
  exact same_l rs hl rs.length k 0 (by omega) hk
end Go.Proofs.Ytbjoegladcmibaa.SpB
