/-
  rates: States: what slices.Compact leaves of a sorted list; what has been gathered so far (plain).
-/
import Derived.Test.YtbjoegladcmibaaQRs5
import Derived.Sort.OwnSorted
import Derived.Sort.KeysCollected
import Derived.Lib.SlicesCompact
import Derived.Lib.RowBridge
namespace Go.Proofs.Ytbjoegladcmibaa.Rt
set_option linter.unusedVariables false
set_option linter.unusedSimpArgs false
set_option linter.unnecessarySimpa false
open Go.RowKit Go.Maps Go.Proofs.YtbjoegladcmibaaK Go.Proofs.Ytbjoegladcmibaa.Ln Go.Proofs.Ytbjoegladcmibaa.LnI Go.Proofs.Ytbjoegladcmibaa.SpI Go.Proofs.YtbjoegladcmibaaW.PrintWords Go.Sort

theorem bang_get (zs : List (List UInt8)) (j : Nat) (hj : j < zs.length) : (zs.toArray)[j]! = zs[j] := by
  rw [getElem!_pos zs.toArray j (by simpa using hj)]
  simp
theorem compact_up (zs : List (List UInt8)) (hs : zs.Pairwise (fun a b => a ≤ b)) : ∀ m, m ≤ zs.length → (Lib.compactUpTo zs.toArray m).Pairwise (fun a b => a < b) ∧ ∀ b, b ∈ Lib.compactUpTo zs.toArray m ↔ b ∈ zs.take m
  | 0, _ => ⟨by simp [Lib.compactUpTo], fun b => by simp [Lib.compactUpTo]⟩
  | m + 1, hm => by
    obtain ⟨i1, i2⟩ := compact_up zs hs m (by omega)
    have hlt : m < zs.length := by omega
    have ht : zs.take (m + 1) = zs.take m ++ [zs[m]] := by rw [List.take_succ_eq_append_getElem hlt]
    have hmono : ∀ a b (ha : a < zs.length) (hb : b < zs.length), a ≤ b → zs[a] ≤ zs[b] := fun a b ha hb hab => by
      rcases Nat.lt_or_ge a b with h | h
      · exact List.pairwise_iff_getElem.1 hs a b ha hb h
      · have : a = b := by omega
        subst this
        exact List.le_refl _
    rw [Lib.compactUpTo_succ, ht]
    by_cases hk : m = 0 ∨ (zs.toArray)[m]! ≠ (zs.toArray)[m - 1]!
    · have hkk : Lib.keeps zs.toArray m = true := decide_eq_true hk
      rw [if_pos hkk, bang_get zs m hlt]
      refine ⟨List.pairwise_append.2 ⟨i1, List.pairwise_singleton _ _, fun a ha b hb => ?_⟩, fun b => by rw [List.mem_append, List.mem_append, i2]⟩
      rw [List.mem_singleton.1 hb]
      obtain ⟨j, hj, e⟩ := List.getElem_of_mem ((i2 a).1 ha)
      rw [List.length_take] at hj
      rw [List.getElem_take] at e
      rcases hk with h0 | hne
      · omega
      · rw [bang_get zs m hlt, bang_get zs (m - 1) (by omega)] at hne
        have h1 := hmono j (m - 1) (by omega) (by omega) (by omega)
        have h2 := hmono (m - 1) m (by omega) hlt (by omega)
        rw [← e]
        refine Classical.byContradiction fun hn => hne ?_
        have h3 := List.le_trans (List.not_lt.1 hn) h1
        exact List.le_antisymm h3 h2
    · have hkk : Lib.keeps zs.toArray m = false := decide_eq_false hk
      have hk' : m ≠ 0 ∧ (zs.toArray)[m]! = (zs.toArray)[m - 1]! := ⟨fun e => hk (Or.inl e), Classical.byContradiction fun e => hk (Or.inr e)⟩
      rw [if_neg (by rw [hkk]; simp), List.append_nil]
      refine ⟨i1, fun b => ?_⟩
      rw [i2, List.mem_append, List.mem_singleton]
      refine ⟨Or.inl, fun h => ?_⟩
      rcases h with h | h
      · exact h
      · have e := hk'.2
        rw [bang_get zs m hlt, bang_get zs (m - 1) (by omega)] at e
        rw [h, e]
        exact List.mem_iff_getElem.2 ⟨m - 1, by rw [List.length_take]; omega, by rw [List.getElem_take]⟩
theorem compact_spec (zs : List (List UInt8)) (hs : zs.Pairwise (fun a b => a ≤ b)) : (Lib.compact zs).Pairwise (fun a b => a < b) ∧ ∀ b, b ∈ Lib.compact zs ↔ b ∈ zs := by
  have := compact_up zs hs zs.length (Nat.le_refl _)
  rwa [List.take_length] at this
theorem sort_spec (ss : List (List UInt8)) : (ss.mergeSort fun x y => decide (x ≤ y)).Pairwise (fun a b => a ≤ b) ∧ ∀ b, b ∈ (ss.mergeSort fun x y => decide (x ≤ y)) ↔ b ∈ ss := by
  have tr : ∀ a b c : List UInt8, leB a b = true → leB b c = true → leB a c = true := fun a b c h1 h2 => by simp only [leB, decide_eq_true_eq] at *; exact List.le_trans h1 h2
  have tot : ∀ a b : List UInt8, (leB a b || leB b a) = true := fun a b => by simp only [leB, Bool.or_eq_true, decide_eq_true_eq]; exact List.le_total a b
  have h1 : (ss.mergeSort leB).Pairwise (fun a b => leB a b = true) := List.pairwise_mergeSort tr tot ss
  refine ⟨h1.imp (fun {a b} x => by simpa only [leB, decide_eq_true_eq] using x), fun b => (List.mergeSort_perm _ _).mem_iff⟩
def bts (b : List UInt8) : ByteArray := ⟨b.toArray⟩
theorem bts_of (s : ByteArray) : bts s.data.toList = s := by unfold bts; rw [Array.toArray_toList]
theorem of_bts (b : List UInt8) : (bts b).data.toList = b := by unfold bts; simp
theorem enc_str (x : ByteArray) : encStr x.data.toList = .string x := by unfold encStr; simp
theorem map_enc (ss : List (List UInt8)) : ss.map encStr = (ss.map bts).map Value.string := by rw [List.map_map]; rfl
theorem strs_own {w : World} {base : Nat} {v : Value} {ss : List (List UInt8)} (h : w.ownsRow base 9 1 v ss.length (ss.map encStr)) : Kd.R Kd.string 9 w base (fun _ => True) v (ss.map bts) := by
  refine Kd.R_of_own ?_ (fun _ _ => trivial)
  rw [map_enc] at h
  rw [List.length_map]
  exact h
theorem infoS : (Try.prog.info? 9).map (fun i => (i.zero, i.size, i.bytes)) = some (some (.string ⟨#[]⟩), 1, 16) := by kernel_rfl
/-- The states that have been gathered. -/
def Coll (M : RM) (left : Lit → Bool) (ss : List (List UInt8)) : Prop :=
  ∀ b, b ∈ ss ↔ ∃ (s : ByteArray) (c : Int), b = s.data.toList ∧ s.size ≤ maxLen ∧ (Lit.int .i64 c).wf = true ∧ M (keyL s c) ≠ none ∧ left (keyL s c) = false
theorem Coll.start {M : RM} {left : Lit → Bool} (h : ∀ kl, M kl ≠ none → left kl = true) : Coll M left [] := fun b => by
  refine ⟨fun hb => (by simp at hb), fun ⟨s, c, _, _, _, h1, h2⟩ => ?_⟩
  rw [h _ h1] at h2; cases h2
set_option maxRecDepth 1000000 in
theorem Coll.step {M : RM} {left : Lit → Bool} {ss : List (List UInt8)} (h : Coll M left ss) (s : ByteArray) (c : Int) (hs : s.size ≤ maxLen) (hc : (Lit.int .i64 c).wf = true) (hM : M (keyL s c) ≠ none) :
    Coll M (fun z => left z && !z.sameKey (keyL s c)) (ss ++ [s.data.toList]) := fun b => by
  have hq := lawK.key (key_of s c hs hc)
  have hy := yes_key hq
  rw [List.mem_append, h b, List.mem_singleton]
  constructor
  · rintro (⟨s', c', e, h1, h2, h3, h4⟩ | e)
    · exact ⟨s', c', e, h1, h2, h3, by show (left (keyL s' c') && _) = false; rw [h4]; rfl⟩
    · exact ⟨s, c, e, hs, hc, hM, by show (left (keyL s c) && !(keyL s c).sameKey (keyL s c)) = false; rw [hy]; simp⟩
  · rintro ⟨s', c', e, h1, h2, h3, h4⟩
    by_cases hk : keyL s' c' = keyL s c
    · obtain ⟨rfl, rfl⟩ := key_inj _ _ _ _ h1 h2 hs hc hk
      exact Or.inr e
    · replace h4 : (left (keyL s' c') && !(keyL s' c').sameKey (keyL s c)) = false := h4
      rw [no_key hk] at h4
      exact Or.inl ⟨s', c', e, h1, h2, h3, by simpa using h4⟩
theorem Coll.done {M : RM} {left : Lit → Bool} {ss : List (List UInt8)} (h : Coll M left ss) (hl : ∀ kl, left kl = false) : States M ((Lib.compact (ss.mergeSort fun x y => decide (x ≤ y))).map bts) := by
  obtain ⟨s1, s2⟩ := sort_spec ss
  obtain ⟨c1, c2⟩ := compact_spec _ s1
  refine ⟨?_, fun s => ?_⟩
  · rw [List.pairwise_map]
    exact c1.imp (fun {a b} x => by unfold ltB; rw [of_bts, of_bts]; exact x)
  · rw [List.mem_map]
    constructor
    · rintro ⟨b, hb, rfl⟩
      obtain ⟨s', c', e, h1, h2, h3, _⟩ := (h b).1 ((s2 b).1 ((c2 b).1 hb))
      subst e
      rw [bts_of]
      exact ⟨c', h3, h1, h2⟩
    · rintro ⟨c', h1, h2, h3⟩
      exact ⟨s.data.toList, (c2 _).2 ((s2 _).2 ((h _).2 ⟨s, c', rfl, h2, h3, h1, hl _⟩)), bts_of s⟩
/-- Behind slices.Compact the slice owns what is left. -/
theorem owns_compact {w : World} {base g cap n : Nat} {cur : Array Value} {zs : List (List UInt8)} (hbase : base ≤ g) (hb : w.heap[g]? = some (.cells cur 9 (0, 0))) (h1 : zs.length ≤ cap) (h2 : cap ≤ maxLen) (h3 : cur.size = cap) :
    (putRow encStr (Sort.ahead w n) g 0 (Lib.compact zs ++ List.replicate (zs.length - (Lib.compact zs).length) []).toArray).ownsRow base 9 1 (.slice (some ⟨g, 0, none⟩) (Lib.compact zs).length cap) (Lib.compact zs).length ((Lib.compact zs).map encStr) := by
  have hle := Lib.compact_length_le zs
  have hh := heap_sorted (n := n) (os := #[]) (Lib.compact zs ++ List.replicate (zs.length - (Lib.compact zs).length) []).toArray hb
  rw [grow_empty] at hh
  refine ⟨by simp, .inr ⟨g, cap, _, rfl, hbase, hh, by omega, h2, by simp [putCells, h3], ?_⟩⟩
  have ht := take_putCells cur (Lib.compact zs ++ List.replicate (zs.length - (Lib.compact zs).length) []) (by simp; omega)
  rw [Nat.mul_one]
  have e : ((putCells encStr 0 (Lib.compact zs ++ List.replicate (zs.length - (Lib.compact zs).length) []).toArray cur).toList.take (Lib.compact zs ++ List.replicate (zs.length - (Lib.compact zs).length) []).length).take (Lib.compact zs).length = (Lib.compact zs).map encStr := by
    rw [ht, List.map_append, List.take_append_of_le_length (by simp), List.take_of_length_le (by simp)]
  rw [List.take_take, List.length_append, Nat.min_eq_left (Nat.le_add_right _ _)] at e
  exact e
end Go.Proofs.Ytbjoegladcmibaa.Rt
