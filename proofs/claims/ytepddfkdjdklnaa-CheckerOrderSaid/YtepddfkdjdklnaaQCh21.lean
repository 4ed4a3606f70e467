/-
  checker: need, the plain part; sorting a row of one's own.
-/
import Derived.Test.YtepddfkdjdklnaaQCh20
namespace Go.Proofs.Ytepddfkdjdklnaa.Ch
set_option linter.unusedVariables false
set_option linter.unusedSimpArgs false
set_option linter.unnecessarySimpa false
open Go.RowKit Go.Maps Go.Proofs.YtepddfkdjdklnaaK Go.Proofs.Ytepddfkdjdklnaa.PCheckerOrder Go.Proofs.YtepddfkdjdklnaaW.PrintWords Go.Proofs.YtepddfkdjdklnaaW.PrintLast Go.Sort

theorem sort_own {w0 W : World} {v : Value} {l : List Int} (hb : Below w0.heap.size w0 W) (h : W.ownsRow w0.heap.size 3 1 v l.length (l.map (Value.int .i64))) (hl : l.length ≤ 1000000) :
    Calls Try.prog 33 #[v] W fun e w' => e = .returned (.tuple #[]) ∧ w'.ownsRow w0.heap.size 3 1 v (sortI l).length ((sortI l).map (Value.int .i64)) ∧ Below w0.heap.size w0 w' := by
  rcases h.2 with ⟨rfl, hz⟩ | ⟨gb, cap, cur, rfl, hge, hbk, hle, hcap, hcs, htk⟩
  · have hl0 : l = [] := List.eq_nil_of_length_eq_zero hz
    subst hl0
    have hs0 : sortI [] = [] := List.eq_nil_of_length_eq_zero (by rw [sortI_len]; rfl)
    rw [hs0]
    refine (Try.slices_Sort_int_none none 0 W).mono ?_
    rintro e w' ⟨rfl, rfl⟩
    exact ⟨rfl, h, hb⟩
  · rw [Nat.mul_one] at hcs htk
    refine (Try.slices_Sort_int gb 0 cap l W (holds_of_blockI hbk htk) (block_lt hbk) (by omega)).mono ?_
    rintro e w' ⟨rfl, nd, os, rfl⟩
    have hgr := grownBy_sortedI (w := W) (g := gb) (n := nd) (os := os) (sortI l).toArray
    have hr := ownsRow_sortedI (n := nd) (os := os) (ss := l) (ts := sortI l) (sortI_len l) hge hbk hle hcap (by omega : cur.size = cap * 1)
    refine ⟨rfl, ?_, grown_low hb hgr hge⟩
    rw [sortI_len]
    exact hr
theorem own_at {w : World} {base n j : Nat} {e : TypeId} {v : Value} {xs : List Value} (h : w.ownsRow base e 1 v n xs) (hj : j < n) : ∃ g cap u, v = .slice (some ⟨g, 0, none⟩) n cap ∧ n ≤ cap ∧ base ≤ g ∧ g < w.heap.size ∧ xs[j]? = some u ∧ w.cell? ⟨g, j, none⟩ = some u := by
  obtain ⟨hlen, hh⟩ := h
  rcases hh with ⟨rfl, h0⟩ | ⟨g, cap, cur, rfl, hb, hg, hn, hc, hs, ht⟩
  · omega
  · have hjx : j < xs.length := by omega
    refine ⟨g, cap, xs[j], rfl, hn, hb, block_lt hg, List.getElem?_eq_getElem hjx, ?_⟩
    have e1 : cur.toList[j]? = some xs[j] := by
      have h2 : (cur.toList.take (n * 1))[j]? = xs[j]? := by rw [ht]
      rw [List.getElem?_take_of_lt (by omega), List.getElem?_eq_getElem hjx] at h2
      exact h2
    rw [Array.getElem?_toList] at e1
    simp [World.cell?, hg, e1]
theorem own_weak {w : World} {b b' n s : Nat} {e : TypeId} {v : Value} {xs : List Value} (h : w.ownsRow b e s v n xs) (hb : b' ≤ b) : w.ownsRow b' e s v n xs := by
  refine ⟨h.1, ?_⟩
  rcases h.2 with h0 | ⟨g, cap, cur, rfl, hbb, rest⟩
  · exact .inl h0
  · exact .inr ⟨g, cap, cur, rfl, Nat.le_trans hb hbb, rest⟩
theorem own_block {w : World} {b n s q : Nat} {e : TypeId} {v : Value} {xs : List Value} (h : w.ownsRow b e s v n xs) (hq : v.ownBlock = some q) : b ≤ q ∧ ∃ cur, w.heap[q]? = some (.cells cur e (0, 0)) := by
  rcases h.2 with ⟨rfl, _⟩ | ⟨g', cap, cur, rfl, hb, hgg, _⟩
  · cases hq
  · obtain rfl : g' = q := Option.some.inj hq
    exact ⟨hb, cur, hgg⟩
/-- A row stays, if what changes is no block of its kind. -/
theorem own_far {w w' : World} {b n s : Nat} {e : TypeId} {v : Value} {xs : List Value} {row : Option Nat} (h : w.ownsRow b e s v n xs) (hg : w.grownBy w' row) (hne : ∀ q, row = some q → ∀ cur, w.heap[q]? ≠ some (.cells cur e (0, 0))) : w'.ownsRow b e s v n xs := by
  refine World.ownsRow.kept h hg ?_
  cases hv : v.ownBlock with
  | none => exact .inl rfl
  | some q =>
    refine .inr fun he => ?_
    obtain ⟨_, cur, hc⟩ := own_block h hv
    exact hne q he.symm cur hc
theorem own_on {w w' : World} {b n s : Nat} {e : TypeId} {v : Value} {xs : List Value} (h : w.ownsRow b e s v n xs) (hb : Below w.heap.size w w') : w'.ownsRow b e s v n xs :=
  World.ownsRow.kept (row := none) h ⟨hb.os, hb.tape, hb.output, hb.size, fun k hk _ => hb.block k hk⟩ (by cases v.ownBlock <;> simp)
def intV (l : List Nat) : List Value := l.map fun n => .int .i64 (n : Nat)
theorem intV_of {l : List Int} (h : ∀ x ∈ l, 0 ≤ x) : l.map (Value.int .i64) = intV (l.map Int.toNat) := by
  unfold intV
  rw [List.map_map]
  refine List.map_congr_left fun x hx => ?_
  simp [Int.toNat_of_nonneg (h x hx)]
/-- What the boxes need, as it lies in memory. -/
structure NeedsIn (w : World) (base : Nat) (v : Value) (ns : List (List Nat)) : Prop where
  row : ∃ vs : List Value, w.ownsRow base 30 1 v ns.length vs ∧ ∀ i (h : i < ns.length), ∃ u, vs[i]? = some u ∧ w.ownsRow base 3 1 u ns[i].length (intV ns[i])
theorem NeedsIn.nil (w : World) (base : Nat) : NeedsIn w base (.slice none 0 0) [] := ⟨[], World.ownsRow_nil _ _ _ _, fun i h => absurd h (by simp)⟩
theorem NeedsIn.below {w w' : World} {base : Nat} {v : Value} {ns : List (List Nat)} (h : NeedsIn w base v ns) (hb : Below w.heap.size w w') : NeedsIn w' base v ns := by
  obtain ⟨vs, h1, h2⟩ := h.row
  exact ⟨vs, own_on h1 hb, fun i hi => by obtain ⟨u, hu, ho⟩ := h2 i hi; exact ⟨u, hu, own_on ho hb⟩⟩
theorem NeedsIn.far {w w' : World} {base p : Nat} {v : Value} {ns : List (List Nat)} {C : Array Value} (h : NeedsIn w base v ns) (hg : w.grownBy w' (some p)) (hp : w.heap[p]? = some (.cells C 36 (0, 0))) : NeedsIn w' base v ns := by
  obtain ⟨vs, h1, h2⟩ := h.row
  have hne : ∀ e : TypeId, e ≠ 36 → ∀ q, some p = some q → ∀ cur, w.heap[q]? ≠ some (.cells cur e (0, 0)) := fun e he q hq cur hc => by
    obtain rfl := Option.some.inj hq
    exact ty_ne hc hp he rfl
  exact ⟨vs, own_far h1 hg (hne _ (by decide)), fun i hi => by obtain ⟨u, hu, ho⟩ := h2 i hi; exact ⟨u, hu, own_far ho hg (hne _ (by decide))⟩⟩
theorem NeedsIn.snoc {w w' : World} {base : Nat} {v v' u : Value} {ns : List (List Nat)} {n : List Nat} {vs : List Value} (h1 : w.ownsRow base 30 1 v ns.length vs) (h2 : ∀ i (h : i < ns.length), ∃ u, vs[i]? = some u ∧ w.ownsRow base 3 1 u ns[i].length (intV ns[i])) (hu : w.ownsRow base 3 1 u n.length (intV n)) (hg : w.grownBy w' v.ownBlock) (ho : w'.ownsRow base 30 1 v' (ns.length + 1) (vs ++ [u])) : NeedsIn w' base v' (ns ++ [n]) := by
  have hne : ∀ q, v.ownBlock = some q → ∀ cur, w.heap[q]? ≠ some (.cells cur 3 (0, 0)) := fun q hq cur hc => by
    obtain ⟨_, cur2, hc2⟩ := own_block h1 hq
    exact ty_ne hc hc2 (by decide) rfl
  have hvl : vs.length = ns.length := by have := h1.1; omega
  refine ⟨vs ++ [u], by rw [List.length_append, List.length_singleton]; exact ho, fun i hi => ?_⟩
  rw [List.length_append, List.length_singleton] at hi
  by_cases e : i < ns.length
  · obtain ⟨x, hx, hox⟩ := h2 i e
    refine ⟨x, by rw [List.getElem?_append_left (by omega)]; exact hx, ?_⟩
    rw [List.getElem_append_left e]
    exact own_far hox hg hne
  · obtain rfl : i = ns.length := by omega
    refine ⟨u, by rw [List.getElem?_append_right (by omega), hvl]; simp, ?_⟩
    rw [List.getElem_append_right (Nat.le_refl _)]
    simp only [Nat.sub_self, List.getElem_cons_zero]
    exact own_far hu hg hne
theorem tOf_nonneg : ∀ (ns : List Int) (y : Int), 0 ≤ tOf ns y
  | [], _ => by simp [tOf]
  | n :: ns, y => by
    have := tOf_nonneg ns y
    rw [tOf]
    split
    · omega
    · split <;> omega
theorem tOf_lt : ∀ (ns : List Int) (y : Int), y ∈ ns → tOf ns y < ns.length
  | [], _, h => by cases h
  | n :: ns, y, h => by
    rw [tOf]
    by_cases e : n = y
    · rw [if_pos e, List.length_cons]; omega
    · have hm : y ∈ ns := by
        rcases List.mem_cons.1 h with h | h
        · exact absurd h.symm e
        · exact h
      have := tOf_lt ns y hm
      rw [if_neg e, if_pos hm, List.length_cons]; omega
noncomputable def needZ (ns : List Int) (x : S43) : List Int := sortI ((refsR x.f1).map (tOf ns))
noncomputable def needN (ns : List Int) (x : S43) : List Nat := (needZ ns x).map Int.toNat
noncomputable def okN (ns : List Int) (x : S43) : Bool := (refsR x.f1).all (kOf ns)
theorem needZ_mem {ns : List Int} {x : S43} {z : Int} (h : z ∈ needZ ns x) : 0 ≤ z := by
  unfold needZ sortI at h
  rw [List.mem_mergeSort] at h
  obtain ⟨y, _, rfl⟩ := List.mem_map.1 h
  exact tOf_nonneg _ _
theorem needN_lt {ns : List Int} {x : S43} (ho : okN ns x = true) {z : Nat} (h : z ∈ needN ns x) : z < ns.length := by
  unfold needN at h
  obtain ⟨y, hy, rfl⟩ := List.mem_map.1 h
  have hy2 := hy
  unfold needZ sortI at hy
  rw [List.mem_mergeSort] at hy
  obtain ⟨r, hr, rfl⟩ := List.mem_map.1 hy
  have hk := List.all_eq_true.1 ho r hr
  unfold kOf at hk
  have := tOf_lt ns r (of_decide_eq_true hk)
  have := tOf_nonneg ns r
  omega
theorem needV (ns : List Int) (x : S43) : (needZ ns x).map (Value.int .i64) = intV (needN ns x) := intV_of fun _ h => needZ_mem h
theorem needN_len (ns : List Int) (x : S43) : (needN ns x).length = (refsR x.f1).length := by
  unfold needN needZ
  rw [List.length_map, sortI_len, List.length_map]
theorem refsR_le (x : S41) : (refsR x).length ≤ (refsB x).length := by
  unfold refsR
  split
  · exact Nat.le_trans (Lib.compact_length_le _) (by rw [sortI_len]; exact Nat.le_refl _)
  · simp
/-- After need: either all is known, and what is needed lies in the plan, or not. -/
def NeedP (w0 : World) (p m : Nat) (c0 c3 : Value) (l : List S43) (ns : List Int) (e : Ending) (w' : World) : Prop :=
  Below w0.heap.size w0 w' ∧ ((l.all (okN ns) = true ∧ e = .returned (.int .i64 0) ∧ ∃ v, w'.heap[p]? = some (.cells #[c0, .map (some m), v, c3] 36 (0, 0)) ∧ NeedsIn w' w0.heap.size v (l.map (needN ns)) ∧ Pl w' m l.length (tOf ns) (kOf ns)) ∨ (l.all (okN ns) = false ∧ e = .returned (.int .i64 83)))
end Go.Proofs.Ytepddfkdjdklnaa.Ch
