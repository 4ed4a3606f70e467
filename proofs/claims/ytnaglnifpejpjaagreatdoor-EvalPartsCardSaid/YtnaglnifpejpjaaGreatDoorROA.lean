/- Several texts in one. -/
import Derived.Test.YtnaglnifpejpjaaGreatDoorRWWords
import Derived.ProofKit
import Derived.OpenShut
import Derived.ChangeOld
import Derived.SizedLaws
import Derived.Deep.Slices
import Derived.Lib.SmallJoins
/-
  What a value that came in says of a kind (the print's kinds: Kd): read off the row's own reading (trod), kind by kind.
-/
namespace Go.Proofs.YtnaglnifpejpjaaGreatDoor.Opens
set_option linter.unusedVariables false
set_option linter.unusedSimpArgs false
set_option linter.unnecessarySimpa false
open Go.RowKit Go.Proofs.YtnaglnifpejpjaaGreatDoorW.PrintWords Go.ChangeShapes Go.WideShapes Go.ChangeAt Go.Deep

/-- At fuel n: cells that are read at type t are of the kind d, and g holds of what they say. -/
def Op {α : Type} (P : Program) (n : Nat) (t : TypeId) (d : Kd α) (g : α → Prop) : Prop :=
 ∀ {H : Type} {enc : TypeId × Value → H} {w : World} {base : Nat} {held : Bool} {cs : List Value} {x : DataW H × List MemPlace},
  DataW.trod enc P w base (fun _ => true) held n t cs = some x → ∃ v, d.K w v cs ∧ g v

theorem Op.int {P : Program} {n : Nat} {t : TypeId} {k : IntKind} (ht : P.underlying t = some (.int k)) : Op P n t (Kd.int k) (fun v => (Lit.int k v).wf = true) := by
 intro H enc w base held cs x h
 obtain ⟨v, h1, _, h2⟩ := DataW.trod_int ht h
 exact ⟨v, h1, h2⟩
theorem Op.bool {P : Program} {n : Nat} {t : TypeId} (ht : P.underlying t = some .bool) : Op P n t Kd.bool (fun _ => True) := by
 intro H enc w base held cs x h
 obtain ⟨v, h1, _⟩ := DataW.trod_bool ht h
 exact ⟨v, h1, trivial⟩

theorem cells_get {w : World} {base n : Nat} {a : Addr} {cs : List Value} (h : w.cells? base a n = some cs) : cs.length = n ∧ ∀ i u, cs[i]? = some u → w.cell? (a.add i) = some u := by
 obtain ⟨_, h1, h2⟩ := World.cells?_some h
 refine ⟨h1, fun i u hu => ?_⟩
 have hi : i < n := by
  rw [← h1]
  exact (List.getElem?_eq_some_iff.1 hu).1
 rw [h2 i hi]
 exact hu

end Go.Proofs.YtnaglnifpejpjaaGreatDoor.Opens

/-
  What a value that came in says of a kind, and how long its slices are (each of them takes no more bytes than any address space has).
-/
namespace Go.Proofs.YtnaglnifpejpjaaGreatDoor.OpenW
set_option linter.unusedVariables false
set_option linter.unusedSimpArgs false
set_option linter.unnecessarySimpa false
open Go.RowKit Go.Proofs.YtnaglnifpejpjaaGreatDoorW.PrintWords Go.ChangeShapes Go.WideShapes Go.ChangeAt Go.Deep Go.Proofs.YtnaglnifpejpjaaGreatDoor.Opens

/-- No slice in it takes more than the reach. -/
def Light {H : Type} (P : Program) (t : TypeId) (d : DataW H) : Prop := ∀ n ∈ d.weights P t, n ≤ reachBytes
theorem Light.of {H : Type} {P : Program} {ts : List TypeId} {ds : List (DataW H)} (h : (DataW.weightsEach P ts ds).all (· ≤ reachBytes) = true) {j : Nat} {t : TypeId} {d : DataW H} (ht : ts[j]? = some t) (hd : ds[j]? = some d) : Light P t d := fun n hn => by
 have := List.all_eq_true.1 h n (DataW.weights_mem_each ht hd n hn)
 simpa using this
theorem weightsAll_mem {H : Type} {P : Program} {e : TypeId} : ∀ {l : List (DataW H)} {d : DataW H}, d ∈ l → ∀ n ∈ d.weights P e, n ∈ DataW.weightsAll P e l
 | x :: xs, d, h, n, hn => by
   rw [DataW.weightsAll, List.mem_append]
   rcases List.mem_cons.1 h with rfl | h
   ·exact .inl hn
   ·exact .inr (weightsAll_mem h n hn)
/-- At fuel n: cells that are read at type t are of the kind d, and g holds of what they say, if it is light. -/
def Op {α : Type} (P : Program) (n : Nat) (t : TypeId) (d : Kd α) (g : α → Prop) : Prop :=
 ∀ {H : Type} {enc : TypeId × Value → H} {w : World} {base : Nat} {held : Bool} {cs : List Value} {x : DataW H × List MemPlace},
  DataW.trod enc P w base (fun _ => true) held n t cs = some x → Light P t x.1 → ∃ v, d.K w v cs ∧ g v
theorem Op.zero {α : Type} {P : Program} {t : TypeId} {d : Kd α} {g : α → Prop} : Op P 0 t d g := by
 intro H enc w base held cs x h
 simp [DataW.trod] at h
theorem Op.of {α : Type} {P : Program} {n : Nat} {t : TypeId} {d : Kd α} {g : α → Prop} (h : Opens.Op P n t d g) : Op P n t d g := fun hx _ => h hx
theorem Op.int {P : Program} {n : Nat} {t : TypeId} {k : IntKind} (ht : P.underlying t = some (.int k)) : Op P n t (Kd.int k) (fun v => (Lit.int k v).wf = true) := Op.of (Opens.Op.int ht)
theorem Op.bool {P : Program} {n : Nat} {t : TypeId} (ht : P.underlying t = some .bool) : Op P n t Kd.bool (fun _ => True) := Op.of (Opens.Op.bool ht)
theorem Op.string {P : Program} {n : Nat} {t : TypeId} (ht : P.underlying t = some .string) : Op P n t Kd.string (fun s => s.size ≤ 140737488351232) := by
 intro H enc w base held cs x h hl
 obtain ⟨v, h1, h3, h2⟩ := DataW.trod_string ht h
 refine ⟨v, h1, ?_⟩
 subst h3
 have := hl v.data.toList.length (by simp only [DataW.weights, List.mem_singleton])
 rw [Array.length_toList] at this
 exact this
theorem Op.mono {α : Type} {P : Program} {n : Nat} {t : TypeId} {d : Kd α} {g g' : α → Prop} (h : Op P n t d g) (hg : ∀ v, g v → g' v) : Op P n t d g' := by
 intro H enc w base held cs x hx hl
 obtain ⟨v, h1, h2⟩ := h hx hl
 exact ⟨v, h1, hg v h2⟩
theorem Op.iso {α β : Type} {P : Program} {n : Nat} {t : TypeId} {d : Kd α} {g : α → Prop} (h : Op P n t d g) (f : β → α) (m : α → β) (hm : ∀ v, f (m v) = v) : Op P n t (Kd.iso d f) (fun x => g (f x)) := by
 intro H enc w base held cs x hx hl
 obtain ⟨v, h1, h2⟩ := h hx hl
 exact ⟨m v, by show d.K w (f (m v)) cs; rw [hm]; exact h1, by show g (f (m v)); rw [hm]; exact h2⟩
/-- The fields from cell o on. -/
def Fl {α : Type} (P : Program) (n : Nat) (o : Nat) (fs : List Field) (d : Kd α) (g : α → Prop) : Prop :=
 ∀ {H : Type} {enc : TypeId × Value → H} {w : World} {base : Nat} {held : Bool} {cs : List Value},
  (∀ f ∈ fs, ∃ y, DataW.trod enc P w base (fun _ => true) held n f.type ((cs.drop f.offset).take (P.cellsOf f.type)) = some y ∧ Light P f.type y.1) → cs.length = o + d.sz → ∃ v, d.K w v (cs.drop o) ∧ g v
theorem Fl.one {α : Type} {P : Program} {n o : Nat} {f : Field} {d : Kd α} {g : α → Prop} (ho : f.offset = o) (hs : P.cellsOf f.type = d.sz) (h : Op P n f.type d g) : Fl P n o [f] d g := by
 intro H enc w base held cs hf hl
 obtain ⟨y, hy, hy2⟩ := hf f (List.mem_singleton.2 rfl)
 rw [ho, hs, List.take_of_length_le (by rw [List.length_drop]; omega)] at hy
 exact h hy hy2
theorem Fl.cons {α β : Type} {P : Program} {n o : Nat} {f : Field} {fs : List Field} {d : Kd α} {e : Kd β} {g : α → Prop} {k : β → Prop} (ho : f.offset = o) (hs : P.cellsOf f.type = d.sz) (h : Op P n f.type d g)
 (r : Fl P n (o + d.sz) fs e k) : Fl P n o (f :: fs) (Kd.pair d e) (fun v => g v.1 ∧ k v.2) := by
 intro H enc w base held cs hf hl
 obtain ⟨y, hy, hy2⟩ := hf f (List.mem_cons_self ..)
 rw [ho, hs] at hy
 obtain ⟨v, h1, h2⟩ := h hy hy2
 obtain ⟨u, h3, h4⟩ := r (fun f' hf' => hf f' (List.mem_cons_of_mem _ hf')) (by rw [hl]; show o + (d.sz + e.sz) = _; omega)
 refine ⟨(v, u), ⟨(cs.drop o).take d.sz, cs.drop (o + d.sz), ?_, h1, h3⟩, h2, h4⟩
 rw [← List.drop_drop, List.take_append_drop]
theorem Op.struct {α : Type} {P : Program} {n : Nat} {t : TypeId} {fs : Array Field} {d : Kd α} {g : α → Prop} (ht : P.underlying t = some (.struct fs)) (hs : P.cellsOf t = d.sz) (h : Fl P n 0 fs.toList d g) : Op P (n + 1) t d g := by
 intro H enc w base held cs x hx hlt
 obtain ⟨xs, m, hm, hxe, hl, hlen, hg⟩ := DataW.trod_struct ht hx
 obtain rfl : n = m := by omega
 obtain ⟨v, h1, h2⟩ := h (cs := cs) (fun f hf => by
  obtain ⟨i, hi, rfl⟩ := List.getElem_of_mem hf
  have hi' : i < fs.size := by simpa using hi
  have := hg i fs[i] (Array.getElem?_eq_getElem hi')
  rw [List.getElem?_eq_getElem (by omega)] at this
  rw [Array.getElem_toList]
  refine ⟨_, this, fun k hk => hlt k ?_⟩
  rw [hxe]
  simp only [DataW.weights, ht]
  exact DataW.weights_mem_each (j := i) (by simp [hi']) (by rw [List.getElem?_map, List.getElem?_eq_getElem (by omega)]; rfl) k hk) (by rw [hl, hs]; omega)
 exact ⟨v, by rwa [List.drop_zero] at h1, h2⟩
theorem Op.slice {α : Type} {P : Program} {n : Nat} {t e : TypeId} {d : Kd α} {g : α → Prop} (ht : P.underlying t = some (.slice e)) (hs : P.cellsOf e = d.sz) (hb : decide (0 < P.bytesOf e) = true) (z : α) (h : ∀ m, m < n → Op P m e d g) :
 Op P n t (Kd.slice e d) (fun l => l.length ≤ 140737488351232 ∧ ∀ x ∈ l, g x) := by
 intro H enc w base held cs x hx hlt
 rcases DataW.trod_slice ht hx with ⟨rfl, _⟩ | ⟨a, len, cap, elems, rest, k, hk, rfl, hxe, _, hlc, hcm, hlen0, hel, _, _⟩
 ·exact ⟨[], ⟨none, 0, rfl, Nat.le_refl _, rfl, Nat.zero_le _, fun h => absurd h (by simp)⟩, Nat.zero_le _, fun x hx => by simp at hx⟩
 ·have hw : ∀ q ∈ elems, Light P e q.1 := fun q hq k hk => hlt k (by
   rw [hxe]
   simp only [DataW.weights, ht, List.mem_cons, List.mem_append]
   exact .inr (.inl (weightsAll_mem (List.mem_map.2 ⟨q, hq, rfl⟩) k hk)))
  have hbig : len ≤ 140737488351232 := by
   have h1 := hlt ((elems.length + rest.length) * P.bytesOf e) (by
    rw [hxe]
    simp [DataW.weights, ht])
   have h2 := of_decide_eq_true hb
   have h3 : elems.length + rest.length ≤ (elems.length + rest.length) * P.bytesOf e := Nat.le_mul_of_pos_right _ h2
   unfold reachBytes at h1
   omega
  have each : ∀ i, ∃ v : α, i < len → (∃ c : List Value, c.length = d.sz ∧ d.K w v c ∧ ∀ j u, c[j]? = some u → w.cell? (a.add (i * d.sz + j)) = some u) ∧ g v := fun i => by
   by_cases hil : i < len
   ·have key := hel i hil
    rw [List.getElem?_eq_getElem (by omega)] at key
    obtain ⟨cs', hc, ht'⟩ := Option.bind_eq_some_iff.1 key
    obtain ⟨v, hv, hgv⟩ := h k (by omega) ht' (hw _ (List.getElem_mem _))
    obtain ⟨hl, hcell⟩ := cells_get hc
    refine ⟨v, fun _ => ⟨⟨cs', by rw [hl, hs], hv, fun j u hu => ?_⟩, hgv⟩⟩
    have := hcell j u hu
    rw [hs, Go.Addr.add_add] at this
    exact this
   ·exact ⟨z, fun h => absurd h hil⟩
  obtain ⟨f, hf⟩ := Classical.axiomOfChoice each
  have hlen : ((List.range len).map f).length = len := by simp
  refine ⟨(List.range len).map f, ⟨some a, cap, by rw [hlen], by rw [hlen]; exact hlc, hlen ▸ rfl, by rw [hlen]; unfold maxLen at hcm; omega, fun _ => ⟨a, rfl, fun j p hp => ?_⟩⟩, by rw [hlen]; omega, fun x hx => ?_⟩
  ·have hj : j < len := by
    have := (List.getElem?_eq_some_iff.1 hp).1
    rwa [hlen] at this
   have hp' : f j = p := by
    rw [List.getElem?_map, List.getElem?_range hj] at hp
    simpa using hp
   obtain ⟨⟨c, h1, h2, h3⟩, _⟩ := hf j hj
   rw [hp'] at h2
   exact ⟨c, h1, h2, h3⟩
  ·obtain ⟨j, hj, rfl⟩ := List.mem_map.1 hx
   exact (hf j (List.mem_range.1 hj)).2
end Go.Proofs.YtnaglnifpejpjaaGreatDoor.OpenW
