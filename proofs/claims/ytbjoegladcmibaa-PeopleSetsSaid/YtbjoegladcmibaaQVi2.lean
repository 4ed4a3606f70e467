/-
  vatid.forms, vatid.Forms: the map of a member state's forms, and what it tells.
-/
import Derived.Test.YtbjoegladcmibaaQVi1
import Derived.Maps.OwnSet
import Derived.Maps.OwnOps
import Derived.Maps.Views
import Derived.Maps.AppendAt
namespace Go.Proofs.Ytbjoegladcmibaa.Vi
set_option linter.unusedVariables false
set_option linter.unusedSimpArgs false
set_option linter.unnecessarySimpa false
open Go.RowKit Go.Maps Go.Proofs.YtbjoegladcmibaaK Go.Proofs.YtbjoegladcmibaaW.PrintWords

theorem lawS : Keyed Try.prog 9 := string_keyed Try.underlying9
theorem keyS (s : ByteArray) (hs : s.size ≤ maxLen) : keyOf Try.prog 9 (.string s) = some (.string s.data.toList) := by
  have u := Try.underlying9
  unfold keyOf
  rw [u]
  simp [mapKey, u, hs]
theorem ba_of_list {a b : ByteArray} (h : a.data.toList = b.data.toList) : a = b := by
  cases a
  cases b
  congr 1
  exact Array.ext' h
def strs (l : List ByteArray) : Array Value := (l.map Value.string).toArray
/-- How a row of texts reads: its block's number, and how many. -/
def sl : Value → Option (DataW Unit × List MemPlace)
  | .slice none n c => if n = 0 ∧ c = 0 then some (.nil, []) else none
  | .slice (some ⟨g, 0, none⟩) n c => if c = n then some (.agg [.lit (.int .i64 g), .lit (.int .i64 n)], []) else none
  | _ => none
theorem sl_mk (g n : Nat) : sl (.slice (some ⟨g, 0, none⟩) n n) = some (.agg [.lit (.int .i64 g), .lit (.int .i64 n)], []) := by simp [sl]
theorem sl_nil : sl (.slice none 0 0) = some (.nil, []) := rfl
theorem sl_inv {v : Value} {g n : Nat} {ps : List MemPlace} (h : sl v = some (.agg [.lit (.int .i64 g), .lit (.int .i64 n)], ps)) : v = .slice (some ⟨g, 0, none⟩) n n := by
  unfold sl at h
  split at h
  · split at h <;> simp at h
  · rename_i g' n' c'
    split at h
    · rename_i e
      subst e
      simp at h
      obtain ⟨⟨h1, h2⟩, _⟩ := h
      have e1 : g' = g := by omega
      have e2 : c' = n := by omega
      rw [e1, e2]
    · cases h
  · cases h
theorem sl_inv_nil {v : Value} {ps : List MemPlace} (h : sl v = some (.nil, ps)) : v = .slice none 0 0 := by
  unfold sl at h
  split at h
  · split at h
    · rename_i e; rw [e.1, e.2]
    · cases h
  · split at h <;> simp_all
  · cases h
theorem zeroS (w : World) : (zeroValue 81).run Try.prog w = .ok (.slice none 0 0) w := by kernel_rfl
def lookF : List (ByteArray × List ByteArray) → ByteArray → Option (List ByteArray)
  | [], _ => none
  | (k, l) :: L, c => if c = k then some l else lookF L c
/-- At m lies a map of rows of texts: L says what, the last one first. -/
structure FM (w0 w : World) (m n : Nat) (L : List (ByteArray × List ByteArray)) : Prop where
  own : ∃ D : DataW Unit, w.ownsMap Try.prog 9 sl m n D ∧ IsMap D ∧ ∀ c : ByteArray, c.size ≤ maxLen →
    (lookF L c = none → has D (.string c.data.toList) = false) ∧ (∀ l, lookF L c = some l → has D (.string c.data.toList) = true ∧ ∃ g : Nat, D.atKey (.string c.data.toList) .nil = .agg [.lit (.int .i64 g), .lit (.int .i64 l.length)] ∧ w.heap[g]? = some (.cells (strs l) 9 (0, 0)))
  below : Below w0.heap.size w0 w
  mge : w0.heap.size ≤ m
theorem FM.grow {w0 w w1 : World} {m n : Nat} {L : List (ByteArray × List ByteArray)} (h : FM w0 w m n L) (hb : Below w.heap.size w w1) : FM w0 w1 m n L := by
  obtain ⟨D, ⟨es, clock, hm, hF, hs, hd⟩, hi, hD⟩ := h.own
  exact ⟨⟨D, ⟨es, clock, block_on hb hm, hF, hs, hd⟩, hi, fun c hc => ⟨(hD c hc).1, fun l hl => ⟨((hD c hc).2 l hl).1, (((hD c hc).2 l hl).2).imp fun g hg => ⟨hg.1, block_on hb hg.2⟩⟩⟩⟩, s_trans h.below hb, h.mge⟩
theorem FM.put {w0 w w1 : World} {m n g : Nat} {L : List (ByteArray × List ByteArray)} {D : DataW Unit} (h : FM w0 w m n L) (hi : IsMap D) (ho : w.ownsMap Try.prog 9 sl m n D) (hD : ∀ c : ByteArray, c.size ≤ maxLen →
    (lookF L c = none → has D (.string c.data.toList) = false) ∧ (∀ l, lookF L c = some l → has D (.string c.data.toList) = true ∧ ∃ g : Nat, D.atKey (.string c.data.toList) .nil = .agg [.lit (.int .i64 g), .lit (.int .i64 l.length)] ∧ w.heap[g]? = some (.cells (strs l) 9 (0, 0))))
    (key : ByteArray) (ss : List ByteArray) (hg : w.heap[g]? = some (.cells (strs ss) 9 (0, 0))) (hgr : w.grownBy w1 (some m))
    (ho1 : w1.ownsMap Try.prog 9 sl m (n + 1) (D.put (.string key.data.toList) (.agg [.lit (.int .i64 g), .lit (.int .i64 ss.length)]))) : FM w0 w1 m (n + 1) ((key, ss) :: L) := by
  obtain ⟨es, clock, hm, _⟩ := ho
  have hne : ∀ (g' : Nat) (C : Array Value), w.heap[g']? = some (.cells C 9 (0, 0)) → w1.heap[g']? = some (.cells C 9 (0, 0)) := fun g' C hC => by
    rw [hgr.block g' (block_lt hC) (fun e => by
      have e2 : g' = m := by simpa using e
      rw [e2, hm] at hC
      cases hC)]
    exact hC
  refine ⟨⟨_, ho1, hi.put _ _, fun c hc => ?_⟩, h.below.grown hgr h.below.size (fun j hj => by cases hj; exact h.mge), h.mge⟩
  by_cases e : c = key
  · subst e
    have el : lookF ((c, ss) :: L) c = some ss := by simp [lookF]
    rw [el]
    refine ⟨fun x => (by cases x), fun l hl => ?_⟩
    cases hl
    refine ⟨has_put_same hi (by simp [WideAt.IsKeyLit]) _, g, ?_, hne _ _ hg⟩
    rw [atKey_put_same hi (by simp [WideAt.IsKeyLit])]
  · have el : lookF ((key, ss) :: L) c = lookF L c := by simp [lookF, e]
    have hk : Lit.string c.data.toList ≠ Lit.string key.data.toList := fun x => e (ba_of_list (by injection x))
    rw [el]
    refine ⟨fun x => ?_, fun l hl => ?_⟩
    · rw [has_put_other hk]; exact (hD c hc).1 x
    · obtain ⟨h1, g', h2, h3⟩ := (hD c hc).2 l hl
      refine ⟨by rw [has_put_other hk]; exact h1, g', by rw [atKey_put_other hk]; exact h2, hne _ _ h3⟩
def txt : Value → ByteArray | .string s => s | _ => ByteArray.empty
theorem FM.ins {w0 w : World} {b n : Nat} {L : List (ByteArray × List ByteArray)} (h : FM w0 w b n L) (hn : n < maxLen) (key : ByteArray) (hks : key.size ≤ maxLen) (vals : List Value) (k : Nat) (hk : vals.length = k) (hvs : strs (vals.map txt) = vals.toArray) :
    ∃ w', (Instr.mapUpdate 176 (.map (some b)) (.string key) (.slice (some ⟨w.heap.size, 0, none⟩) k k)).run Try.prog (w.alloc (.cells vals.toArray 9)) = .ok () w' ∧ FM w0 w' b (n + 1) ((key, vals.map txt) :: L) := by
  have h' := h.grow (s_alloc (Below.refl _ _) (.cells vals.toArray 9))
  obtain ⟨D, ho, hi, hD⟩ := h'.own
  obtain ⟨w', hrun, r1, r2⟩ := ho.update (t := 176) lawS Try.underlying176 hn (keyS key hks) (sl_mk w.heap.size (vals.map txt).length)
  refine ⟨w', ?_, h'.put hi ho hD key (vals.map txt) (by rw [hvs]; exact Array.getElem?_push_size) r2 r1⟩
  rw [List.length_map, hk] at hrun
  exact hrun
theorem FM.made (w : World) : FM w (w.alloc (.map #[] 0)) w.heap.size 0 [] :=
  ⟨⟨.map [], World.ownsMap_made _ _ _ _, isMap_empty, fun c _ => ⟨fun _ => rfl, fun l hl => by cases hl⟩⟩, s_alloc (Below.refl _ _) _, Nat.le_refl _⟩
theorem FM.look {w0 w : World} {m n : Nat} {L : List (ByteArray × List ByteArray)} (h : FM w0 w m n L) (c : ByteArray) (hc : c.size ≤ maxLen) :
    ∃ v, (Instr.lookup 176 (.map (some m)) (.string c) false).run Try.prog w = .ok v w ∧ ((lookF L c = none ∧ v = .slice none 0 0) ∨ ∃ l g, lookF L c = some l ∧ v = .slice (some ⟨g, 0, none⟩) l.length l.length ∧ w.heap[g]? = some (.cells (strs l) 9 (0, 0))) := by
  obtain ⟨D, ho, hi, hD⟩ := h.own
  obtain ⟨v, ps, hrun, hv⟩ := ho.lookup (t := 176) lawS Try.underlying176 (zeroS w) sl_nil (keyS c hc)
  refine ⟨v, hrun, ?_⟩
  cases hL : lookF L c with
  | none =>
    rw [atKey_of_not_has ((hD c hc).1 hL)] at hv
    exact Or.inl ⟨rfl, sl_inv_nil hv⟩
  | some l =>
    obtain ⟨_, g, h2, h3⟩ := (hD c hc).2 l hL
    rw [h2] at hv
    exact Or.inr ⟨l, g, rfl, sl_inv hv, h3⟩
def formsL : List (ByteArray × List ByteArray) := [
  (⟨#[83, 75]⟩, [⟨#[57, 57, 57, 57, 57, 57, 57, 57, 57, 57]⟩]),
  (⟨#[83, 73]⟩, [⟨#[57, 57, 57, 57, 57, 57, 57, 57]⟩]),
  (⟨#[83, 69]⟩, [⟨#[57, 57, 57, 57, 57, 57, 57, 57, 57, 57, 57, 57]⟩]),
  (⟨#[82, 79]⟩, [⟨#[57, 57]⟩, ⟨#[57, 57, 57]⟩, ⟨#[57, 57, 57, 57]⟩, ⟨#[57, 57, 57, 57, 57]⟩, ⟨#[57, 57, 57, 57, 57, 57]⟩, ⟨#[57, 57, 57, 57, 57, 57, 57]⟩, ⟨#[57, 57, 57, 57, 57, 57, 57, 57]⟩, ⟨#[57, 57, 57, 57, 57, 57, 57, 57, 57]⟩, ⟨#[57, 57, 57, 57, 57, 57, 57, 57, 57, 57]⟩]),
  (⟨#[80, 84]⟩, [⟨#[57, 57, 57, 57, 57, 57, 57, 57, 57]⟩]),
  (⟨#[80, 76]⟩, [⟨#[57, 57, 57, 57, 57, 57, 57, 57, 57, 57]⟩]),
  (⟨#[78, 76]⟩, [⟨#[57, 57, 57, 57, 57, 57, 57, 57, 57, 66, 57, 57]⟩]),
  (⟨#[77, 84]⟩, [⟨#[57, 57, 57, 57, 57, 57, 57, 57]⟩]),
  (⟨#[76, 86]⟩, [⟨#[57, 57, 57, 57, 57, 57, 57, 57, 57, 57, 57]⟩]),
  (⟨#[76, 85]⟩, [⟨#[57, 57, 57, 57, 57, 57, 57, 57]⟩]),
  (⟨#[76, 84]⟩, [⟨#[57, 57, 57, 57, 57, 57, 57, 57, 57]⟩, ⟨#[57, 57, 57, 57, 57, 57, 57, 57, 57, 57, 57, 57]⟩]),
  (⟨#[73, 84]⟩, [⟨#[57, 57, 57, 57, 57, 57, 57, 57, 57, 57, 57]⟩]),
  (⟨#[73, 69]⟩, [⟨#[57, 43, 57, 57, 57, 57, 57, 65]⟩, ⟨#[57, 57, 57, 57, 57, 57, 57, 65, 65]⟩]),
  (⟨#[72, 85]⟩, [⟨#[57, 57, 57, 57, 57, 57, 57, 57]⟩]),
  (⟨#[72, 82]⟩, [⟨#[57, 57, 57, 57, 57, 57, 57, 57, 57, 57, 57]⟩]),
  (⟨#[70, 82]⟩, [⟨#[88, 88, 57, 57, 57, 57, 57, 57, 57, 57, 57]⟩]),
  (⟨#[70, 73]⟩, [⟨#[57, 57, 57, 57, 57, 57, 57, 57]⟩]),
  (⟨#[69, 83]⟩, [⟨#[88, 57, 57, 57, 57, 57, 57, 57, 88]⟩]),
  (⟨#[69, 76]⟩, [⟨#[57, 57, 57, 57, 57, 57, 57, 57, 57]⟩]),
  (⟨#[69, 69]⟩, [⟨#[57, 57, 57, 57, 57, 57, 57, 57, 57]⟩]),
  (⟨#[68, 75]⟩, [⟨#[57, 57, 57, 57, 57, 57, 57, 57]⟩]),
  (⟨#[68, 69]⟩, [⟨#[57, 57, 57, 57, 57, 57, 57, 57, 57]⟩]),
  (⟨#[67, 90]⟩, [⟨#[57, 57, 57, 57, 57, 57, 57, 57]⟩, ⟨#[57, 57, 57, 57, 57, 57, 57, 57, 57]⟩, ⟨#[57, 57, 57, 57, 57, 57, 57, 57, 57, 57]⟩]),
  (⟨#[67, 89]⟩, [⟨#[57, 57, 57, 57, 57, 57, 57, 57, 65]⟩]),
  (⟨#[66, 71]⟩, [⟨#[57, 57, 57, 57, 57, 57, 57, 57, 57]⟩, ⟨#[57, 57, 57, 57, 57, 57, 57, 57, 57, 57]⟩]),
  (⟨#[66, 69]⟩, [⟨#[48, 57, 57, 57, 57, 57, 57, 57, 57, 57]⟩, ⟨#[49, 57, 57, 57, 57, 57, 57, 57, 57, 57]⟩]),
  (⟨#[65, 84]⟩, [⟨#[85, 57, 57, 57, 57, 57, 57, 57, 57]⟩])]
set_option maxRecDepth 100000 in
set_option maxHeartbeats 8000000 in
theorem forms_any (w : World) : Calls Try.prog 121 #[] w fun e w' => e = .returned (.map (some w.heap.size)) ∧ FM w w' w.heap.size 27 formsL := by
  have hmm := @run_makeMap Try.prog
  have h0 := FM.made w
  obtain ⟨w1, r1, h1⟩ := h0.ins (by unfold maxLen; omega) ⟨#[65, 84]⟩ (by decide) [.string ⟨#[85, 57, 57, 57, 57, 57, 57, 57, 57]⟩] 1 rfl rfl
  obtain ⟨w2, r2, h2⟩ := h1.ins (by unfold maxLen; omega) ⟨#[66, 69]⟩ (by decide) [.string ⟨#[48, 57, 57, 57, 57, 57, 57, 57, 57, 57]⟩, .string ⟨#[49, 57, 57, 57, 57, 57, 57, 57, 57, 57]⟩] 2 rfl rfl
  obtain ⟨w3, r3, h3⟩ := h2.ins (by unfold maxLen; omega) ⟨#[66, 71]⟩ (by decide) [.string ⟨#[57, 57, 57, 57, 57, 57, 57, 57, 57]⟩, .string ⟨#[57, 57, 57, 57, 57, 57, 57, 57, 57, 57]⟩] 2 rfl rfl
  obtain ⟨w4, r4, h4⟩ := h3.ins (by unfold maxLen; omega) ⟨#[67, 89]⟩ (by decide) [.string ⟨#[57, 57, 57, 57, 57, 57, 57, 57, 65]⟩] 1 rfl rfl
  obtain ⟨w5, r5, h5⟩ := h4.ins (by unfold maxLen; omega) ⟨#[67, 90]⟩ (by decide) [.string ⟨#[57, 57, 57, 57, 57, 57, 57, 57]⟩, .string ⟨#[57, 57, 57, 57, 57, 57, 57, 57, 57]⟩, .string ⟨#[57, 57, 57, 57, 57, 57, 57, 57, 57, 57]⟩] 3 rfl rfl
  obtain ⟨w6, r6, h6⟩ := h5.ins (by unfold maxLen; omega) ⟨#[68, 69]⟩ (by decide) [.string ⟨#[57, 57, 57, 57, 57, 57, 57, 57, 57]⟩] 1 rfl rfl
  obtain ⟨w7, r7, h7⟩ := h6.ins (by unfold maxLen; omega) ⟨#[68, 75]⟩ (by decide) [.string ⟨#[57, 57, 57, 57, 57, 57, 57, 57]⟩] 1 rfl rfl
  obtain ⟨w8, r8, h8⟩ := h7.ins (by unfold maxLen; omega) ⟨#[69, 69]⟩ (by decide) [.string ⟨#[57, 57, 57, 57, 57, 57, 57, 57, 57]⟩] 1 rfl rfl
  obtain ⟨w9, r9, h9⟩ := h8.ins (by unfold maxLen; omega) ⟨#[69, 76]⟩ (by decide) [.string ⟨#[57, 57, 57, 57, 57, 57, 57, 57, 57]⟩] 1 rfl rfl
  obtain ⟨w10, r10, h10⟩ := h9.ins (by unfold maxLen; omega) ⟨#[69, 83]⟩ (by decide) [.string ⟨#[88, 57, 57, 57, 57, 57, 57, 57, 88]⟩] 1 rfl rfl
  obtain ⟨w11, r11, h11⟩ := h10.ins (by unfold maxLen; omega) ⟨#[70, 73]⟩ (by decide) [.string ⟨#[57, 57, 57, 57, 57, 57, 57, 57]⟩] 1 rfl rfl
  obtain ⟨w12, r12, h12⟩ := h11.ins (by unfold maxLen; omega) ⟨#[70, 82]⟩ (by decide) [.string ⟨#[88, 88, 57, 57, 57, 57, 57, 57, 57, 57, 57]⟩] 1 rfl rfl
  obtain ⟨w13, r13, h13⟩ := h12.ins (by unfold maxLen; omega) ⟨#[72, 82]⟩ (by decide) [.string ⟨#[57, 57, 57, 57, 57, 57, 57, 57, 57, 57, 57]⟩] 1 rfl rfl
  obtain ⟨w14, r14, h14⟩ := h13.ins (by unfold maxLen; omega) ⟨#[72, 85]⟩ (by decide) [.string ⟨#[57, 57, 57, 57, 57, 57, 57, 57]⟩] 1 rfl rfl
  obtain ⟨w15, r15, h15⟩ := h14.ins (by unfold maxLen; omega) ⟨#[73, 69]⟩ (by decide) [.string ⟨#[57, 43, 57, 57, 57, 57, 57, 65]⟩, .string ⟨#[57, 57, 57, 57, 57, 57, 57, 65, 65]⟩] 2 rfl rfl
  obtain ⟨w16, r16, h16⟩ := h15.ins (by unfold maxLen; omega) ⟨#[73, 84]⟩ (by decide) [.string ⟨#[57, 57, 57, 57, 57, 57, 57, 57, 57, 57, 57]⟩] 1 rfl rfl
  obtain ⟨w17, r17, h17⟩ := h16.ins (by unfold maxLen; omega) ⟨#[76, 84]⟩ (by decide) [.string ⟨#[57, 57, 57, 57, 57, 57, 57, 57, 57]⟩, .string ⟨#[57, 57, 57, 57, 57, 57, 57, 57, 57, 57, 57, 57]⟩] 2 rfl rfl
  obtain ⟨w18, r18, h18⟩ := h17.ins (by unfold maxLen; omega) ⟨#[76, 85]⟩ (by decide) [.string ⟨#[57, 57, 57, 57, 57, 57, 57, 57]⟩] 1 rfl rfl
  obtain ⟨w19, r19, h19⟩ := h18.ins (by unfold maxLen; omega) ⟨#[76, 86]⟩ (by decide) [.string ⟨#[57, 57, 57, 57, 57, 57, 57, 57, 57, 57, 57]⟩] 1 rfl rfl
  obtain ⟨w20, r20, h20⟩ := h19.ins (by unfold maxLen; omega) ⟨#[77, 84]⟩ (by decide) [.string ⟨#[57, 57, 57, 57, 57, 57, 57, 57]⟩] 1 rfl rfl
  obtain ⟨w21, r21, h21⟩ := h20.ins (by unfold maxLen; omega) ⟨#[78, 76]⟩ (by decide) [.string ⟨#[57, 57, 57, 57, 57, 57, 57, 57, 57, 66, 57, 57]⟩] 1 rfl rfl
  obtain ⟨w22, r22, h22⟩ := h21.ins (by unfold maxLen; omega) ⟨#[80, 76]⟩ (by decide) [.string ⟨#[57, 57, 57, 57, 57, 57, 57, 57, 57, 57]⟩] 1 rfl rfl
  obtain ⟨w23, r23, h23⟩ := h22.ins (by unfold maxLen; omega) ⟨#[80, 84]⟩ (by decide) [.string ⟨#[57, 57, 57, 57, 57, 57, 57, 57, 57]⟩] 1 rfl rfl
  obtain ⟨w24, r24, h24⟩ := h23.ins (by unfold maxLen; omega) ⟨#[82, 79]⟩ (by decide) [.string ⟨#[57, 57]⟩, .string ⟨#[57, 57, 57]⟩, .string ⟨#[57, 57, 57, 57]⟩, .string ⟨#[57, 57, 57, 57, 57]⟩, .string ⟨#[57, 57, 57, 57, 57, 57]⟩, .string ⟨#[57, 57, 57, 57, 57, 57, 57]⟩, .string ⟨#[57, 57, 57, 57, 57, 57, 57, 57]⟩, .string ⟨#[57, 57, 57, 57, 57, 57, 57, 57, 57]⟩, .string ⟨#[57, 57, 57, 57, 57, 57, 57, 57, 57, 57]⟩] 9 rfl rfl
  obtain ⟨w25, r25, h25⟩ := h24.ins (by unfold maxLen; omega) ⟨#[83, 69]⟩ (by decide) [.string ⟨#[57, 57, 57, 57, 57, 57, 57, 57, 57, 57, 57, 57]⟩] 1 rfl rfl
  obtain ⟨w26, r26, h26⟩ := h25.ins (by unfold maxLen; omega) ⟨#[83, 73]⟩ (by decide) [.string ⟨#[57, 57, 57, 57, 57, 57, 57, 57]⟩] 1 rfl rfl
  obtain ⟨w27, r27, h27⟩ := h26.ins (by unfold maxLen; omega) ⟨#[83, 75]⟩ (by decide) [.string ⟨#[57, 57, 57, 57, 57, 57, 57, 57, 57, 57]⟩] 1 rfl rfl
  rw [show (w.alloc (.map #[] 0)).heap.size = w.heap.size + 1 by simp] at r1
  have HF := Lib.hid h27
  clear h0 h1 h2 h3 h4 h5 h6 h7 h8 h9 h10 h11 h12 h13 h14 h15 h16 h17 h18 h19 h20 h21 h22 h23 h24 h25 h26 h27
  go_enter Try.func121, Try.ntmps121
  go_wp2
  go_ret
  exact ⟨rfl, HF.out⟩
/-- The forms of a state. -/
def formsOf (c : ByteArray) : List ByteArray := (lookF formsL c).getD []
theorem cells_strs {w : World} {g : Nat} {l : List ByteArray} (h : w.heap[g]? = some (.cells (strs l) 9 (0, 0))) (hl : l.length ≤ 100) : Kd.C Kd.string w (some ⟨g, 0, none⟩) l.length l := by
  refine ⟨rfl, by omega, fun _ => ⟨_, rfl, fun j p hp => ⟨[.string p], rfl, rfl, fun i u hu => ?_⟩⟩⟩
  cases i with
  | succ i => simp at hu
  | zero =>
    have hu' : u = .string p := by simpa using hu.symm
    subst hu'
    have ha : (⟨g, 0, none⟩ : Addr).add (j * Kd.string.sz + 0) = ⟨g, j, none⟩ := by
      show (⟨g, 0, none⟩ : Addr).add (j * 1 + 0) = _
      unfold Addr.add; split <;> simp_all
    rw [ha]
    simp only [World.cell?, h]
    simp [strs, hp]
theorem lookF_mem : ∀ (L : List (ByteArray × List ByteArray)) (c : ByteArray) (l : List ByteArray), lookF L c = some l → ∃ k, (k, l) ∈ L
  | [], _, _, h => by cases h
  | (k, x) :: L, c, l, h => by
    unfold lookF at h
    split at h
    · cases h; exact ⟨k, List.mem_cons_self ..⟩
    · obtain ⟨q, hq⟩ := lookF_mem L c l h
      exact ⟨q, List.mem_cons_of_mem _ hq⟩
theorem forms_len : ∀ p ∈ formsL, p.2.length ≤ 100 := by
  have h : formsL.all (fun p => decide (p.2.length ≤ 100)) = true := by decide +kernel
  intro p hp
  exact of_decide_eq_true (List.all_eq_true.1 h p hp)
set_option maxRecDepth 100000 in
set_option maxHeartbeats 2000000 in
theorem Forms_any (c : ByteArray) (hc : c.size ≤ maxLen) (w : World) : Calls Try.prog 97 #[.string c] w fun e w' => ∃ A c0, e = .returned (.slice A (formsOf c).length c0) ∧ (formsOf c).length ≤ c0 ∧ Kd.C Kd.string w' A (formsOf c).length (formsOf c) ∧ Below w.heap.size w w' := by
  go_enter Try.func97, Try.ntmps97
  go_wp2_with (go_at_call 121; refine (forms_any _).mono ?_; rintro e w1 ⟨rfl, hf⟩; have HF := Lib.hid hf; clear hf; obtain ⟨v, hrun, hv⟩ := HF.out.look c hc; have HV := Lib.hid hv; clear hv)
  go_ret
  rcases HV.out with ⟨h1, rfl⟩ | ⟨l, g, h1, rfl, h3⟩
  · have e : formsOf c = [] := by unfold formsOf; rw [h1]; rfl
    rw [e]
    exact ⟨none, 0, rfl, Nat.le_refl _, ⟨rfl, by decide, fun h => absurd h (by decide)⟩, HF.out.below⟩
  · have e : formsOf c = l := by unfold formsOf; rw [h1]; rfl
    rw [e]
    exact ⟨_, _, rfl, Nat.le_refl _, cells_strs h3 (by obtain ⟨k, hk⟩ := lookF_mem _ _ _ h1; exact forms_len _ hk), HF.out.below⟩
end Go.Proofs.Ytbjoegladcmibaa.Vi
