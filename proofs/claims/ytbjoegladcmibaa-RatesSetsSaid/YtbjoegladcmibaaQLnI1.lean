import Derived.Test.YtbjoegladcmibaaQLn1
namespace Go.Proofs.Ytbjoegladcmibaa.LnI
set_option linter.unusedVariables false
set_option linter.unusedSimpArgs false
set_option linter.unnecessarySimpa false
open Go.RowKit Go.Proofs.YtbjoegladcmibaaK Go.Proofs.Ytbjoegladcmibaa.Ln

/-! ### a line's row -/
abbrev Held := Int × Int × Int
def ev (x : Int) : Value := .int .i64 x
def cellsH (h : Held) : List Value := [.int .i64 h.1, .int .i64 h.2.1, ev h.2.2]
def flat : List Held → List Value
  | [] => []
  | h :: l => cellsH h ++ flat l
theorem flat_len : ∀ l, (flat l).length = l.length * 3
  | [] => rfl
  | h :: l => by rw [flat, List.length_append, flat_len l, List.length_cons]; simp only [cellsH, List.length_cons, List.length_nil]; omega
theorem flat_app : ∀ l m, flat (l ++ m) = flat l ++ flat m
  | [], m => rfl
  | h :: l, m => by rw [List.cons_append, flat, flat, flat_app l m, List.append_assoc]
theorem flat_at : ∀ (l : List Held) (j : Nat) (hj : j < l.length), (flat l)[j * 3]? = some (.int .i64 l[j].1) ∧ (flat l)[j * 3 + 1]? = some (.int .i64 l[j].2.1) ∧ (flat l)[j * 3 + 2]? = some (ev l[j].2.2)
  | h :: l, 0, _ => ⟨rfl, rfl, rfl⟩
  | h :: l, j + 1, hj => by
    have ih := flat_at l j (by simpa using hj)
    have e : ∀ c, (flat (h :: l))[(j + 1) * 3 + c]? = (flat l)[j * 3 + c]? := fun c => by
      rw [flat, List.getElem?_append_right (by simp [cellsH]; omega)]
      congr 1
      simp [cellsH]
      omega
    exact ⟨(e 0).trans ih.1, (e 1).trans ih.2.1, (e 2).trans ih.2.2⟩
def Row (w : World) (base : Nat) (v : Value) (l : List Held) : Prop := w.ownsRow base 147 3 v l.length (flat l)
theorem Row.at_ {w : World} {base : Nat} {v : Value} {l : List Held} (h : Row w base v l) (j : Nat) (hj : j < l.length) :
    ∃ ad cap, v = .slice (some ad) l.length cap ∧ w.cell? (ad.add (j * 3)) = some (.int .i64 l[j].1) ∧ w.cell? ⟨(ad.add (j * 3)).block, (ad.add (j * 3)).off + 1, none⟩ = some (.int .i64 l[j].2.1) ∧ w.cell? ⟨(ad.add (j * 3)).block, (ad.add (j * 3)).off + 2, none⟩ = some (ev l[j].2.2) := by
  obtain ⟨g, cap, rfl⟩ := Joins.ownsRow_form h (by omega)
  have hf := flat_at l j hj
  have hc := fun c (hc : c < 3) => World.ownsRow.cellAt h (j * 3 + c) (by omega)
  have ha : (⟨g, 0, none⟩ : Addr).add (j * 3) = ⟨g, j * 3, none⟩ := by unfold Addr.add; split <;> simp_all
  refine ⟨⟨g, 0, none⟩, cap, rfl, ?_, ?_, ?_⟩
  · rw [ha]; exact (hc 0 (by omega)).trans hf.1
  · rw [ha]; exact (hc 1 (by omega)).trans hf.2.1
  · rw [ha]; exact (hc 2 (by omega)).trans hf.2.2
theorem Row.slice {w : World} {base : Nat} {v : Value} {l : List Held} (h : Row w base v l) : ∃ ad cap, v = .slice ad l.length cap := by
  rcases Joins.ownsRow_forms h with ⟨rfl, h0⟩ | ⟨g, cap, rfl⟩
  · exact ⟨none, 0, by rw [h0]⟩
  · exact ⟨_, cap, rfl⟩

def bsF (p : Nat → Bool) : Nat → Nat → Nat → Nat
  | 0, i, _ => i
  | f + 1, i, j => if i < j then (if p ((i + j) / 2) = true then bsF p f ((i + j) / 2 + 1) j else bsF p f i ((i + j) / 2)) else i
theorem bsF_le (p : Nat → Bool) : ∀ (f i j n : Nat), i ≤ j → j ≤ n → bsF p f i j ≤ n
  | 0, i, j, n, h1, h2 => by unfold bsF; omega
  | f + 1, i, j, n, h1, h2 => by
    unfold bsF
    split
    · split
      · exact bsF_le p f _ _ n (by omega) h2
      · exact bsF_le p f _ _ n (by omega) (by omega)
    · omega
def ends (l : List Held) (day : Int) (h : Nat) : Bool := decide ((l.getD h (0, 0, 0)).2.1 < day)
def find (l : List Held) (day : Int) : Nat := bsF (ends l day) (l.length + 1) 0 l.length
theorem find_le (l : List Held) (day : Int) : find l day ≤ l.length := bsF_le _ _ _ _ _ (Nat.zero_le _) (Nat.le_refl _)

set_option maxRecDepth 100000 in
set_option maxHeartbeats 2000000 in
theorem bs_any (w : World) (base : Nat) (v : Value) (l : List Held) (h : Row w base v l) (hl : l.length < 100000) (day : Int) :
    Calls Try.prog 116 #[v, .int .i64 day, .func (.func 117) #[] #[]] w fun e w' => e = .returned (.tuple #[.int .i64 (find l day), .bool false]) ∧ Below w.heap.size w w' := by
  obtain ⟨ad, cap, rfl⟩ := h.slice
  have HR := Lib.hid h
  clear h
  go_enter Try.func116, Try.ntmps116
  go_wp2
  go_loopw [9, 10] (fun i j wr => ∃ a b f : Nat, i = .int .i64 a ∧ j = .int .i64 b ∧ a ≤ b ∧ b ≤ l.length ∧ b - a < f ∧ Hid (bsF (ends l day) f a b = find l day) ∧ Hid (Below w.heap.size w wr)) (fun i j _ => (intOf j).toNat - (intOf i).toNat)
  case atStart => exact ⟨0, l.length, l.length + 1, rfl, rfl, Nat.zero_le _, Nat.le_refl _, by omega, rfl, Below.refl _ _⟩
  case round =>
    obtain ⟨a, b, f, rfl, rfl, hab, hbl, hf, HE, HB⟩ := hrel
    by_cases hlt : a < b
    · obtain ⟨f, rfl⟩ : ∃ q, f = q + 1 := ⟨f - 1, by omega⟩
      have e2 : ((a : Int) + (b : Int)) / 2 = (((a + b) / 2 : Nat) : Int) := by omega
      have hq : (a + b) / 2 < l.length := by omega
      have hE := HE.out
      rw [bsF, if_pos hlt] at hE
      have hends : ends l day ((a + b) / 2) = decide ((l[(a + b) / 2]).2.1 < day) := by
        unfold ends
        rw [List.getD_eq_getElem?_getD, List.getElem?_eq_getElem hq]
        rfl
      obtain ⟨ad', cap', hv, c0, c1, c2⟩ := HR.out.at_ ((a + b) / 2) hq
      injection hv with hv1 _ hv2
      subst hv1
      subst hv2
      have k0 := (HB.out.cell (p := _) (World.block_lt_of_cell? w _ c0)).trans c0
      have k1 := (HB.out.cell (p := _) (World.block_lt_of_cell? w _ c1)).trans c1
      have k2 := (HB.out.cell (p := _) (World.block_lt_of_cell? w _ c2)).trans c2
      clear c0 c1 c2
      unfold ev at k2
      rw [hends] at hE
      generalize l[(a + b) / 2] = hh at *
      generalize hqq : (a + b) / 2 = q at *
      have HE2 := Lib.hid hE
      have HQ := Lib.hid hq
      clear hE hends
      by_cases hc : hh.2.1 < day
      · have hE3 := HE2.out
        rw [if_pos (decide_eq_true hc)] at hE3
        go_wp2
        go_roundw
        case rel => exact ⟨q + 1, b, f, by go_num, rfl, by omega, hbl, by omega, hE3, HB.out.alloc HB.out.size _⟩
        case measure => simp [intOf]; omega
      · have hE3 := HE2.out
        rw [if_neg (by simpa using hc)] at hE3
        go_wp2
        go_roundw
        case rel => exact ⟨a, q, f, rfl, rfl, by omega, by omega, by omega, hE3, HB.out.alloc HB.out.size _⟩
        case measure => simp [intOf]; omega
    · have hE := HE.out
      have hf1 : f ≠ 0 := by omega
      obtain ⟨f, rfl⟩ : ∃ q, f = q + 1 := ⟨f - 1, by omega⟩
      rw [bsF, if_neg hlt] at hE
      have HE2 := Lib.hid hE
      clear hE
      by_cases ha : a < l.length
      · obtain ⟨ad', cap', hv, c0, c1, c2⟩ := HR.out.at_ a ha
        injection hv with hv1 _ hv2
        subst hv1
        subst hv2
        have k0 := (HB.out.cell (p := _) (World.block_lt_of_cell? w _ c0)).trans c0
        have k1 := (HB.out.cell (p := _) (World.block_lt_of_cell? w _ c1)).trans c1
        have k2 := (HB.out.cell (p := _) (World.block_lt_of_cell? w _ c2)).trans c2
        clear c0 c1 c2
        unfold ev at k2
        generalize l[a] = hh at *
        go_wp2
        all_goals
          go_ret2
          exact ⟨by rw [← HE2.out]; rfl, HB.out.alloc HB.out.size _⟩
      · go_wp2
        go_ret2
        exact ⟨by rw [← HE2.out]; rfl, HB.out⟩
end Go.Proofs.Ytbjoegladcmibaa.LnI
