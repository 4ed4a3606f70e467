/-
  strings.Builder's String, and lexer.Show: what it computes, and its contract.
-/
import Derived.Test.YtejmbnahdkgpmaaLX3
namespace Go.Proofs.Ytejmbnahdkgpmaa.LX
open Go.RowKit Go.Proofs.YtejmbnahdkgpmaaW.PrintWords
set_option linter.unusedVariables false
set_option linter.unusedSimpArgs false
set_option linter.unnecessarySimpa false

theorem string_any (B b : Nat) (l : List UInt8) (w : World) (h : Lib.IsBuilder 75 5 B b (Lib.byteCells l) w) (hBw : B ≤ w.heap.size) :
    Calls Try.prog 54 #[.pointer (some ⟨b, 0, none⟩)] w fun e w' => e = .returned (.string ⟨l.toArray⟩) ∧ Below B w w' := by
  obtain ⟨p, hB, v, hbk, hown, hne⟩ : ∃ p, Lib.BuilderAt 75 5 B b p (Lib.byteCells l) w := by
    rcases h with h | h
    · exact ⟨_, h⟩
    · exact ⟨_, h⟩
  rw [Lib.byteCells_length] at hown
  have hlt := block_lt' hbk
  by_cases hl0 : l.length = 0
  · obtain rfl : l = [] := List.length_eq_zero_iff.1 hl0
    rcases hown.2 with ⟨rfl, _⟩ | ⟨g, cap, cur, rfl, hbg, hg, _, _, _, _⟩
    · exact string_with B b p _ none 0 0 ⟨#[]⟩ none w w.drew w.drew rfl hbk hbk rfl (Lib.run_unsafeString_none _ _ _ _ _) (Below.drew (Below.refl B w))
    · have hg' : w.drew.heap[g]? = some (.cells cur 5 (0, 0)) := hg
      by_cases hc0 : cap = 0
      · subst hc0
        refine string_with B b p _ (some ⟨g, 0, none⟩) 0 0 ⟨#[]⟩ (some ⟨w.drew.heap.size, 0, none⟩) w (w.drew.alloc (.view ⟨g, 0, none⟩ 5)) (w.drew.alloc (.view ⟨g, 0, none⟩ 5)) rfl hbk ?_ ?_ (Lib.run_unsafeString_none _ _ _ _ _) ((Below.drew (Below.refl B w)).alloc hBw _)
        · exact (Lib.alloc_old w.drew _ b hlt).trans hbk
        · exact Lib.run_unsafeSliceData_zero w.drew _ _ 5 Try.underlying86 ⟨g, 0, none⟩ 0 (5, cur.size) (by simp [World.shape?, hg'])
      · exact string_with B b p _ (some ⟨g, 0, none⟩) 0 cap ⟨#[]⟩ (some ⟨g, 0, none⟩) w w.drew w.drew rfl hbk hbk (Lib.run_unsafeSliceData_row _ _ _ _ _ _ hc0) (Lib.run_unsafeString_none _ _ _ _ _) (Below.drew (Below.refl B w))
  · obtain ⟨g, cap, cur, rfl, hbg, hg, hnc, hcm, hcs, htake⟩ : ∃ g cap cur, v = .slice (some ⟨g, 0, none⟩) l.length cap ∧ B ≤ g ∧ w.heap[g]? = some (.cells cur 5 (0, 0)) ∧ l.length ≤ cap ∧ cap ≤ maxLen ∧ cur.size = cap * 1 ∧ cur.toList.take (l.length * 1) = Lib.byteCells l := by
      rcases hown.2 with ⟨_, hz⟩ | ⟨g, cap, cur, hv, r⟩
      · exact absurd hz hl0
      · exact ⟨g, cap, cur, hv, r⟩
    have hg' : w.drew.heap[g]? = some (.cells cur 5 (0, 0)) := hg
    have hUS : (Builtin.unsafeString_ #[86, 3] 9 #[.pointer (some ⟨g, 0, none⟩), .int .i64 l.length]).run Try.prog w.drew = .ok (.string ⟨l.toArray⟩) (w.drew.freeze ⟨g, 0, none⟩ l.length) := by
      refine Lib.run_unsafeString_row w.drew 86 3 9 5 Try.underlying86 cellsByte g cur.size (by simp [World.shape?, hg']) l (fun e => hl0 (by rw [e]; rfl)) (by omega) (by unfold maxLen at hcm; omega) ?_
      intro j x hx
      exact hown.cells (g := g) rfl j (.int .u8 x.toNat) (by simp [Lib.byteCells, hx])
    exact string_with B b p _ (some ⟨g, 0, none⟩) l.length cap ⟨l.toArray⟩ (some ⟨g, 0, none⟩) w w.drew (w.drew.freeze ⟨g, 0, none⟩ l.length) rfl hbk hbk (Lib.run_unsafeSliceData_row _ _ _ _ _ _ (by omega)) hUS
      (Lib.below_freeze (Below.drew (Below.refl B w)) (p := ⟨g, 0, none⟩) hbg _)


/-! ### Show -/
def joinF (tx : Nat → ByteArray) : Nat → List UInt8
  | 0 => []
  | i + 1 => joinF tx i ++ (if 0 < i then [32] else []) ++ (tx i).data.toList

theorem joinF_mono (tx : Nat → ByteArray) : ∀ i j : Nat, i ≤ j → (joinF tx i).length ≤ (joinF tx j).length
  | i, 0, h => by
    obtain rfl : i = 0 := by omega
    exact Nat.le_refl _
  | i, j + 1, h => by
    by_cases e : i = j + 1
    · subst e
      exact Nat.le_refl _
    · have := joinF_mono tx i j (by omega)
      rw [joinF, List.length_append, List.length_append]
      omega

theorem cell_keep {w w' : World} (h : Below w.heap.size w w') {p : Addr} {v : Value} (hc : w.cell? p = some v) : w'.cell? p = some v := by
  have hlt : p.block < w.heap.size := by
    rcases Nat.lt_or_ge p.block w.heap.size with h' | h'
    · exact h'
    · exfalso
      unfold World.cell? at hc
      simp [Array.getElem?_eq_none h'] at hc
  rw [h.cell hlt]
  exact hc

set_option maxHeartbeats 4000000 in
set_option maxRecDepth 1000000 in
theorem show_calls (A0 : Option Addr) (n c0 : Nat) (f0 f1 f3 : Nat → Int) (tx : Nat → ByteArray) (w : World)
    (hc : ∀ i : Nat, i < n → ∃ ad, A0 = some ad ∧ w.cell? (ad.add (i * 4)) = some (.int .i64 (f0 i)) ∧ w.cell? ⟨(ad.add (i * 4)).block, (ad.add (i * 4)).off + 1, none⟩ = some (.int .i64 (f1 i)) ∧ w.cell? ⟨(ad.add (i * 4)).block, (ad.add (i * 4)).off + 2, none⟩ = some (.string (tx i)) ∧ w.cell? ⟨(ad.add (i * 4)).block, (ad.add (i * 4)).off + 3, none⟩ = some (.int .i64 (f3 i)))
    (hn : n ≤ c0) (hm : n ≤ 9223372036854775807) (hlen : (joinF tx n).length ≤ 140737488355328) :
    Calls Try.prog 34 #[.slice A0 n c0] w fun e w' => e = .returned (.string ⟨(joinF tx n).toArray⟩) ∧ Below w.heap.size w w' := by
  have HC := Lib.hid hc
  clear hc
  go_enter Try.func34, Try.ntmps34
  go_wp2
  go_loopw [8] (fun v8 wr => ∃ i : Nat, v8 = .int .i64 i ∧ Hid (i ≤ n) ∧ Hid (Lib.IsBuilder 75 5 w.heap.size w.heap.size (Lib.byteCells (joinF tx i)) wr) ∧ Hid (Below w.heap.size w wr)) (fun v8 _ => (n - (intOf v8).toNat))
  case atStart =>
    refine ⟨0, rfl, Lib.hid (Nat.zero_le _), Lib.hid (Lib.fresh_isBuilder 75 5 w), Lib.hid ((Below.refl _ w).alloc (Nat.le_refl _) _)⟩
  case round =>
    obtain ⟨i, rfl, hi, hI, hbw⟩ := hrel
    have hi := hi.out
    by_cases hlt : i < n
    · obtain ⟨ad, rfl, k0, k1, k2, k3⟩ := HC.out i hlt
      have j0 := cell_keep hbw.out k0
      have j1 := cell_keep hbw.out k1
      have j2 := cell_keep hbw.out k2
      have j3 := cell_keep hbw.out k3
      clear k0 k1 k2 k3
      go_upto_region 5 with (fail)
      generalize hW : wr.alloc (Obj.cells #[Value.int IntKind.i64 (f0 i), Value.int IntKind.i64 (f1 i), Value.string (tx i), Value.int IntKind.i64 (f3 i)] 57) = W1
      generalize hg : wr.heap.size = g
      have hbox : W1.heap[g]? = some (.cells #[Value.int IntKind.i64 (f0 i), Value.int IntKind.i64 (f1 i), Value.string (tx i), Value.int IntKind.i64 (f3 i)] 57 (0, 0)) := by
        rw [← hW, ← hg]
        exact (Go.heap_alloc_new wr _)
      have hgb : g ≠ w.heap.size := by
        have h1 := hI.out
        rcases h1 with h1 | h1
        · have := h1.lt; omega
        · have := h1.lt; omega
      have hI1 := Lib.hid (IsBuilder_alloc hI.out (Obj.cells #[Value.int IntKind.i64 (f0 i), Value.int IntKind.i64 (f1 i), Value.string (tx i), Value.int IntKind.i64 (f3 i)] 57))
      have hb1 := Lib.hid (hbw.out.alloc hbw.out.size (Obj.cells #[Value.int IntKind.i64 (f0 i), Value.int IntKind.i64 (f1 i), Value.string (tx i), Value.int IntKind.i64 (f3 i)] 57))
      rw [hW] at hI1 hb1
      have hlen1 : (joinF tx (i + 1)).length ≤ 140737488355328 := Nat.le_trans (joinF_mono tx (i + 1) n (by omega)) hlen
      rw [joinF, List.length_append, List.length_append] at hlen1
      have HL := Lib.hid hlen1
      have HBOX := Lib.hid hbox
      clear hlen1 hbox hW hI hbw j0 j1 j2 j3 HC hg
      by_cases hz : 0 < i
      · rw [if_pos hz] at HL
        have hl := HL.out
        simp only [List.length_singleton, List.length_cons, List.length_nil] at hl
        have hl1 := Lib.byteCells_length (joinF tx i)
        have HL1 := Lib.hid hl
        clear hl HL
        go_wp2_with (go_at_call 52; refine (writeByte_any w.heap.size w.heap.size (Lib.byteCells (joinF tx i)) 32 _ hI1.out (by have := HL1.out; omega) hb1.out.size).mono ?_)
        rintro e w1 ⟨rfl, hI2, hb2, ho2⟩
        have hbox2 := ho2 g _ HBOX.out (fun e => hgb (Option.some.inj e)) (by intro c fz hc; injection hc with _ h2 _; exact absurd h2 (by decide))
        have hk2 : w1.cell? ⟨g, 2, none⟩ = some (.string (tx i)) := by rw [Lib.cell_of_heap hbox2]; rfl
        have HI2 := Lib.hid hI2
        have HB2 := Lib.hid (hb1.out.trans hb2)
        clear hI2 hb2 ho2 hbox2
        go_wp2_with (go_at_call 53; refine (writeString_any w.heap.size w.heap.size _ (tx i) _ HI2.out (by have := HL1.out; have e1 : (tx i).data.toList.length = (tx i).size := Array.length_toList; rw [List.length_append]; simp only [List.length_singleton, List.length_cons, List.length_nil]; omega) HB2.out.size).mono ?_)
        rintro e w2 ⟨rfl, hI3, hb3, ho3⟩
        have HI3 := Lib.hid hI3
        have HB3 := Lib.hid (HB2.out.trans hb3)
        clear hI3 hb3 ho3 hk2
        go_wp2
        go_roundw
        case rel =>
          refine ⟨i + 1, by simp, Lib.hid (by omega), Lib.hid ?_, HB3⟩
          have h := HI3.out
          rw [joinF, if_pos hz, Lib.byteCells_append, Lib.byteCells_append]
          exact h
        case measure => simp [intOf]; omega
      · obtain rfl : i = 0 := by omega
        rw [if_neg hz] at HL
        have hl := HL.out
        simp only [List.length_nil, joinF] at hl
        have HL1 := Lib.hid hl
        have hk2 : W1.cell? ⟨g, 2, none⟩ = some (.string (tx 0)) := by rw [Lib.cell_of_heap HBOX.out]; rfl
        clear hl HL
        go_wp2_with (go_at_call 53; refine (writeString_any w.heap.size w.heap.size _ (tx 0) _ hI1.out (by have := HL1.out; have e1 : (tx 0).data.toList.length = (tx 0).size := Array.length_toList; rw [Lib.byteCells_length]; simp only [joinF, List.length_nil]; omega) hb1.out.size).mono ?_)
        rintro e w2 ⟨rfl, hI3, hb3, ho3⟩
        have HI3 := Lib.hid hI3
        have HB3 := Lib.hid (hb1.out.trans hb3)
        clear hI3 hb3 ho3 hk2
        go_wp2
        go_roundw
        case rel =>
          refine ⟨1, by simp, Lib.hid (by omega), Lib.hid ?_, HB3⟩
          have h := HI3.out
          rw [joinF, if_neg hz, Lib.byteCells_append, Lib.byteCells_append]
          exact h
        case measure => simp [intOf]; omega
    · obtain rfl : i = n := by omega
      go_wp2_with (go_at_call 54; refine (string_any w.heap.size w.heap.size (joinF tx i) _ hI.out hbw.out.size).mono ?_; rintro e w1 ⟨rfl, hb⟩; have HB := Lib.hid hb; clear hb)
      go_ret
      exact ⟨rfl, hbw.out.trans HB.out⟩

end Go.Proofs.Ytejmbnahdkgpmaa.LX
