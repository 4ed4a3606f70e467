import Derived.Test.YtbjoegladcmibaaQRt1
namespace Go.Proofs.Ytbjoegladcmibaa.Rt
set_option linter.unusedVariables false
set_option linter.unusedSimpArgs false
set_option linter.unnecessarySimpa false
open Go.RowKit Go.Maps Go.Proofs.YtbjoegladcmibaaK Go.Proofs.Ytbjoegladcmibaa.Ln Go.Proofs.Ytbjoegladcmibaa.LnI

def ptrOf (M : Lit → Option (Nat × Value × List Held)) (kl : Lit) : Value := match M kl with | some (g, _, _) => .pointer (some ⟨g, 0, none⟩) | none => .pointer none
def cont (M : Lit → Option (Nat × Value × List Held)) (kl : Lit) : List Held := match M kl with | some (_, _, l) => l | none => []
theorem Rt.look {w : World} {base r m n : Nat} {M : Lit → Option (Nat × Value × List Held)} (h : Rt w base r m n M) (s : ByteArray) (c : Int) (hs : s.size ≤ maxLen) (hc : (Lit.int .i64 c).wf = true) :
    (Instr.lookup 84 (.map (some m)) (.agg #[.string s, .int .i64 c]) false).run Try.prog w = .ok (ptrOf M (keyL s c)) w := by
  obtain ⟨D, ho, hi, hD⟩ := h.own
  obtain ⟨v, ps, hrun, hv⟩ := ho.lookup (t := 84) lawK Try.underlying84 (zeroL w) (show pe (.pointer none) = some (.nil, []) from rfl) (key_of s c hs hc)
  have hv' : v = ptrOf M (keyL s c) := by
    unfold ptrOf
    cases hM : M (keyL s c) with
    | none => 
      rw [atKey_of_not_has ((hD _).1 hM)] at hv
      exact pe_inv_nil hv
    | some x =>
      obtain ⟨g, v', l⟩ := x
      rw [((hD _).2 g v' l hM).2] at hv
      exact pe_inv hv
  rw [hrun, hv']
theorem Rt.look_ok {w : World} {base r m n : Nat} {M : Lit → Option (Nat × Value × List Held)} (h : Rt w base r m n M) (s : ByteArray) (c : Int) (hs : s.size ≤ maxLen) (hc : (Lit.int .i64 c).wf = true) :
    (Instr.lookup 84 (.map (some m)) (.agg #[.string s, .int .i64 c]) true).run Try.prog w = .ok (.tuple #[ptrOf M (keyL s c), .bool (M (keyL s c)).isSome]) w := by
  obtain ⟨D, ho, hi, hD⟩ := h.own
  obtain ⟨v, ps, hrun, hv⟩ := ho.look_ok (t := 84) lawK Try.underlying84 (zeroL w) (show pe (.pointer none) = some (.nil, []) from rfl) (key_of s c hs hc)
  rw [hrun]
  unfold ptrOf
  cases hM : M (keyL s c) with
  | none => 
    rw [atKey_of_not_has ((hD _).1 hM)] at hv
    rw [(hD _).1 hM, pe_inv_nil hv]
    rfl
  | some x =>
    obtain ⟨g, v', l⟩ := x
    rw [((hD _).2 g v' l hM).2] at hv
    rw [((hD _).2 g v' l hM).1, pe_inv hv]
    rfl
def ofV (l : List Held) (s : ByteArray) (c day : Int) : Int := if memB s = true then (if c = 4 ∨ c = 5 then 0 else if c < 1 ∨ 3 < c then 0 else if atB l day = true then atV l day else 0) else 0
def ofE (l : List Held) (s : ByteArray) (c day : Int) : Int := if memB s = true then (if c = 4 ∨ c = 5 then 0 else if c < 1 ∨ 3 < c then 2 else if atB l day = true then 0 else 60) else 40
set_option maxRecDepth 100000 in
set_option maxHeartbeats 4000000 in
theorem of_any (w : World) (base r m n : Nat) (M : Lit → Option (Nat × Value × List Held)) (h : Rt w base r m n M) (s : ByteArray) (c day : Int) (hs : s.size ≤ maxLen) (hc : (Lit.int .i64 c).wf = true) :
    Calls Try.prog 15 #[.pointer (some ⟨r, 0, none⟩), .string s, .int .i64 c, .int .i64 day] w fun e w' => e = .returned (.tuple #[.int .i64 (ofV (cont M (keyL s c)) s c day), .int .i64 (ofE (cont M (keyL s c)) s c day)]) ∧ Below w.heap.size w w' := by
  have H := Lib.hid h
  have hm := fun w => member_any s w
  have hV : ofV (cont M (keyL s c)) s c day = if memB s = true then (if c = 4 ∨ c = 5 then 0 else if c < 1 ∨ 3 < c then 0 else if atB (cont M (keyL s c)) day = true then atV (cont M (keyL s c)) day else 0) else 0 := rfl
  have hE : ofE (cont M (keyL s c)) s c day = if memB s = true then (if c = 4 ∨ c = 5 then 0 else if c < 1 ∨ 3 < c then 2 else if atB (cont M (keyL s c)) day = true then 0 else 60) else 40 := rfl
  have hlk := fun wx (hx : Rt wx base r m n M) => hx.look s c hs hc
  have hat : ∀ wx, Rt wx base r m n M → Calls Try.prog 57 #[ptrOf M (keyL s c), .int .i64 day] wx fun e w' => e = .returned (.tuple #[ev (atV (cont M (keyL s c)) day), .bool (atB (cont M (keyL s c)) day)]) ∧ Below wx.heap.size wx w' := fun wx hx => by
    unfold ptrOf cont
    cases hM : M (keyL s c) with
    | none => exact at_nil wx day
    | some x =>
      obtain ⟨g, v, l⟩ := x
      exact at_any wx base g v l (hx.lin _ _ _ _ hM) day
  unfold ev at hat
  rw [hV, hE]
  generalize ptrOf M (keyL s c) = PT at *
  generalize atV (cont M (keyL s c)) day = AV at *
  generalize atB (cont M (keyL s c)) day = AB at *
  clear hV hE h
  have HLK := Lib.hid hlk
  have HAT := Lib.hid hat
  generalize memB s = mb at *
  have HM := Lib.hid hm
  clear hlk hat hm
  cases mb
  · go_enter Try.func15, Try.ntmps15
    go_wp2_with (first
      | (go_at_call 52; refine (none_any _ r m H.out.box).mono ?_; rintro e w1 ⟨rfl, rfl⟩)
      | (go_at_call 53; refine (HM.out _).mono ?_; rintro e w2 ⟨rfl, hb⟩; have HB := Lib.hid hb; clear hb))
    go_ret2
    exact ⟨rfl, HB.out⟩
  · by_cases h45 : c = 4 ∨ c = 5
    · rw [if_pos rfl, if_pos rfl, if_pos h45, if_pos h45]
      go_enter Try.func15, Try.ntmps15
      go_wp2_with (first
        | (go_at_call 52; refine (none_any _ r m H.out.box).mono ?_; rintro e w1 ⟨rfl, rfl⟩)
        | (go_at_call 53; refine (HM.out _).mono ?_; rintro e w2 ⟨rfl, hb⟩; have HB := Lib.hid hb; clear hb))
      all_goals first
        | (go_ret2; exact ⟨rfl, HB.out⟩)
        | (exfalso; simp_all; done)
        | (exfalso; rename_i hx; simp only [Bool.or_eq_true, beq_iff_eq] at hx; omega)
    · rw [if_pos rfl, if_pos rfl, if_neg h45, if_neg h45]
      by_cases h13 : c < 1 ∨ 3 < c
      · rw [if_pos h13, if_pos h13]
        go_enter Try.func15, Try.ntmps15
        go_wp2_with (first
          | (go_at_call 52; refine (none_any _ r m H.out.box).mono ?_; rintro e w1 ⟨rfl, rfl⟩)
          | (go_at_call 53; refine (HM.out _).mono ?_; rintro e w2 ⟨rfl, hb⟩; have HB := Lib.hid hb; have c2 := cells1 (H.out.below hb).box; have hl2 := HLK.out _ (H.out.below hb); clear hb)
          | (go_at_call 57; refine (HAT.out _ (H.out.below HB.out)).mono ?_; rintro e w3 ⟨rfl, hb⟩; have HB3 := Lib.hid (s_trans HB.out hb); clear hb))
        all_goals first
          | (go_ret2; exact ⟨rfl, HB.out⟩)
          | (exfalso; simp_all; done)
          | (exfalso; rename_i hx; simp only [Bool.or_eq_true, beq_iff_eq, decide_eq_true_eq] at hx; omega)
      · rw [if_neg h13, if_neg h13]
        cases AB
        · rw [if_neg (by decide), if_neg (by decide)]
          go_enter Try.func15, Try.ntmps15
          go_wp2_with (first
            | (go_at_call 52; refine (none_any _ r m H.out.box).mono ?_; rintro e w1 ⟨rfl, rfl⟩)
            | (go_at_call 53; refine (HM.out _).mono ?_; rintro e w2 ⟨rfl, hb⟩; have HB := Lib.hid hb; have c2 := cells1 (H.out.below hb).box; have hl2 := HLK.out _ (H.out.below hb); clear hb)
            | (go_at_call 57; refine (HAT.out _ (H.out.below HB.out)).mono ?_; rintro e w3 ⟨rfl, hb⟩; have HB3 := Lib.hid (s_trans HB.out hb); clear hb))
          all_goals first
            | (go_ret2; exact ⟨rfl, HB3.out⟩)
            | (exfalso; simp_all; done)
            | (exfalso; rename_i hx; simp only [Bool.or_eq_true, beq_iff_eq, decide_eq_true_eq] at hx; omega)
        · rw [if_pos rfl, if_pos rfl]
          go_enter Try.func15, Try.ntmps15
          go_wp2_with (first
            | (go_at_call 52; refine (none_any _ r m H.out.box).mono ?_; rintro e w1 ⟨rfl, rfl⟩)
            | (go_at_call 53; refine (HM.out _).mono ?_; rintro e w2 ⟨rfl, hb⟩; have HB := Lib.hid hb; have c2 := cells1 (H.out.below hb).box; have hl2 := HLK.out _ (H.out.below hb); clear hb)
            | (go_at_call 57; refine (HAT.out _ (H.out.below HB.out)).mono ?_; rintro e w3 ⟨rfl, hb⟩; have HB3 := Lib.hid (s_trans HB.out hb); clear hb))
          all_goals first
            | (go_ret2; exact ⟨rfl, HB3.out⟩)
            | (exfalso; simp_all; done)
            | (exfalso; rename_i hx; simp only [Bool.or_eq_true, beq_iff_eq, decide_eq_true_eq] at hx; omega)
end Go.Proofs.Ytbjoegladcmibaa.Rt
