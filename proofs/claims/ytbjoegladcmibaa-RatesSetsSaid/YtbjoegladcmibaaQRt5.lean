import Derived.Test.YtbjoegladcmibaaQRt4
namespace Go.Proofs.Ytbjoegladcmibaa.Rt
set_option linter.unusedVariables false
set_option linter.unusedSimpArgs false
set_option linter.unnecessarySimpa false
open Go.RowKit Go.Maps Go.Proofs.YtbjoegladcmibaaK Go.Proofs.Ytbjoegladcmibaa.Ln Go.Proofs.Ytbjoegladcmibaa.LnI

theorem b_trans {B : Nat} {w w1 w2 : World} (h : Below B w w1) (k : Below B w1 w2) : Below B w w2 :=
  ⟨k.os.trans h.os, k.tape.trans h.tape, k.output.trans h.output, Nat.le_trans h.size k.size, fun i hi => (k.block i hi).trans (h.block i hi)⟩
theorem b_less {B C : Nat} {w w1 : World} (h : Below C w w1) (hB : B ≤ C) : Below B w w1 :=
  ⟨h.os, h.tape, h.output, h.size, fun i hi => h.block i (by omega)⟩
theorem of_base {w w' : World} {base r m n : Nat} {M : Lit → Option (Nat × Value × List Held)} (h : Rt w base r m n M) (hb : Below w.heap.size w w') (hB : base ≤ w.heap.size) : Rt w' base r m n M ∧ Below base w w' ∧ base ≤ w'.heap.size := ⟨h.below hb, b_less hb hB, by have := hb.size; omega⟩
abbrev DE : ByteArray := ⟨#[68, 69]⟩
theorem memDE : memB DE = true := by kernel_rfl
theorem wf1 : (Lit.int .i64 1).wf = true := by decide
theorem wf4 : (Lit.int .i64 4).wf = true := by decide
theorem sizeDE : DE.size ≤ maxLen := by decide
theorem liveE : rsE [] DE 1 0 100 1900 = 0 := by
  unfold rsE
  rw [if_pos memDE, if_neg (by decide)]
  decide
theorem liveL : rsL [] DE 1 0 100 1900 = [(0, 100, 1900)] := by
  unfold rsL
  rw [if_pos liveE]
  decide
theorem liveV : ofV [(0, 100, 1900)] DE 1 100 = 1900 := by
  unfold ofV
  rw [if_pos memDE]
  decide
theorem liveV0 : ofE [(0, 100, 1900)] DE 1 100 = 0 := by
  unfold ofE
  rw [if_pos memDE]
  decide
theorem liveV1 : ofE [(0, 100, 1900)] DE 1 101 = 60 := by
  unfold ofE
  rw [if_pos memDE]
  decide
theorem liveV4 (l : List Held) : ofV l DE 4 101 = 0 := by
  unfold ofV
  rw [if_pos memDE]
  rfl
theorem liveE4 (l : List Held) : ofE l DE 4 101 = 0 := by
  unfold ofE
  rw [if_pos memDE]
  rfl
set_option maxRecDepth 100000 in
set_option maxHeartbeats 4000000 in
theorem lives_any (w : World) : Calls Try.prog 12 #[] w fun e w' => e = .returned (.bool true) ∧ Below w.heap.size w w' := by
  have hN := new_any w
  have HN := Lib.hid hN
  have hDE : (⟨#[68, 69]⟩ : ByteArray) = DE := rfl
  have HDE := Lib.hid hDE
  clear hN hDE
  go_enter Try.func12, Try.ntmps12
  go_wp2_with (first
    | (go_at_call 13; refine HN.out.mono ?_; rintro e w1 ⟨rfl, hr, hb⟩; have HR := Lib.hid hr; have HB := Lib.hid hb; clear hr hb)
    | (go_at_call 14; refine (set_any w1 _ _ _ _ _ HR.out HB.out.size (by decide) DE 1 0 100 1900 sizeDE wf1).mono ?_; rintro e w2 ⟨rfl, ⟨M, hr, _, hc, _⟩, hb⟩; have HR2 := Lib.hid hr; have HC := Lib.hid (hc.trans liveL); have HB2 := Lib.hid (b_trans HB.out hb); have HS2 := Lib.hid (Nat.le_trans HB.out.size hb.size); rw [show rsE (cont (fun _ => none) (keyL DE 1)) DE 1 0 100 1900 = 0 from liveE]; clear hr hc hb)
    | (go_at_call 15; with_reducible refine (of_any w4 _ _ _ _ M HR4.out DE 4 101 sizeDE wf4).mono ?_; rintro e w5 ⟨rfl, hb⟩; have HB5 := Lib.hid (b_trans HB4.out (b_less hb HS4.out)); clear hb; rw [liveV4, liveE4])
    | (go_at_call 15; with_reducible refine (of_any w3 _ _ _ _ M HR3.out DE 1 101 sizeDE wf1).mono ?_; rintro e w4 ⟨rfl, hb⟩; obtain ⟨hr4, hb4, hs4⟩ := of_base HR3.out hb HS3.out; have HR4 := Lib.hid hr4; have HB4 := Lib.hid (b_trans HB3.out hb4); have HS4 := Lib.hid hs4; clear hr4 hb4 hs4 hb; rw [HC.out, liveV1]; generalize ofV [(0, 100, 1900)] DE 1 101 = zz)
    | (go_at_call 15; with_reducible refine (of_any w2 _ _ _ _ M HR2.out DE 1 100 sizeDE wf1).mono ?_; rintro e w3 ⟨rfl, hb⟩; obtain ⟨hr4, hb4, hs4⟩ := of_base HR2.out hb HS2.out; have HR3 := Lib.hid hr4; have HB3 := Lib.hid (b_trans HB2.out hb4); have HS3 := Lib.hid hs4; clear hr4 hb4 hs4 hb; rw [HC.out, liveV, liveV0]))
  go_ret
  exact ⟨rfl, HB5.out⟩
end Go.Proofs.Ytbjoegladcmibaa.Rt
