import Derived.Test.YtbjoegladcmibaaQRt2
namespace Go.Proofs.Ytbjoegladcmibaa.Rt
set_option linter.unusedVariables false
set_option linter.unusedSimpArgs false
set_option linter.unnecessarySimpa false
open Go.RowKit Go.Maps Go.Proofs.YtbjoegladcmibaaK Go.Proofs.Ytbjoegladcmibaa.Ln Go.Proofs.Ytbjoegladcmibaa.LnI

theorem line_new (w : World) (base : Nat) (hb : base ≤ w.heap.size) : Calls Try.prog 55 #[.int .i64 256] w fun e w' => e = .returned (.pointer (some ⟨w.heap.size, 0, none⟩)) ∧ Lin w' base w.heap.size (.slice none 0 0) [] ∧ Below w.heap.size w w' := by
  go_enter Try.func55, Try.ntmps55
  go_wp2
  go_ret
  exact ⟨rfl, ⟨Array.getElem?_push_size, World.ownsRow_nil _ _ _ _, hb, by simp⟩, s_alloc (Below.refl _ _) _⟩
theorem of_some (w : World) (base r m n b kb : Nat) (M : Lit → Option (Nat × Value × List Held)) (h : Rt w base r m n M) (s : ByteArray) (c : Int) (hs : s.size ≤ maxLen) (hc : (Lit.int .i64 c).wf = true)
    (hb : w.heap[b]? = some (.cells #[.pointer (some ⟨r, 0, none⟩)] 31 (0, 0))) (hk : w.heap[kb]? = some (.cells #[.string s, .int .i64 c] 109 (0, 0))) (g : Nat) (v : Value) (l : List Held) (hM : M (keyL s c) = some (g, v, l)) :
    Calls Try.prog 54 #[.pointer (some ⟨b, 0, none⟩), .pointer (some ⟨kb, 0, none⟩)] w fun e w' => e = .returned (.pointer (some ⟨g, 0, none⟩)) ∧ Below w.heap.size w w' := by
  have hl := fun n' => (h.below (s_drewN (Below.refl _ _) n')).look_ok s c hs hc
  unfold ptrOf at hl
  rw [hM] at hl
  have c0 := cells1 h.box
  have b0 := cells1 hb
  obtain ⟨k0, k1⟩ := cells2 hk
  clear h hb hk
  go_enter Try.func54, Try.ntmps54
  go_wp2
  go_quiet (fail)
  go_wp2
  go_ret
  exact ⟨rfl, s_drewN (Below.refl _ _) _⟩
theorem of_none (w : World) (base r m n b kb : Nat) (M : Lit → Option (Nat × Value × List Held)) (h : Rt w base r m n M) (hbase : base ≤ w.heap.size) (s : ByteArray) (c : Int) (hs : s.size ≤ maxLen) (hc : (Lit.int .i64 c).wf = true)
    (hb : w.heap[b]? = some (.cells #[.pointer (some ⟨r, 0, none⟩)] 31 (0, 0))) (hk : w.heap[kb]? = some (.cells #[.string s, .int .i64 c] 109 (0, 0))) (hM : M (keyL s c) = none) :
    Calls Try.prog 54 #[.pointer (some ⟨b, 0, none⟩), .pointer (some ⟨kb, 0, none⟩)] w fun e w' => e = .returned (.pointer (some ⟨w.heap.size, 0, none⟩)) ∧ Lin w' base w.heap.size (.slice none 0 0) [] ∧ Below w.heap.size w w' := by
  have hl := fun n' => (h.below (s_drewN (Below.refl _ _) n')).look_ok s c hs hc
  unfold ptrOf at hl
  rw [hM] at hl
  have c0 := cells1 h.box
  have b0 := cells1 hb
  obtain ⟨k0, k1⟩ := cells2 hk
  clear h hb hk
  go_enter Try.func54, Try.ntmps54
  go_wp2
  go_quiet (fail)
  go_wp2_with (go_at_call 55; refine (line_new (w.drewN nq) base hbase).mono ?_; rintro e w1 ⟨rfl, hl1, hb1⟩; have HL := Lib.hid hl1; have HB := Lib.hid (s_trans (s_drewN (Below.refl w.heap.size w) nq) hb1); clear hl1 hb1)
  go_ret
  exact ⟨rfl, HL.out, HB.out⟩
/-! ### what Set leaves -/
open Classical in
noncomputable def upd (M : Lit → Option (Nat × Value × List Held)) (kl : Lit) (x : Nat × Value × List Held) : Lit → Option (Nat × Value × List Held) := fun k => if k = kl then some x else M k
theorem upd_same (M : Lit → Option (Nat × Value × List Held)) (kl : Lit) (x : Nat × Value × List Held) : upd M kl x kl = some x := by unfold upd; rw [if_pos rfl]
theorem upd_other (M : Lit → Option (Nat × Value × List Held)) (kl k : Lit) (x : Nat × Value × List Held) (h : k ≠ kl) : upd M kl x k = M k := by unfold upd; rw [if_neg h]
def rsE (l : List Held) (s : ByteArray) (c f u x : Int) : Int := if memB s = true then (if c < 1 ∨ 3 < c ∨ x < 0 ∨ 10000 < x then 2 else setE l f u) else 40
def rsL (l : List Held) (s : ByteArray) (c f u x : Int) : List Held := if rsE l s c f u x = 0 then setL l f u x else l
def RsP (w : World) (base r m n : Nat) (M : Lit → Option (Nat × Value × List Held)) (s : ByteArray) (c f u x : Int) (e : Ending) (w' : World) : Prop :=
  e = .returned (.int .i64 (rsE (cont M (keyL s c)) s c f u x)) ∧ (∃ M', Rt w' base r m (n + 1) M' ∧ (∀ k, k ≠ keyL s c → M' k = M k) ∧ cont M' (keyL s c) = rsL (cont M (keyL s c)) s c f u x ∧ (M' (keyL s c) = none ↔ M (keyL s c) = none ∧ rsE (cont M (keyL s c)) s c f u x ≠ 0)) ∧ Below base w w'
theorem Rt.mono {w : World} {base r m n n' : Nat} {M : Lit → Option (Nat × Value × List Held)} (h : Rt w base r m n M) (hn : n ≤ n') : Rt w base r m n' M := by
  obtain ⟨D, ho, hi, hD⟩ := h.own
  exact ⟨h.box, ⟨D, ho.mono hn, hi, hD⟩, h.lin, h.apart, h.rge, h.mge, h.rm⟩
theorem rs_same {w w' : World} {base r m n : Nat} {M : Lit → Option (Nat × Value × List Held)} (h : Rt w base r m n M) (hbase : base ≤ w.heap.size) (s : ByteArray) (c f u x : Int) (hb : Below w.heap.size w w') (he : rsE (cont M (keyL s c)) s c f u x ≠ 0) :
    (∃ M', Rt w' base r m (n + 1) M' ∧ (∀ k, k ≠ keyL s c → M' k = M k) ∧ cont M' (keyL s c) = rsL (cont M (keyL s c)) s c f u x ∧ (M' (keyL s c) = none ↔ M (keyL s c) = none ∧ rsE (cont M (keyL s c)) s c f u x ≠ 0)) ∧ Below base w w' :=
  ⟨⟨M, (h.below hb).mono (Nat.le_succ _), fun _ _ => rfl, by unfold rsL; rw [if_neg he], ⟨fun e => ⟨e, he⟩, fun e => e.1⟩⟩, ⟨hb.os, hb.tape, hb.output, hb.size, fun k hk => hb.block k (by omega)⟩⟩
/-- A line that was written, or is new, and not (yet) in the map. -/
theorem Rt.kept {w w' : World} {base r m n g : Nat} {row : Option Nat} {M : Lit → Option (Nat × Value × List Held)} (h : Rt w base r m n M) (hk : Kp w w' g row) (hr : r ≠ g ∧ some r ≠ row) (hm : m ≠ g ∧ some m ≠ row)
    (hl : ∀ kl g1 v1 l1, M kl = some (g1, v1, l1) → g1 ≠ g ∧ some g1 ≠ row ∧ (∀ q, v1.ownBlock = some q → q ≠ g ∧ some q ≠ row)) : Rt w' base r m n M := by
  obtain ⟨D, ho, hi, hD⟩ := h.own
  obtain ⟨es, clock, hmm, hF, hs, hd⟩ := ho
  refine ⟨(hk.block r (block_lt h.box) hr.1 hr.2).trans h.box, ⟨D, ⟨es, clock, (hk.block m (block_lt hmm) hm.1 hm.2).trans hmm, hF, hs, hd⟩, hi, hD⟩, fun kl g1 v1 l1 e => ?_, h.apart, h.rge, h.mge, h.rm⟩
  have hL := h.lin kl g1 v1 l1 e
  obtain ⟨q1, q2, q3⟩ := hl kl g1 v1 l1 e
  refine ⟨(hk.block g1 (block_lt hL.box) q1 q2).trans hL.box, ⟨hL.row.1, ?_⟩, hL.ge, hL.most⟩
  rcases hL.row.2 with hn | ⟨g', cap, cur, rfl, hb, hgg, rest⟩
  · exact .inl hn
  · obtain ⟨q4, q5⟩ := q3 g' rfl
    exact .inr ⟨g', cap, cur, rfl, hb, (hk.block g' (block_lt hgg) q4 q5).trans hgg, rest⟩
end Go.Proofs.Ytbjoegladcmibaa.Rt
