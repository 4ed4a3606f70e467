import Derived.Test.YtejmbnahdkgpmaaT7
import Derived.Test.YtejmbnahdkgpmaaHA
namespace Go.Proofs.Ytejmbnahdkgpmaa
set_option linter.unusedVariables false
set_option linter.unusedSimpArgs false
open Go.RowKit

theorem fin_of (n : Nat) (z : Int) (h0 : 0 ≤ z) (h1 : z < n) : ∃ i : Fin n, z = (i.val : Nat) := ⟨⟨z.toNat, by omega⟩, by simp; omega⟩
theorem fin_of1 (n : Nat) (z : Int) (h0 : 1 ≤ z) (h1 : z < n + 1) : ∃ i : Fin n, z = ((i.val + 1 : Nat) : Int) := ⟨⟨(z - 1).toNat, by omega⟩, by simp; omega⟩

theorem holds_eq (n : Int) (s : Bool) (k : Int) (x : Bool) (f t p l : Int) (b o : Bool) (hm : mayB k f t p l = true) (h1 : 1 ≤ n) (h2 : n ≤ 14) :
    holdsB n s k x f t p l b o = decide (n = ofS s k x f t p l b o) := by
  obtain ⟨a1, a2, a3, a4, a5, a6, a7, a8, a9, a10⟩ := (mayB_iff k f t p l).1 hm
  obtain ⟨n', rfl⟩ := fin_of1 14 n h1 (by omega)
  obtain ⟨k', rfl⟩ := fin_of1 7 k a1 (by omega)
  obtain ⟨f', rfl⟩ := fin_of 3 f a3 (by omega)
  obtain ⟨t', rfl⟩ := fin_of 3 t a5 (by omega)
  obtain ⟨p', rfl⟩ := fin_of 3 p a7 (by omega)
  obtain ⟨l', rfl⟩ := fin_of 3 l a9 (by omega)
  have h := fin_all k' n' f' t' p' l' s x b o
  unfold finE at h
  exact eq_of_beq h

theorem ofS_range (s : Bool) (k : Int) (x : Bool) (f t p l : Int) (b o : Bool) (hm : mayB k f t p l = true) : 1 ≤ ofS s k x f t p l b o ∧ ofS s k x f t p l b o ≤ 14 := by
  unfold ofS soldS boughtS farS byS
  rw [hm, if_neg (by decide)]
  constructor <;> repeat' (first | omega | split)

set_option maxRecDepth 100000 in
set_option maxHeartbeats 4000000 in
theorem rof_any (s : Bool) (k : Int) (x : Bool) (f t p l : Int) (b o : Bool) (w : World) :
    Calls Try.prog 17 #[.agg #[.bool s, .int .i64 k, .bool x, .int .i64 f, .int .i64 t, .int .i64 p, .int .i64 l, .bool b, .bool o]] w fun e w' => e = .returned (.tuple #[.int .i64 (ofS s k x f t p l b o), .int .i64 (ofE k f t p l)]) ∧ Below w.heap.size w w' := by
  by_cases hm : mayB k f t p l = true
  · have hr := ofS_range s k x f t p l b o hm
    have hh := fun n => holds_eq n s k x f t p l b o hm
    have hE : ofE k f t p l = 0 := by simp [ofE, hm]
    generalize hT : ofS s k x f t p l b o = T at *
    rw [hE]
    obtain ⟨r1, r2⟩ := hr
    have HH := Lib.hid hh
    have Hm := Lib.hid hm
    clear hm hh hT hE
    go_enter Try.func17, Try.ntmps17
    go_wp2_with (go_at_call 19; refine (rmay_any _ _ _ _ _ _ _ _ _ _).mono ?_; rintro e w1 ⟨rfl, hb1⟩; rw [Hm.out]; have HB1 := Lib.hid hb1; clear hb1)
    go_loopw [4] (fun i wr => ∃ n : Int, 1 ≤ n ∧ n ≤ T ∧ i = .int .i64 n ∧ Below w1.heap.size w1 wr) (fun i _ => (15 - intOf i).toNat)
    case atStart => exact ⟨1, by omega, by omega, rfl, Below.refl _ _⟩
    case round =>
      obtain ⟨n, n1, n2, rfl, hbr⟩ := hrel
      have hb3 := b_trans HB1.out hbr
      obtain ⟨hc1, hf1⟩ := bcell hb3
      have HB3 := Lib.hid hb3
      have HBR := Lib.hid hbr
      clear hb3 hbr hf1
      by_cases hn : n = T
      · subst hn
        have He : Hid (holdsB n s k x f t p l b o = true) := Lib.hid (by rw [HH.out n n1 r2]; simp)
        go_wp2_with (go_at_call 21; refine (holds_any _ _ _ _ _ _ _ _ _ _ _ (by omega) (by omega)).mono ?_; rintro e w2 ⟨rfl, hb2⟩; rw [He.out])
        go_ret2
        exact ⟨rfl, b_trans (b_trans (b_alloc (Below.refl _ _) _) HB3.out) hb2⟩
      · have He : Hid (holdsB n s k x f t p l b o = false) := Lib.hid (by rw [HH.out n n1 (by omega)]; simp [hn])
        go_wp2_with (go_at_call 21; refine (holds_any _ _ _ _ _ _ _ _ _ _ _ (by omega) (by omega)).mono ?_; rintro e w2 ⟨rfl, hb2⟩; rw [He.out])
        go_roundw
        case rel => exact ⟨n + 1, by omega, by omega, by go_num, b_trans HBR.out hb2⟩
        case measure => simp [intOf]; omega
  · have hm : mayB k f t p l = false := by simpa using hm
    have h1 : ofS s k x f t p l b o = 0 := by simp [ofS, hm]
    have h2 : ofE k f t p l = 2 := by simp [ofE, hm]
    rw [h1, h2]
    have Hm := Lib.hid hm
    clear hm h1 h2
    go_enter Try.func17, Try.ntmps17
    go_wp2_with (go_at_call 19; refine (rmay_any _ _ _ _ _ _ _ _ _ _).mono ?_; rintro e w1 ⟨rfl, hb1⟩; rw [Hm.out]; have HB1 := Lib.hid hb1; clear hb1)
    go_ret2
    exact ⟨rfl, b_trans (b_alloc (Below.refl _ _) _) HB1.out⟩

end Go.Proofs.Ytejmbnahdkgpmaa
