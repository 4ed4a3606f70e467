/-
  vatid.fits: its contract.
-/
import Derived.Test.YtbjoegladcmibaaQVi2
import Derived.Lib.Hide
namespace Go.Proofs.Ytbjoegladcmibaa.Vi
set_option linter.unusedVariables false
set_option linter.unusedSimpArgs false
set_option linter.unnecessarySimpa false
open Go.RowKit Go.Maps Go.Proofs.YtbjoegladcmibaaK Go.Proofs.YtbjoegladcmibaaW.PrintWords

/-- A scope with one label, to which the run jumps back. -/
theorem wp_scope_one {P : Program} {a : Act} {w : World} {Q : Exit → Act → World → Prop} {c r0 : Code} (J : Act → World → Prop) (μ : Act → World → Nat) (h0 : findLabel c 0 = some (Code.skip.seq r0))
    (first : (∀ a w, J a w → r0.wp P (Exit.jump 0 J Q) a w) → c.wp P (Exit.jump 0 J Q) a w)
    (pass : ∀ a w, J a w → r0.wp P (Exit.jump 0 (fun a' w' => J a' w' ∧ μ a' w' < μ a w) Q) a w) : (Code.scope c).wp P Q a w := by
  refine wp_scope_jumps 0 J μ h0 (first fun a w h => ?_) (fun a w h => wp_seq (wp_skip (pass a w h)))
  refine Code.wp_mono ?_ (pass a w h)
  intro e a' w' q
  cases e <;> first | exact q | exact ⟨q.1, q.2.1⟩
def byteAt (s : ByteArray) (i : Nat) : Int := ((s.data.toList.getD i 0).toNat : Int)
def fitB (f num : ByteArray) : Bool := decide (f.size = num.size) && (List.range f.size).all (fun i => standsB (byteAt f i) (byteAt num i))
def fitsF (l : List ByteArray) (num : ByteArray) : Bool := l.any (fun f => fitB f num)
/-- The frame of fits at its label. -/
def FrV (A : Option Addr) (n c0 : Nat) (num : ByteArray) (k : Nat) (a : Act) : Prop := a.defers = [] ∧ a.tmps.size = 37 ∧ a.tmps[0]? = some (.slice A n c0) ∧ a.tmps[1]? = some (.string num) ∧ a.tmps[5]? = some (.int .i64 k)
theorem FrV.open_ {A : Option Addr} {n c0 : Nat} {num : ByteArray} {k : Nat} {a : Act} (h : FrV A n c0 num k a) : ∃ u : Nat → Value, a = { tmps := #[.slice A n c0, .string num, u 2, u 3, u 4, .int .i64 k, u 6, u 7, u 8, u 9, u 10, u 11, u 12, u 13, u 14, u 15, u 16, u 17, u 18, u 19, u 20, u 21, u 22, u 23, u 24, u 25, u 26, u 27, u 28, u 29, u 30, u 31, u 32, u 33, u 34, u 35, u 36], defers := [] } := by
  obtain ⟨h1, h2, h3, h4, h5⟩ := h
  obtain ⟨tmps, defers⟩ := a
  dsimp only at h1 h2 h3 h4 h5
  subst h1
  refine ⟨fun i => tmps.getD i undef, ?_⟩
  congr 1
  apply Array.ext
  · rw [h2]; rfl
  · intro i hi _
    rw [h2] at hi
    have hg : ∀ j (hj : j < tmps.size), tmps.getD j undef = tmps[j] := fun j hj => by simp [Array.getD, hj]
    rcases i with _|_|_|_|_|_|i
    · simp [Array.getElem?_eq_getElem (show 0 < tmps.size by omega)] at h3; exact h3
    · simp [Array.getElem?_eq_getElem (show 1 < tmps.size by omega)] at h4; exact h4
    · simp [hg 2 (by omega)]
    · simp [hg 3 (by omega)]
    · simp [hg 4 (by omega)]
    · simp [Array.getElem?_eq_getElem (show 5 < tmps.size by omega)] at h5; exact h5
    · rcases i with _|_|_|_|_|_|_|_|_|_|_|_|_|_|_|_|_|_|_|_|_|_|_|_|_|_|_|_|_|_|_|i
      all_goals first | omega | (symm; exact hg _ (by omega))
theorem byteAt_nn (s : ByteArray) (i : Nat) : 0 ≤ byteAt s i := Int.natCast_nonneg _
theorem byteAt_lt (s : ByteArray) (i : Nat) : byteAt s i < 256 := by
  unfold byteAt
  have := (s.data.toList.getD i 0).toNat_lt
  omega
theorem byteAt_of (s : ByteArray) (i : Nat) (h : i < s.size) : byteAt s i = ((s[i]'h).toNat : Int) := by
  unfold byteAt
  have hl : i < s.data.toList.length := by rw [Array.length_toList]; exact h
  rw [List.getD_eq_getElem?_getD, List.getElem?_eq_getElem hl]
  rfl
def intK (v : Value) : Int := match v with | .int _ n => n | _ => 0
theorem any_take {l : List ByteArray} {p : ByteArray → Bool} {k : Nat} (hk : k < l.length) (h : ∀ j (hj : j < k), p (l[j]'(by omega)) = false) (hf : p l[k] = true) : l.any p = true := List.any_eq_true.2 ⟨l[k], List.getElem_mem hk, hf⟩
theorem any_none {l : List ByteArray} {p : ByteArray → Bool} (h : ∀ j (hj : j < l.length), p l[j] = false) : l.any p = false := by
  rw [List.any_eq_false]
  intro x hx
  obtain ⟨j, hj, e⟩ := List.getElem_of_mem hx
  rw [← e, h j hj]
  decide
set_option maxRecDepth 100000 in
set_option maxHeartbeats 4000000 in
theorem fits_any (A : Option Addr) (l : List ByteArray) (c0 : Nat) (num : ByteArray) (w : World) (hr : Kd.C Kd.string w A l.length l) (hc : l.length ≤ c0) (hl : l.length ≤ 1000) (hns : num.size < 9223372036854775807) :
    Calls Try.prog 96 #[.slice A l.length c0, .string num] w fun e w' => e = .returned (.bool (fitsF l num)) ∧ Below w.heap.size w w' := by
  have HR := Lib.hid hr
  clear hr
  go_enter Try.func96, Try.ntmps96
  go_wp2
  refine wp_scope_one (fun a' w' => ∃ k : Nat, FrV A l.length c0 num k a' ∧ k ≤ l.length ∧ Hid (∀ j (hj : j < l.length), j < k → fitB l[j] num = false) ∧ Hid (Below w.heap.size w w')) (fun a' _ => l.length - (intK (a'.tmps.getD 5 undef)).toNat) rfl (fun hround => ?_) ?_
  · have HRD := Lib.hid hround
    clear hround
    go_wp2
    apply wp_label
    rename_i K hK
    refine hK _ _ ?_
    exact HRD.out _ _ ⟨0, ⟨rfl, rfl, rfl, rfl, rfl⟩, Nat.zero_le _, fun j _ hj => absurd hj (Nat.not_lt_zero _), Below.refl _ _⟩
  · rintro a' w' ⟨k, hfr, hk, HN, HB⟩
    obtain ⟨u, rfl⟩ := hfr.open_
    clear hfr
    by_cases hkn : k = l.length
    · subst hkn
      have hf : fitsF l num = false := any_none (fun j hj => HN.out j hj hj)
      have HF := Lib.hid hf
      clear hf
      go_wp2
      simp only [Exit.jump]
      go_ret
      exact ⟨ret_b HF.out.symm, HB.out⟩
    · have hlt : k < l.length := by omega
      obtain ⟨ad, e, q0⟩ := Kd.at_string (Kd.C_below HR.out HB.out) (k : Int) (by omega) (by omega)
      cases e
      have hy : rdOf ByteArray.empty l (k : Int) = l[k] := by unfold rdOf; rw [Int.toNat_natCast, List.getD_eq_getElem?_getD, List.getElem?_eq_getElem hlt]; rfl
      rw [hy, Int.toNat_natCast] at q0
      generalize hf : l[k] = f at *
      clear hy
      have HFK := Lib.hid hf
      clear hf
      by_cases hsz : f.size = num.size
      · have d1 : ((f.size : Int) != (num.size : Int)) = false := by simp [hsz]
        go_wp2
        go_loopw [25] (fun i wr => ∃ j : Nat, i = .int .i64 j ∧ j ≤ f.size ∧ Hid (∀ q, q < j → standsB (byteAt f q) (byteAt num q) = true) ∧ Hid (Below w'.heap.size w' wr)) (fun i _ => f.size - (intOf i).toNat)
        case atStart => exact ⟨0, rfl, Nat.zero_le _, fun q hq => absurd hq (Nat.not_lt_zero _), Below.refl _ _⟩
        case round =>
          obtain ⟨j, rfl, hj, HS, HBr⟩ := hrel
          by_cases hjn : j = f.size
          · subst hjn
            have hfit : fitB f num = true := by
              unfold fitB
              rw [Bool.and_eq_true]
              exact ⟨decide_eq_true hsz, List.all_eq_true.2 (fun q hq => HS.out q (List.mem_range.1 hq))⟩
            have hany : fitsF l num = true := any_take (p := fun f => fitB f num) hlt (fun q hq => HN.out q (by omega) hq) (by rw [HFK.out]; exact hfit)
            have HANY := Lib.hid hany
            clear hfit hany
            go_wp2
            simp only [Exit.jump]
            go_ret
            exact ⟨ret_b HANY.out.symm, s_trans HB.out HBr.out⟩
          · have hjlt : j < f.size := by omega
            have hjn : j < num.size := by omega
            have hst : ∀ wx, Calls Try.prog 98 #[.int .u8 ((f[j]'hjlt).toNat : Int), .int .u8 ((num[j]'hjn).toNat : Int)] wx fun e w' => e = .returned (.bool (standsB (byteAt f j) (byteAt num j))) ∧ Below wx.heap.size wx w' := fun wx => by
              rw [← byteAt_of f j hjlt, ← byteAt_of num j hjn]
              exact stands_any (byteAt f j) (byteAt num j) (byteAt_nn _ _) (byteAt_lt _ _) wx
            generalize hsb : standsB (byteAt f j) (byteAt num j) = SB at *
            have HSB := Lib.hid hsb
            clear hsb
            have HST := Lib.hid hst
            clear hst
            go_wp2
            refine wp_region_sub (by kernel_rfl) (by kernel_rfl) ?_
            repeat (go_big_quiet_step ((go_at_call 98; exact calls_sub (HST.out _))))
            refine wpQuiet_nil ?_
            rintro _ ⟨u4, rfl⟩
            have hu := Lib.hid u4.property
            generalize u4.val = W4 at *
            clear u4
            cases SB
            · have hnf : fitB f num = false := by
                unfold fitB
                rw [Bool.and_eq_false_iff]
                right
                rw [List.all_eq_false]
                exact ⟨j, List.mem_range.2 hjlt, by rw [HSB.out]; decide⟩
              go_wp2
              refine wp_goto ?_
              refine And.intro rfl (And.intro ⟨k + 1, ⟨rfl, rfl, rfl, rfl, rfl⟩, hlt, ?_, Lib.hid (s_trans (s_trans HB.out HBr.out) hu.out)⟩ ?_)
              · refine Lib.hid (fun q hq hqk => ?_)
                by_cases e : q = k
                · subst e; rw [HFK.out]; exact hnf
                · exact HN.out q hq (by omega)
              · show l.length - (intK (.int .i64 ((k : Int) + 1))).toNat < l.length - (intK (.int .i64 (k : Int))).toNat
                simp only [intK]
                omega
            · go_wp2
              go_roundw
              case rel => exact ⟨j + 1, by go_num, by omega, fun q hq => by
                by_cases e : q = j
                · subst e; exact HSB.out
                · exact HS.out q (by omega), s_trans HBr.out hu.out⟩
              case measure => simp [intOf]; omega
      · have d1 : ((f.size : Int) != (num.size : Int)) = true := by simpa using fun e => hsz (by omega)
        have hnf : fitB f num = false := by
          unfold fitB
          rw [decide_eq_false hsz]
          rfl
        go_wp2
        refine wp_goto ?_
        refine And.intro rfl (And.intro ⟨k + 1, ⟨rfl, rfl, rfl, rfl, rfl⟩, hlt, ?_, HB⟩ ?_)
        · refine Lib.hid (fun j hj hjk => ?_)
          by_cases e : j = k
          · subst e; rw [HFK.out]; exact hnf
          · exact HN.out j hj (by omega)
        · show l.length - (intK (.int .i64 ((k : Int) + 1))).toNat < l.length - (intK (.int .i64 (k : Int))).toNat
          simp only [intK]
          omega
end Go.Proofs.Ytbjoegladcmibaa.Vi
