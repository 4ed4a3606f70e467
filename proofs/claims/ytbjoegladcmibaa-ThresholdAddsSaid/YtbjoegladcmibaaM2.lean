import Derived.Test.YtbjoegladcmibaaM1
import Derived.Deep.DeepCutAuto
import Derived.Deep.RegionWith
import Derived.Lib.SmallJoins
namespace Go.Proofs.Ytbjoegladcmibaa.Money
set_option linter.unusedVariables false
set_option linter.unusedSimpArgs false
open Go.RowKit Go.Proofs.YtbjoegladcmibaaK

/-- A slice of ints that is read: nil, empty and other ones alike. -/
def RInt (w : World) (A : Option Addr) (n : Nat) (xs : List Int) : Prop :=
  xs.length = n ∧ n ≤ 17592186044044 ∧ ∀ j, j < n → ∃ ad, A = some ad ∧ w.cell? (ad.add j) = some (.int .i64 (xs.getD j 0))
theorem RInt.below {w w1 : World} {A : Option Addr} {n : Nat} {xs : List Int} (h : RInt w A n xs) (hb : Below w.heap.size w w1) : RInt w1 A n xs :=
  ⟨h.1, h.2.1, fun j hj => by
    obtain ⟨ad, e, hc⟩ := h.2.2 j hj
    exact ⟨ad, e, (hb.cell (World.block_lt_of_cell? w _ hc)).trans hc⟩⟩

theorem take_sum (l : List Int) (k : Nat) (h : k < l.length) : sumL (l.take (k + 1)) = sumL (l.take k) + l.getD k 0 := by
  rw [List.take_succ_eq_append_getElem h, sumL_snoc]
  simp [List.getD_eq_getElem?_getD, h]

theorem plus_w (x y : Int) (w : World) : Calls Try.prog 172 #[.agg #[.int .u64 (loB x), .int .u64 (hiB x)], .agg #[.int .u64 (loB y), .int .u64 (hiB y)]] w fun e w' => e = .returned (.agg #[.int .u64 (loB (x + y)), .int .u64 (hiB (x + y))]) ∧ Below w.heap.size w w' := by
  have a := lo_bd x
  have b := lo_bd y
  have c := hi_bd x
  have d := hi_bd y
  have h := plus_any (loB x) (hiB x) (loB y) (hiB y) w a.1 c.1 b.1 d.1 (car_bd _ _ _ a.1 a.2 b.1 b.2 (by omega) (by omega))
  rw [plus_lo, plus_hi] at h
  exact h

set_option maxRecDepth 100000 in
set_option maxHeartbeats 2000000 in
theorem sum_any (A : Option Addr) (n c : Nat) (l : List Int) (w : World) (h : RInt w A n l) :
    Calls Try.prog 156 #[.slice A n c] w fun e w' => e = .returned (.tuple #[.int .i64 (sumV l), .int .i64 (sumE l)]) ∧ Below w.heap.size w w' := by
  obtain ⟨hl, hn, hr⟩ := h
  have Hr := Lib.hid hr
  have Hl := Lib.hid hl
  clear hr hl
  go_enter Try.func156, Try.ntmps156
  go_wp2
  go_loopw [9] (fun i wr => ∃ k : Nat, k ≤ n ∧ i = .int .i64 k ∧ Hid (Below w.heap.size w wr) ∧ Hid (wr.heap[w.heap.size]? = some (.cells #[.int .u64 (loB (sumL (l.take k))), .int .u64 (hiB (sumL (l.take k)))] 215 (0, 0))) ∧ Hid (∀ j, j < k → mayM (l.getD j 0) = true)) (fun i _ => n - (intOf i).toNat)
  case atStart => 
    refine ⟨0, Nat.zero_le _, rfl, s_alloc (Below.refl _ _) _, ?_, fun j hj => absurd hj (by omega)⟩
    exact Array.getElem?_push_size
  case round =>
    obtain ⟨k, hk, rfl, HB, HC, HM⟩ := hrel
    obtain ⟨c0, c1⟩ := cells2 HC.out
    by_cases hkn : k = n
    · subst hkn
      have hlen := Hl.out
      have hall : ∀ x ∈ l, mayM x = true := fun x hx => by
        obtain ⟨i, hi, rfl⟩ := List.getElem_of_mem hx
        have := HM.out i (by omega)
        rwa [List.getD_eq_getElem?_getD, List.getElem?_eq_getElem hi] at this
      have hb := sumL_bd l hall
      have h1 : sumV l = toldV (sumL l) := by unfold sumV toldV; rw [if_pos (by rw [List.all_eq_true]; exact hall)]
      have h2 : sumE l = toldE (sumL l) := by unfold sumE toldE; rw [if_pos (by rw [List.all_eq_true]; exact hall)]
      rw [List.take_of_length_le (by omega)] at c0 c1
      rw [hlen] at hb
      have ht := fun w => told_any (sumL l) w (by omega) (by omega)
      rw [← h1, ← h2] at ht
      have Ht := Lib.hid ht
      generalize loB (sumL l) = a0 at *
      generalize hiB (sumL l) = a1 at *
      clear ht h1 h2 hb hall hlen hk
      go_wp2_with (go_at_call 174; refine (Ht.out _).mono ?_; rintro e w2 ⟨rfl, hb2⟩; have HB2 := Lib.hid hb2; clear hb2)
      go_ret2
      exact ⟨rfl, s_trans HB.out HB2.out⟩
    · have hlt : k < n := by omega
      obtain ⟨ad, rfl, hc⟩ := Hr.out k hlt
      have hcell : wr.cell? (ad.add k) = some (.int .i64 (l.getD k 0)) := (HB.out.cell (World.block_lt_of_cell? w _ hc)).trans hc
      have hlen := Hl.out
      have hts := take_sum l k (by omega)
      have hmem : l.getD k 0 ∈ l := by
        rw [List.getD_eq_getElem?_getD, List.getElem?_eq_getElem (by omega)]
        simp
      clear hc hkn
      cases hM : mayM (l.getD k 0)
      · have h1 : sumV l = 0 := by
          unfold sumV
          rw [if_neg (fun h => by rw [List.all_eq_true] at h; rw [h _ hmem] at hM; cases hM)]
        have h2 : sumE l = 2 := by
          unfold sumE
          rw [if_neg (fun h => by rw [List.all_eq_true] at h; rw [h _ hmem] at hM; cases hM)]
        have E1 := Lib.hid h1
        have E2 := Lib.hid h2
        have HMk := Lib.hid hM
        clear h1 h2 hM hmem hts hlen
        generalize l.getD k 0 = a at *
        go_wp2_with (go_at_call 171; refine (mmay_any _ _).mono ?_; rintro e w2 ⟨rfl, rfl⟩; rw [HMk.out])
        go_ret2
        exact ⟨by rw [E1.out, E2.out]; rfl, HB.out⟩
      · have HMk := Lib.hid hM
        have hbd := (mayM_iff _).1 hM
        have HTS := Lib.hid hts
        clear hM hmem hts hlen
        generalize ha : l.getD k 0 = a at *
        have HA := Lib.hid ha
        clear ha
        generalize hs : sumL (l.take k) = s at *
        have HS := Lib.hid hs
        clear hs
        have hg := block_lt HC.out
        go_upto_region 7 with (go_at_call 171; refine (mmay_any _ _).mono ?_; rintro e w2 ⟨rfl, rfl⟩; rw [HMk.out])
        go_region_with (first
            | (go_at_call 173; refine (of_any a _ (by omega)).mono ?_; rintro e w1 ⟨rfl, hb1⟩; have HB1 := Lib.hid hb1; have hd1 := cells2 (block_on hb1 HC.out); have hf1 := blockFree (block_on hb1 HC.out); clear hb1)
            | (go_at_call 172; refine (plus_w _ _ _).mono ?_; rintro e w2 ⟨rfl, hb2⟩; have HC2 := Lib.hid (block_on hb2 (block_on HB1.out HC.out)); have hd2 := cells2 HC2.out; have hf2 := blockFree HC2.out; have HB2 := Lib.hid hb2; clear hb2))
        all_goals
          go_wp2
          go_roundw
          case rel =>
            refine ⟨k + 1, by omega, by go_num, s_set (s_set (s_trans (s_trans (s_drew HB.out) HB1.out) HB2.out) _ _ (by simp)) _ _ (by simp), ?_, ?_⟩
            · have q := Go.Joins.block_setCell (i := 1) (Go.Joins.block_setCell (i := 0) HC2.out (.int .u64 (loB (s + a)))) (.int .u64 (hiB (s + a)))
              refine Lib.hid ?_
              rw [HTS.out]
              simpa using q
            · intro j hj
              by_cases e : j = k
              · rw [e, HA.out]; exact HMk.out
              · exact HM.out j (by omega)
          case measure => simp [intOf]; omega

theorem total_any (A : Option Addr) (n c : Nat) (l : List Int) (w : World) (h : RInt w A n l) :
    Calls Try.prog 129 #[.slice A n c] w fun e w' => e = .returned (.tuple #[.int .i64 (sumV l), .int .i64 (sumE l)]) ∧ Below w.heap.size w w' := by
  have H := Lib.hid h
  clear h
  go_enter Try.func129, Try.ntmps129
  go_wp2_with (go_at_call 156; refine (sum_any _ _ _ _ _ H.out).mono ?_; rintro e w2 ⟨rfl, hb2⟩; have HB2 := Lib.hid hb2; clear hb2)
  go_ret2
  exact ⟨rfl, HB2.out⟩

theorem rint2 (a b : Int) (w : World) : RInt (w.alloc (.cells #[.int .i64 a, .int .i64 b] 3)) (some ⟨w.heap.size, 0, none⟩) 2 [a, b] := by
  refine ⟨rfl, by omega, fun j hj => ⟨_, rfl, ?_⟩⟩
  have : j = 0 ∨ j = 1 := by omega
  rcases this with rfl | rfl <;> simp [Addr.add]

theorem madd_any (a b : Int) (w : World) :
    Calls Try.prog 104 #[.int .i64 a, .int .i64 b] w fun e w' => e = .returned (.tuple #[.int .i64 (sumV [a, b]), .int .i64 (sumE [a, b])]) ∧ Below w.heap.size w w' := by
  go_enter Try.func104, Try.ntmps104
  go_wp2_with (go_at_call 129; refine (total_any _ _ _ [a, b] _ (rint2 a b w)).mono ?_; rintro e w2 ⟨rfl, hb2⟩; have HB2 := Lib.hid hb2; clear hb2)
  go_ret2
  exact ⟨rfl, s_trans (s_alloc (Below.refl _ _) _) HB2.out⟩

end Go.Proofs.Ytbjoegladcmibaa.Money
