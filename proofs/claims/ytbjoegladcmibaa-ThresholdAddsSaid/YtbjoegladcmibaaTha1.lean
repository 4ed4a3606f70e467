import Derived.Test.YtbjoegladcmibaaM2
import Derived.Maps.OwnSet
import Derived.Maps.OwnOps
import Derived.Maps.Views
import Derived.Maps.AppendAt
namespace Go.Proofs.Ytbjoegladcmibaa.Thr
set_option linter.unusedVariables false
set_option linter.unusedSimpArgs false
set_option linter.unnecessarySimpa false
open Go.RowKit Go.Maps Go.Proofs.YtbjoegladcmibaaK Go.Proofs.Ytbjoegladcmibaa.Money

theorem lawI : Keyed Try.prog 3 := int_keyed Try.underlying3
theorem zeroI (w : World) : (zeroValue 3).run Try.prog w = .ok (.int .i64 0) w := by kernel_rfl

/-- At g lies a total whose map, at m, has the sums T. -/
structure Tot (w : World) (g m n : Nat) (T : Int → Int) (K : Int → Bool) : Prop where
  box : w.heap[g]? = some (.cells #[.map (some m)] 72 (0, 0))
  own : ∃ D : DataW Unit, w.ownsMap Try.prog 3 (plainElem Try.prog 3) m n D ∧ IsMap D ∧ (∀ y, (Lit.int .i64 y).wf = true → D.atKey (.int .i64 y) (.lit (.int .i64 0)) = .lit (.int .i64 (T y))) ∧ ∀ y, (Lit.int .i64 y).wf = true → has D (.int .i64 y) = K y
  ne : g ≠ m

theorem none_any (w : World) (g m n : Nat) (T : Int → Int) {K : Int → Bool} (h : Tot w g m n T K) : Calls Try.prog 71 #[.pointer (some ⟨g, 0, none⟩)] w fun e w' => e = .returned (.bool false) ∧ w = w' := by
  have c0 := cells1 h.box
  have qT : ∀ (w : World) (r : Option Nat), (binOp .eql 70 (.map r) (.map none)).run Try.prog w = .ok (.bool r.isNone) w := fun w r => run_eql_map_nil w _ _ _ r Try.underlying70
  clear h
  go_enter Try.func71, Try.ntmps71
  go_wp2
  go_ret
  exact ⟨rfl, rfl⟩


theorem Tot.below {w w1 : World} {g m n : Nat} {T : Int → Int} {K : Int → Bool} (h : Tot w g m n T K) (hb : Below w.heap.size w w1) : Tot w1 g m n T K := by
  obtain ⟨D, ho, hi, hD⟩ := h.own
  obtain ⟨es, clock, hm, hF, hs, hd⟩ := ho
  exact ⟨block_on hb h.box, ⟨D, ⟨es, clock, block_on hb hm, hF, hs, hd⟩, hi, hD⟩, h.ne⟩
theorem Tot.mono {w : World} {g m n n' : Nat} {T : Int → Int} {K : Int → Bool} (h : Tot w g m n T K) (hn : n ≤ n') : Tot w g m n' T K := by
  obtain ⟨D, ho, hi, hD⟩ := h.own
  exact ⟨h.box, ⟨D, ho.mono hn, hi, hD⟩, h.ne⟩
theorem grown_of_below {w w1 : World} (h : Below w.heap.size w w1) (row : Option Nat) : w.grownBy w1 row := ⟨h.os, h.tape, h.output, h.size, fun i hi _ => h.block i hi⟩
theorem Tot.look {w : World} {g m n : Nat} {T : Int → Int} {K : Int → Bool} (h : Tot w g m n T K) (y : Int) (hy : (Lit.int .i64 y).wf = true) :
    (Instr.lookup 70 (.map (some m)) (.int .i64 y) false).run Try.prog w = .ok (.int .i64 (T y)) w := by
  obtain ⟨D, ho, hi, hD⟩ := h.own
  obtain ⟨c, hrun, hat, _⟩ := ho.lookup_int (t := 70) lawI Try.underlying70 Try.underlying3 (zeroI _) (keyOf_int_mk Try.underlying3 hy)
  rw [hD.1 y hy] at hat
  have : T y = c := by simpa using hat
  rw [this]
  exact hrun

theorem tof_any (w : World) (g m n : Nat) (T : Int → Int) {K : Int → Bool} (h : Tot w g m n T K) (y : Int) (hy : (Lit.int .i64 y).wf = true) :
    Calls Try.prog 27 #[.pointer (some ⟨g, 0, none⟩), .int .i64 y] w fun e w' => e = .returned (.int .i64 (T y)) ∧ w = w' := by
  have c0 := cells1 h.box
  have hl := h.look y hy
  have H := Lib.hid h
  clear h
  go_enter Try.func27, Try.ntmps27
  go_wp2_with (go_at_call 71; refine (none_any _ g m n T H.out).mono ?_; rintro e w1 ⟨rfl, rfl⟩)
  go_ret
  exact ⟨rfl, rfl⟩

def withV (T : Int → Int) (y a : Int) : Int := if 1970 ≤ y ∧ y ≤ 9999 then sumV [T y, a] else 0
def withE (T : Int → Int) (y a : Int) : Int := if 1970 ≤ y ∧ y ≤ 9999 then sumE [T y, a] else 30

set_option maxRecDepth 100000 in
set_option maxHeartbeats 1000000 in
theorem with_any (w : World) (g m n : Nat) (T : Int → Int) {K : Int → Bool} (h : Tot w g m n T K) (y a : Int) (hy : (Lit.int .i64 y).wf = true) :
    Calls Try.prog 70 #[.pointer (some ⟨g, 0, none⟩), .int .i64 y, .int .i64 a] w fun e w' => e = .returned (.tuple #[.int .i64 (withV T y a), .int .i64 (withE T y a)]) ∧ Below w.heap.size w w' := by
  have c0 := cells1 h.box
  have hl := h.look y hy
  have H := Lib.hid h
  clear h
  by_cases hr : 1970 ≤ y ∧ y ≤ 9999
  · have e1 : withV T y a = sumV [T y, a] := if_pos hr
    have e2 : withE T y a = sumE [T y, a] := if_pos hr
    obtain ⟨r1, r2⟩ := hr
    rw [e1, e2]
    clear e1 e2
    go_enter Try.func70, Try.ntmps70
    go_wp2_with (first
      | (go_at_call 71; refine (none_any _ g m n T H.out).mono ?_; rintro e w1 ⟨rfl, rfl⟩)
      | (go_at_call 104; refine (madd_any _ _ _).mono ?_; rintro e w2 ⟨rfl, hb2⟩; have HB2 := Lib.hid hb2; clear hb2))
    go_ret2
    exact ⟨rfl, HB2.out⟩
  · have e1 : withV T y a = 0 := if_neg hr
    have e2 : withE T y a = 30 := if_neg hr
    rw [e1, e2]
    clear e1 e2
    go_enter Try.func70, Try.ntmps70
    go_wp2_with (go_at_call 71; refine (none_any _ g m n T H.out).mono ?_; rintro e w1 ⟨rfl, rfl⟩)
    all_goals
      first
        | (exfalso; omega)
        | (go_ret2; exact ⟨rfl, Below.refl _ _⟩)

def updK (K : Int → Bool) (y : Int) (b : Bool) : Int → Bool := fun z => if z = y then b else K z
theorem updK_twice (K : Int → Bool) (y : Int) (v u : Bool) : updK (updK K y v) y u = updK K y u := by
  funext z; unfold updK; split <;> rfl
def upd (T : Int → Int) (y v : Int) : Int → Int := fun z => if z = y then v else T z

theorem addTot {w w1 : World} {g m n : Nat} {T : Int → Int} {K : Int → Bool} {D : DataW Unit} (h : Tot w g m n T K) (hi : IsMap D)
    (hD : (∀ y, (Lit.int .i64 y).wf = true → D.atKey (.int .i64 y) (.lit (.int .i64 0)) = .lit (.int .i64 (T y))) ∧ ∀ y, (Lit.int .i64 y).wf = true → has D (.int .i64 y) = K y)
    (y v : Int) (ho : w1.ownsMap Try.prog 3 (plainElem Try.prog 3) m (n + 1) (D.put (.int .i64 y) (.lit (.int .i64 v)))) (hg : w.grownBy w1 (some m)) (hy : (Lit.int .i64 y).wf = true) :
    Tot w1 g m (n + 1) (upd T y v) (updK K y true) := by
  refine ⟨?_, ⟨_, ho, hi.put _ _, ?_, ?_⟩, h.ne⟩
  · rw [hg.block g (block_lt h.box) (fun e => h.ne (by simpa using e))]
    exact h.box
  · intro z hz
    unfold upd
    by_cases e : z = y
    · subst e
      rw [if_pos rfl, atKey_put_same hi (by simp [WideAt.IsKeyLit])]
    · rw [if_neg e, atKey_put_other (by simpa using e), hD.1 z hz]
  · intro z hz
    unfold updK
    by_cases e : z = y
    · subst e
      rw [if_pos rfl, has_put_same hi (by simp [WideAt.IsKeyLit])]
    · rw [if_neg e, has_put_other (by simpa using e), hD.2 z hz]

theorem delTot {w w1 : World} {g m n : Nat} {T : Int → Int} {K : Int → Bool} {D : DataW Unit} (h : w.heap[g]? = some (.cells #[.map (some m)] 72 (0, 0))) (hne : g ≠ m) (hi : IsMap D)
    (hD : (∀ y, (Lit.int .i64 y).wf = true → D.atKey (.int .i64 y) (.lit (.int .i64 0)) = .lit (.int .i64 (T y))) ∧ ∀ y, (Lit.int .i64 y).wf = true → has D (.int .i64 y) = K y)
    (y : Int) (ho : w1.ownsMap Try.prog 3 (plainElem Try.prog 3) m n (D.del (.int .i64 y))) (hg : w.grownBy w1 (some m)) :
    Tot w1 g m n (upd T y 0) (updK K y false) := by
  refine ⟨?_, ⟨_, ho, hi.del _, ?_, ?_⟩, hne⟩
  · rw [hg.block g (block_lt h) (fun e => hne (by simpa using e))]
    exact h
  · intro z hz
    unfold upd
    by_cases e : z = y
    · subst e
      rw [if_pos rfl, atKey_del_same]
    · rw [if_neg e, atKey_del_other (by simpa using e), hD.1 z hz]
  · intro z hz
    unfold updK
    by_cases e : z = y
    · subst e
      rw [if_pos rfl, has_del_same]
    · rw [if_neg e, has_del_other (by simpa using e), hD.2 z hz]
theorem upd_twice (T : Int → Int) (y v u : Int) : upd (upd T y v) y u = upd T y u := by
  funext z; unfold upd; split <;> rfl

set_option maxRecDepth 100000 in
set_option maxHeartbeats 1000000 in
theorem add_any (w : World) (g m n : Nat) (T : Int → Int) {K : Int → Bool} (h : Tot w g m n T K) (y a : Int) (hy : (Lit.int .i64 y).wf = true) (hn : n < maxLen) (hv : (Lit.int .i64 (withV T y a)).wf = true) :
    Calls Try.prog 26 #[.pointer (some ⟨g, 0, none⟩), .int .i64 y, .int .i64 a] w fun e w' => e = .returned (.int .i64 (withE T y a)) ∧ Tot w' g m (n + 1) (if withE T y a = 0 then upd T y (withV T y a) else T) (if withE T y a = 0 then updK K y (withV T y a != 0) else K) ∧ w.grownBy w' (some m) := by
  have c0 := cells1 h.box
  have H := Lib.hid h
  have hw := fun wx (hx : Tot wx g m n T K) => with_any wx g m n T hx y a hy
  have hkey := keyOf_int_mk (P := Try.prog) Try.underlying3 hy
  generalize withV T y a = V at *
  generalize withE T y a = E at *
  have HW := Lib.hid hw
  clear h hw
  by_cases hE : E = 0
  · subst hE
    rw [if_pos rfl]
    by_cases hV : V = 0
    · subst hV
      go_enter Try.func26, Try.ntmps26
      go_wp2_with (first
        | (go_at_call 70; refine (HW.out _ H.out).mono ?_; rintro e w1 ⟨rfl, hb1⟩; have H1 := Lib.hid (H.out.below hb1); have hc1 := cells1 H1.out.box; have HB1 := Lib.hid hb1; clear hb1; obtain ⟨D, ho, hi, hD⟩ := H1.out.own; have HD := Lib.hid hD; clear hD)
        | (at_mapUpdate; refine wpList_mapUpdate_own _ rfl _ _ _ 70 rfl 3 3 lawI Try.underlying70 _ m n D rfl ho hn _ _ _ rfl rfl hkey _ [] (plainElem_int Try.underlying3 hv) ?_; intro w2 ho2 hg2; have H2 := Lib.hid (addTot H1.out hi HD.out y 0 ho2 hg2 hy); have hc2 := cells1 H2.out.box; have HG2 := Lib.hid hg2; clear hg2; obtain ⟨D2, ho3, hi3, hD3⟩ := H2.out.own; have HD3 := Lib.hid hD3; clear hD3)
        | (at_delete; refine wpList_delete_own _ rfl _ _ 70 3 rfl 3 lawI Try.underlying70 _ m (n + 1) D2 rfl ho3 _ _ rfl hkey ?_; intro w3 ho4 ht4; have H4 := Lib.hid (delTot H2.out.box H2.out.ne hi3 HD3.out y ho4 ht4.grown); have HG4 := Lib.hid ht4.grown; clear ht4))
      go_ret
      refine ⟨rfl, ?_, ((grown_of_below HB1.out _).trans HG2.out).trans HG4.out⟩
      have := H4.out
      rw [upd_twice, updK_twice] at this
      exact this
    · have hV' : (V == 0) = false := by simpa using hV
      go_enter Try.func26, Try.ntmps26
      go_wp2_with (first
        | (go_at_call 70; refine (HW.out _ H.out).mono ?_; rintro e w1 ⟨rfl, hb1⟩; have H1 := Lib.hid (H.out.below hb1); have hc1 := cells1 H1.out.box; have HB1 := Lib.hid hb1; clear hb1; obtain ⟨D, ho, hi, hD⟩ := H1.out.own; have HD := Lib.hid hD; clear hD)
        | (at_mapUpdate; refine wpList_mapUpdate_own _ rfl _ _ _ 70 rfl 3 3 lawI Try.underlying70 _ m n D rfl ho hn _ _ _ rfl rfl hkey _ [] (plainElem_int Try.underlying3 hv) ?_; intro w2 ho2 hg2; have H2 := Lib.hid (addTot H1.out hi HD.out y V ho2 hg2 hy); have hc2 := cells1 H2.out.box; have HG2 := Lib.hid hg2; clear hg2))
      go_ret
      have hV9 : (V != 0) = true := by simpa using hV
      have hT := H2.out
      rw [← hV9] at hT
      exact ⟨rfl, hT, (grown_of_below HB1.out _).trans HG2.out⟩
  · have hE' : (E != 0) = true := by simpa using hE
    rw [if_neg hE]
    go_enter Try.func26, Try.ntmps26
    go_wp2_with (go_at_call 70; refine (HW.out _ H.out).mono ?_; rintro e w1 ⟨rfl, hb1⟩; have H1 := Lib.hid (H.out.below hb1); have HB1 := Lib.hid hb1; clear hb1)
    go_ret
    exact ⟨rfl, H1.out.mono (Nat.le_succ _), grown_of_below HB1.out _⟩

end Go.Proofs.Ytbjoegladcmibaa.Thr
