/-
  What the law calls of the reference, as contracts.
-/
import Derived.Test.YtmkalnljclhigaaGreatQCk10
import Derived.Test.YtmkalnljclhigaaGreatQCs1
namespace Go.Proofs.YtmkalnljclhigaaGreat.Ch
set_option linter.unusedVariables false
set_option linter.unusedSimpArgs false
set_option linter.unnecessarySimpa false
open Go.RowKit Go.Maps Go.Proofs.YtmkalnljclhigaaGreatK Go.Proofs.YtmkalnljclhigaaGreat.XCheckerChecks Go.Proofs.YtmkalnljclhigaaGreatW.PrintWords Go.Proofs.YtmkalnljclhigaaGreatW.PrintLast

theorem goodr_any (x : S33) (hf : Fit x) (ht : Thin x) (A4 : Option Addr) (c4 : Nat) (A5 : Option Addr) (c5 : Nat) (w : World) (hin : EIn w x A4 c4 A5 c5) : Calls Tryz.prog 8 #[eV x A4 c4 A5 c5] w fun e w' => e = .returned (.bool (goodB x)) ∧ Below w.heap.size w w' := by
  obtain ⟨a, ha⟩ := goodE_f x hf ht
  exact octroiref31_GoodExpr.calls a x.f0 x.f1 x.f2 A4 c4 x.f3 A5 c5 x.f4 _ w hin.c3 hin.l3 hin.c4 hin.l4 ha
theorem namesr_any (x : S33) (hf : Fit x) (A4 : Option Addr) (c4 : Nat) (A5 : Option Addr) (c5 : Nat) (w : World) (hin : EIn w x A4 c4 A5 c5) : Calls Tryz.prog 10 #[eV x A4 c4 A5 c5] w fun e w' => e = .returned (.bool (namesB x)) ∧ Below w.heap.size w w' := by
  obtain ⟨a, ha⟩ := names_r x hf
  exact octroiref33_Names.calls a x.f0 x.f1 x.f2 A4 c4 x.f3 A5 c5 x.f4 _ w hin.c3 hin.l3 hin.c4 hin.l4 ha
theorem samer_any (x : S33) (hs : Small x) (A4 : Option Addr) (c4 : Nat) (A5 : Option Addr) (c5 : Nat) (B4 : Option Addr) (d4 : Nat) (B5 : Option Addr) (d5 : Nat) (w : World) (hin : EIn w x A4 c4 A5 c5) (hin2 : EIn w x B4 d4 B5 d5) : Calls Tryz.prog 19 #[eV x A4 c4 A5 c5, eV x B4 d4 B5 d5] w fun e w' => e = .returned (.bool true) ∧ Below w.heap.size w w' :=
  same_walk (SizeOf.sizeOf x + 1) x (Nat.lt_succ_self _) hs A4 c4 A5 c5 B4 d4 B5 d5 w hin hin2
theorem checkr_any (w : World) (A : Option Addr) (c : Nat) (l : List S35) (hr : Kd.C k35 w A l.length l) (hc : l.length ≤ c) (hl : l.length ≤ 20) (hx : ∀ x ∈ l, Fit x.f1 ∧ Thin x.f1 ∧ parts x.f1 ≤ 400) : Calls Tryz.prog 7 #[.slice A l.length c] w fun e w' => e = .returned (.int .i64 (checkE l)) ∧ Below w.heap.size w w' := by
  obtain ⟨a, ha⟩ := check_f l hl hx
  exact octroiref33_Check.calls a A c l _ w hr hc ha
theorem findr_any (w : World) (A : Option Addr) (c : Nat) (l : List S35) (hr : Kd.C k35 w A l.length l) (hc : l.length ≤ c) (hl : l.length ≤ 20) (n : Int) : Calls Tryz.prog 12 #[.slice A l.length c, .int .i64 n] w fun e w' => e = .returned (.int .i64 (findB (nums l) n)) ∧ Below w.heap.size w w' :=
  (octroiref33_Find.calls (l.length + 1) A c l n _ w hr hc (find_f l (by omega) n)).mono fun _ _ ⟨h1, h2⟩ => ⟨h1, h2.below⟩
/-- Numbers that may be read. -/
def Rd (W : World) (A : Option Addr) (c : Nat) (zs : List Int) : Prop := Kd.C (Kd.int .i64) W A zs.length zs ∧ zs.length ≤ c
theorem Rd.below {W W' : World} {A : Option Addr} {c : Nat} {zs : List Int} (h : Rd W A c zs) (hb : Below W.heap.size W W') : Rd W' A c zs := ⟨Kd.C_below h.1 hb, h.2⟩
theorem samez_any (w : World) (A B : Option Addr) (c d : Nat) (zs : List Int) (hl : zs.length ≤ 1000000) (h1 : Rd w A c zs) (h2 : Rd w B d zs) : Calls Tryz.prog 14 #[.slice A zs.length c, .slice B zs.length d] w fun e w' => e = .returned (.bool true) ∧ Below w.heap.size w w' :=
  (octroiref03_Same.calls (zs.length + 1) A c zs B d zs true w h1.1 h1.2 h2.1 h2.2 (same3_f zs hl)).mono fun _ _ ⟨h1, h2⟩ => ⟨h1, h2.below⟩
theorem rd_of {w : World} {b : Nat} {v : Value} {zs : List Int} (h : Kd.R (Kd.int .i64) 3 w b (fun _ => True) v zs) : ∃ A c, v = .slice A zs.length c ∧ Rd w A c zs := by
  obtain ⟨A, c, rfl, hle, hC⟩ := Kd.R_reads h
  exact ⟨A, c, rfl, hC, hle⟩
theorem rd_own {w : World} {b : Nat} {v : Value} {o : List Nat} (h : w.ownsRow b 3 1 v o.length (intV o)) : ∃ A c, v = .slice A (ints o).length c ∧ Rd w A c (ints o) := by
  obtain ⟨A, c, rfl, hc, hk⟩ := order_val h
  have e : (ints o).length = o.length := ints_len o
  refine ⟨A, c, by rw [e], ?_, by rw [e]; exact hc⟩
  rw [e]
  exact hk
theorem orderr_any (w : World) (A : Option Addr) (c : Nat) (l : List S35) (hr : Kd.C k35 w A l.length l) (hc : l.length ≤ c) (h : Known l) (o : List Nat) (ho : arr (needsL l) = some o) : Calls Tryz.prog 16 #[.slice A l.length c] w fun e w' => ∃ B d, e = .returned (.slice B (ints o).length d) ∧ Rd w' B d (ints o) ∧ Below w.heap.size w w' := by
  obtain ⟨a, o2, ha, harr, _⟩ := order_f l h
  have he : o2 = o := by
    rw [ho] at harr
    split at harr
    · exact (Option.some.inj harr).symm
    · cases harr
  subst he
  refine (octroiref33_Order.calls a A c l _ w hr hc ha).mono ?_
  rintro e w' ⟨v, rfl, hv, hb⟩
  obtain ⟨B, d, rfl, hd⟩ := rd_of hv
  exact ⟨B, d, rfl, hd, hb⟩
theorem needsr_any (w : World) (A : Option Addr) (c : Nat) (l : List S35) (hr : Kd.C k35 w A l.length l) (hc : l.length ≤ c) (h : Known l) (i : Nat) (hi : i < l.length) : Calls Tryz.prog 20 #[.slice A l.length c, .int .i64 i] w fun e w' => ∃ B d, e = .returned (.slice B (needZ (nums l) l[i]).length d) ∧ Rd w' B d (needZ (nums l) l[i]) ∧ Below w.heap.size w w' := by
  obtain ⟨a, ha⟩ := needs_f l h.few h.each h.nodup h.ok i hi
  refine (octroiref33_Needs.calls a A c l i _ w hr hc ha).mono ?_
  rintro e w' ⟨v, rfl, hv, hb⟩
  obtain ⟨B, d, rfl, hd⟩ := rd_of hv
  exact ⟨B, d, rfl, hd, hb⟩
theorem ints_needN (ns : List Int) (x : S35) : ints (needN ns x) = needZ ns x := by
  unfold ints needN
  rw [List.map_map]
  refine (List.map_congr_left fun z hz => ?_).trans (List.map_id _)
  have := needZ_mem hz
  simp [Int.toNat_of_nonneg this]
theorem porder_any (w : World) (p : Nat) (l : List S35) (o : List Nat) (h : PlanIn w p l o) (ho : o.length ≤ 1000000) : Calls Tryz.prog 15 #[.pointer (some ⟨p, 0, none⟩)] w fun e w' => ∃ B d, e = .returned (.slice B (ints o).length d) ∧ Rd w' B d (ints o) ∧ Below w.heap.size w w' := by
  refine (order_plan w p l o h ho).mono ?_
  rintro e w' ⟨v, rfl, hv, hb⟩
  obtain ⟨B, d, rfl, hd⟩ := rd_own hv
  exact ⟨B, d, rfl, hd, hb⟩
theorem pneeds_any (w : World) (p : Nat) (l : List S35) (o : List Nat) (h : PlanIn w p l o) (i : Nat) (hi : i < l.length) (hp : parts l[i].f1 ≤ 400) : Calls Tryz.prog 18 #[.pointer (some ⟨p, 0, none⟩), .int .i64 i] w fun e w' => ∃ B d, e = .returned (.slice B (needZ (nums l) l[i]).length d) ∧ Rd w' B d (needZ (nums l) l[i]) ∧ Below w.heap.size w w' := by
  have hin : i < (needsL l).length := by unfold needsL; rw [List.length_map]; exact hi
  have hg : (needsL l)[i] = needN (nums l) l[i] := by simp [needsL]
  refine (needs_plan w p l o i hin h (by rw [hg, needN_len]; have := refsR_few hp; omega)).mono ?_
  rintro e w' ⟨v, rfl, hv, hb⟩
  rw [hg] at hv
  obtain ⟨B, d, rfl, hd⟩ := rd_own hv
  rw [ints_needN] at hd
  exact ⟨B, d, by rw [ints_needN], hd, hb⟩
theorem known_of {l : List S35} (hl : l.length ≤ 20) (hx : ∀ x ∈ l, Fit x.f1 ∧ Thin x.f1 ∧ parts x.f1 ≤ 400) (hE : checkE l = 0) : Known l := by
  unfold checkE at hE
  split at hE
  · cases hE
  split at hE
  · cases hE
  rename_i h1
  split at hE
  · cases hE
  rename_i h2
  exact ⟨hl, hx, Decidable.not_not.1 h1, by simpa using h2⟩
end Go.Proofs.YtmkalnljclhigaaGreat.Ch
