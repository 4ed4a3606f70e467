/-
  EvalOne: the law's walk (written by mkev9.py).
-/
import Derived.Test.YtnaglnifpejpjaaGreatDoorREvB
namespace Go.Proofs.YtnaglnifpejpjaaGreatDoor.Ch
set_option linter.unusedVariables false
set_option linter.unusedSimpArgs false
set_option linter.unnecessarySimpa false
open Go.RowKit Go.Proofs.YtnaglnifpejpjaaGreatDoorK Go.Proofs.YtnaglnifpejpjaaGreatDoor.XEvalRuns Go.Proofs.YtnaglnifpejpjaaGreatDoorW.PrintWords Go.Proofs.YtnaglnifpejpjaaGreatDoorW.PrintLast Go.Proofs.YtnaglnifpejpjaaGreatDoor.BX

set_option maxRecDepth 100000 in
set_option maxHeartbeats 4000000 in
theorem few1_any (x : S25) (hf : Fit x) : ∃ r : Bool, (r = true → parts x ≤ 400) ∧ ∀ (A4 : Option Addr) (c4 : Nat) (A5 : Option Addr) (c5 : Nat) (w : World), EIn w x A4 c4 A5 c5 →
 Calls Tryz.prog 7 #[eV x A4 c4 A5 c5] w fun e w' => e = .returned (.bool r) ∧ Below w.heap.size w w' := by
 obtain ⟨a, r, ha, hm⟩ := Few_at [⟨1, x⟩] (by simp) (fun y hy => by rw [List.mem_singleton.1 hy]; exact hf)
 refine ⟨r, fun h => ((hm h).2 _ (List.mem_singleton.2 rfl)).2, fun A4 c4 A5 c5 w hin => ?_⟩
 have hfew : ∀ (W : World) (g : Nat), W.heap[g]? = some (.cells #[.int .i64 1, .int .i64 x.f0, .int .i64 x.f1, .string x.f2, .slice A4 x.f3.length c4, .slice A5 x.f4.length c5] 66 (0, 0)) → EIn W x A4 c4 A5 c5 → Calls Tryz.prog 17 #[.slice (some ⟨g, 0, none⟩) 1 1] W fun e w' => e = .returned (.bool r) ∧ Below W.heap.size W w' := fun W g hg hi => by
  have hk : Kd.C k66 W (some ⟨g, 0, none⟩) 1 [⟨1, x⟩] := kd_list [⟨1, x⟩] (fun b : S66 => [.int .i64 b.f0, .int .i64 b.f1.f0, .int .i64 b.f1.f1, .string b.f1.f2, .slice A4 b.f1.f3.length c4, .slice A5 b.f1.f4.length c5]) (fun b hb => by
   rw [List.mem_singleton.1 hb]
   exact ⟨k66_mk W ⟨1, x⟩ hi.l3 hi.c3 hi.l4 hi.c4, rfl⟩) _ rfl hg (by simp)
  exact octroilaw31_Few.calls a (some ⟨g, 0, none⟩) 1 [⟨1, x⟩] r W hk (Nat.le_refl _) ha
 have hb0 : Below w.heap.size w (w.alloc (.cells #[.int .i64 x.f0, .int .i64 x.f1, .string x.f2, .slice A4 x.f3.length c4, .slice A5 x.f4.length c5] 25)) := s_alloc (Below.refl _ _) _
 have hx1 : (w.alloc (.cells #[.int .i64 x.f0, .int .i64 x.f1, .string x.f2, .slice A4 x.f3.length c4, .slice A5 x.f4.length c5] 25)).heap[w.heap.size]? = some (.cells #[.int .i64 x.f0, .int .i64 x.f1, .string x.f2, .slice A4 x.f3.length c4, .slice A5 x.f4.length c5] 25 (0, 0)) := heap_alloc_last _ _
 obtain ⟨W1, hW⟩ : ∃ W : World, W = (w.alloc (.cells #[.int .i64 x.f0, .int .i64 x.f1, .string x.f2, .slice A4 x.f3.length c4, .slice A5 x.f4.length c5] 25)) := ⟨_, rfl⟩
 rw [← hW] at hx1 hb0
 have HIN := Lib.hid (hin.below hb0)
 have HB0 := Lib.hid hb0
 have HF := Lib.hid hfew
 obtain ⟨y0, y1, y2, y3, y4⟩ := cells5 hx1
 clear hin hx1 hb0 hfew hm ha
 go_enter Tryz.func7, Tryz.ntmps7
 go_upto_region 1 with fail
 rw [← hW]
 clear hW
 go_wp2_with (go_at_call 17; refine (HF.out _ W1.heap.size (heap_alloc_last W1 _) (HIN.out.below (s_alloc (Below.refl _ _) _))).mono ?_; rintro e w2 ⟨rfl, hb⟩; have HB2 := Lib.hid (s_trans (s_alloc HB0.out _) hb); clear hb)
 go_ret
 exact ⟨rfl, HB2.out⟩
/-! ### a row of one's own, of any kind -/
theorem own_sliceN {w : World} {base s : Nat} {e : TypeId} {v : Value} {n : Nat} {xs : List Value} (h : w.ownsRow base e s v n xs) : ∃ ad cap, v = .slice ad n cap := by
 rcases h.2 with ⟨rfl, h0⟩ | ⟨g', cap, cur, rfl, _⟩
 ·exact ⟨none, 0, by rw [h0]⟩
 ·exact ⟨_, _, rfl⟩
theorem own_kdn {α : Type} {d : Kd α} {w : World} {b : Nat} {e : TypeId} {l : List α} {A : Option Addr} {c : Nat} (f : α → List Value) (hf : ∀ x ∈ l, d.K w x (f x) ∧ (f x).length = d.sz) (h : w.ownsRow b e d.sz (.slice A l.length c) l.length (l.flatMap f)) (hl : l.length ≤ 1000) : Kd.C d w A l.length l ∧ l.length ≤ c := by
 rcases h.2 with ⟨he, h0⟩ | ⟨g, cap, cur, he, hbb, hg, hn, hcap, hcs, htk⟩
 ·have : l = [] := List.eq_nil_of_length_eq_zero h0
  subst this
  cases he
  exact ⟨kd_nil w, Nat.zero_le _⟩
 ·cases he
  refine ⟨⟨rfl, by omega, fun _ => ⟨_, rfl, fun j p hp => ?_⟩⟩, hn⟩
  obtain ⟨hjl, rfl⟩ := List.getElem?_eq_some_iff.1 hp
  obtain ⟨hK, hs⟩ := hf _ (List.getElem_mem hjl)
  refine ⟨f l[j], hs, hK, fun i u hu => ?_⟩
  have hi : i < d.sz := by rw [← hs]; exact (List.getElem?_eq_some_iff.1 hu).1
  rw [Addr.add_mid, Nat.zero_add, blk_cell hg]
  have h1 := flat_at f d.sz l (fun x hx => (hf x hx).2) j i hjl hi
  rw [← htk, hu] at h1
  have hlt : j * d.sz + i < l.length * d.sz := by
   have : (j + 1) * d.sz ≤ l.length * d.sz := Nat.mul_le_mul_right _ hjl
   rw [Nat.succ_mul] at this
   omega
  rw [List.getElem?_take_of_lt hlt] at h1
  simpa using h1
end Go.Proofs.YtnaglnifpejpjaaGreatDoor.Ch
