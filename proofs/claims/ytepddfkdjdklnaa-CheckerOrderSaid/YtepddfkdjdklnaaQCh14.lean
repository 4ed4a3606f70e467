/-
  checker: slices.Clone over boxes; names.
-/
import Derived.Test.YtepddfkdjdklnaaQCh13
namespace Go.Proofs.Ytepddfkdjdklnaa.Ch
set_option linter.unusedVariables false
set_option linter.unusedSimpArgs false
set_option linter.unnecessarySimpa false
open Go.RowKit Go.Proofs.YtepddfkdjdklnaaK Go.Proofs.Ytepddfkdjdklnaa.PCheckerOrder Go.Proofs.YtepddfkdjdklnaaW.PrintWords Go.Proofs.YtepddfkdjdklnaaW.PrintLast

def boxRen : Go.Shelf.Ren := ⟨fun | 41 => 17 | n => n, fun | 22 => 22 | 23 => 43 | 4 => 4 | n => n, fun | n => n⟩
theorem boxLays : Go.Proofs.SlLaysE0.n41 Try.prog boxRen := {
  mixed := by kernel_rfl
  f41 := ⟨Try.f17.name, by decide, Try.func17.trans (congrArg some (by kernel_rfl))⟩
  t4 := Try.underlying4
  a4 := Try.isAgg4
  z4 := Try.sizeOf4
  v4 := Try.zeroValue4
  t22 := Try.underlying22
  a22 := Try.isAgg22
  z22 := Try.sizeOf22
  v22 := Try.zeroValue22 }
set_option maxRecDepth 100000 in
theorem names_any' (w : World) (p : Nat) (A : Option Addr) (c : Nat) (l : List S43) (hp : w.cell? ⟨p, 0, none⟩ = some (.slice A l.length c)) (hr : Kd.C k43 w A l.length l) (hc : l.length ≤ c) (hl : l.length < 1000000000000) (hs : ∀ x ∈ l, Small x.f1) :
    Calls Try.prog 20 #[.pointer (some ⟨p, 0, none⟩)] w fun e w' => e = .returned (.int .i64 (if l.any (fun b => !namesB b.f1) = true then 80 else 0)) ∧ Below w.heap.size w w' := by
  have hn := namesb_any w A c l (fun b => !namesB b.f1) hr hc hl (fun x hx A4 c4 A5 c5 W hb hin => names1_any x (hs x hx) A4 c4 A5 c5 W hin)
  generalize l.any (fun b => !namesB b.f1) = NB at *
  have HN := Lib.hid hn
  clear hn hr hs hc hl
  cases NB
  all_goals
    go_enter Try.func20, Try.ntmps20
    go_wp2_with (go_at_call 29; refine HN.out.mono ?_; rintro e w1 ⟨rfl, hb⟩; have HB1 := Lib.hid hb; clear hb)
    go_ret
    exact ⟨rfl, HB1.out⟩
end Go.Proofs.Ytepddfkdjdklnaa.Ch
