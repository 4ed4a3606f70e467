/-
  checker.Names: fields, tags, filters.
-/
import Derived.Test.YtmkalnljclhigaaGreatQCh6
namespace Go.Proofs.YtmkalnljclhigaaGreat.Ch
set_option linter.unusedVariables false
set_option linter.unusedSimpArgs false
set_option linter.unnecessarySimpa false
open Go.RowKit Go.Proofs.YtmkalnljclhigaaGreatK Go.Proofs.YtmkalnljclhigaaGreat.XCheckerChecks Go.Proofs.YtmkalnljclhigaaGreatW.PrintWords Go.Proofs.YtmkalnljclhigaaGreatW.PrintLast

def lst (l : List (List UInt8)) : List ByteArray := l.map (fun b => ⟨b.toArray⟩)
def fieldsL : List ByteArray := lst [[98, 97, 115, 101], [116, 97, 120], [111, 117, 116], [105, 110]]
def tagsL : List ByteArray := lst [[116, 114, 101, 97, 116], [114, 97, 116, 101], [115, 117, 112, 112, 108, 121], [115, 97, 108, 101], [108, 97, 116, 101], [109, 105, 120, 101, 100]]
def StrsAt (l : List ByteArray) (W : World) (g : Nat) : Prop := g < W.heap.size ∧ ∀ j, j < l.length → W.cell? ⟨g, 0 + j, none⟩ = some (.string (l.getD j ByteArray.empty))
theorem StrsAt.below {l : List ByteArray} {W W' : World} {g : Nat} (h : StrsAt l W g) (hb : Below W.heap.size W W') : StrsAt l W' g := ⟨Nat.lt_of_lt_of_le h.1 hb.size, fun j hj => (hb.cell (p := ⟨g, 0 + j, none⟩) h.1).trans (h.2 j hj)⟩
theorem block_cell {W : World} {g : Nat} {C : Array Value} {t : TypeId} (h : W.heap[g]? = some (.cells C t (0, 0))) (j : Nat) : W.cell? ⟨g, j, none⟩ = C[j]? := by simp [World.cell?, h]
theorem strs_new (w : World) (l : List ByteArray) : StrsAt l (w.alloc (.cells (l.map Value.string).toArray 9)) w.heap.size := by
  have h : (w.alloc (.cells (l.map Value.string).toArray 9)).heap[w.heap.size]? = some (.cells (l.map Value.string).toArray 9 (0, 0)) := Array.getElem?_push_size
  refine ⟨by simp, fun j hj => ?_⟩
  rw [block_cell h, Nat.zero_add]
  simp [List.getD_eq_getElem?_getD, List.getElem?_eq_getElem hj]
theorem fields_any (w : World) : Calls Tryz.prog 37 #[] w fun e w' => ∃ g, e = .returned (.slice (some ⟨g, 0, none⟩) 4 4) ∧ StrsAt fieldsL w' g ∧ Below w.heap.size w w' := by
  go_enter Tryz.func37, Tryz.ntmps37
  go_wp2
  go_ret
  exact ⟨_, rfl, strs_new w fieldsL, s_alloc (Below.refl _ _) _⟩
theorem tags_any (w : World) : Calls Tryz.prog 36 #[] w fun e w' => ∃ g, e = .returned (.slice (some ⟨g, 0, none⟩) 6 6) ∧ StrsAt tagsL w' g ∧ Below w.heap.size w w' := by
  go_enter Tryz.func36, Tryz.ntmps36
  go_wp2
  go_ret
  exact ⟨_, rfl, strs_new w tagsL, s_alloc (Below.refl _ _) _⟩
def isField (s : ByteArray) : Bool := Lib.containsS (fieldsL.take 4) s
def isTag (s : ByteArray) : Bool := Lib.containsS (tagsL.take 6) s
theorem has_field (W : World) (g : Nat) (h : StrsAt fieldsL W g) (s : ByteArray) :
    Calls Tryz.prog 35 #[.slice (some ⟨g, 0, none⟩) 4 4, .string s] W fun e w' => e = .returned (.bool (isField s)) ∧ W = w' :=
  (Tryz.slices_Contains_string g 0 4 4 fieldsL s W (by decide) (by omega) h.2).mono fun _ _ ⟨h1, h2⟩ => ⟨h1, h2.symm⟩
theorem has_tag (W : World) (g : Nat) (h : StrsAt tagsL W g) (s : ByteArray) :
    Calls Tryz.prog 35 #[.slice (some ⟨g, 0, none⟩) 6 6, .string s] W fun e w' => e = .returned (.bool (isTag s)) ∧ W = w' :=
  (Tryz.slices_Contains_string g 0 6 6 tagsL s W (by decide) (by omega) h.2).mono fun _ _ ⟨h1, h2⟩ => ⟨h1, h2.symm⟩
set_option maxRecDepth 100000 in
set_option maxHeartbeats 400000 in
theorem strange_any (f : S62) (w : World) : Calls Tryz.prog 34 #[fV f] w fun e w' => e = .returned (.bool (!isTag f.f0)) ∧ Below w.heap.size w w' := by
  have hb0 : Below w.heap.size w (w.alloc (.cells #[.string f.f0, .int .u8 f.f1, .int .i64 f.f2] 62)) := s_alloc (Below.refl _ _) _
  have hx0 : (w.alloc (.cells #[.string f.f0, .int .u8 f.f1, .int .i64 f.f2] 62)).heap[w.heap.size]? = some (.cells #[.string f.f0, .int .u8 f.f1, .int .i64 f.f2] 62 (0, 0)) := Array.getElem?_push_size
  obtain ⟨x0, x1, x2⟩ := cells3 hx0
  have ht := fun W g h => has_tag W g h f.f0
  generalize isTag f.f0 = TB at *
  have HT := Lib.hid ht
  have HB0 := Lib.hid hb0
  have HX0 := Lib.hid hx0
  clear hb0 hx0 ht
  go_enter Tryz.func34, Tryz.ntmps34
  go_wp2
  go_region_with (first
    | (go_at_call 36; refine (tags_any _).mono ?_; rintro e w1 ⟨g, rfl, hst, hb⟩; have HST := Lib.hid hst; have hb1 : Below (w.alloc (.cells #[.string f.f0, .int .u8 f.f1, .int .i64 f.f2] 62)).heap.size (w.alloc (.cells #[.string f.f0, .int .u8 f.f1, .int .i64 f.f2] 62)) w1 := s_trans (by first | exact Below.refl _ _ | exact s_drew (Below.refl _ _) | exact s_drewN (Below.refl _ _) _) hb; have HB1 := Lib.hid (s_trans HB0.out hb1); obtain ⟨x0, x1, x2⟩ := cells3 (block_on hb1 HX0.out); clear hb hb1 hst)
    | (go_at_call 35; refine (HT.out _ g (HST.out.below (by first | exact Below.refl _ _ | exact s_drew (Below.refl _ _) | exact s_drewN (Below.refl _ _) _))).mono ?_; rintro e w2 ⟨rfl, rfl⟩))
  all_goals
    go_wp2
    go_ret
    exact ⟨rfl, by first | exact HB1.out | exact s_drew HB1.out | exact s_drewN HB1.out _⟩
end Go.Proofs.YtmkalnljclhigaaGreat.Ch
