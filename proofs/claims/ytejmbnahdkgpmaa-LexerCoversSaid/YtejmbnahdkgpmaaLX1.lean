/-
  lexer.kind, lexer.run, lexer.number, lexer.gap: what they compute, as plain functions of a text's bytes, and their contracts.
-/
import Derived.Test.YtejmbnahdkgpmaaProg
import Derived.Below
import Derived.Lib.Hide
import Derived.Lib.OthersKept
import Derived.Lib.Bytealg
import Derived.Laws.RangeAny
import Derived.Laws.RangeString
import Derived.Tactics
import Derived.Tactics2
import Derived.WalkKit
import Derived.RowKit3
import Derived.KernelRfl
import Derived.BigCall
import Derived.Test.YtejmbnahdkgpmaaWWords
namespace Go.Proofs.Ytejmbnahdkgpmaa.LX
open Go.RowKit Go.Proofs.YtejmbnahdkgpmaaW.PrintWords
set_option linter.unusedVariables false
set_option linter.unusedSimpArgs false
set_option linter.unnecessarySimpa false

def sgn (x : Int) : Bool := x == 43 || x == 45 || x == 40 || x == 41 || x == 44 || x == 59 || x == 61 || x == 60 || x == 62
def kind (c : Int) : Int := if 97 ≤ c ∧ c ≤ 122 then 1 else if 48 ≤ c ∧ c ≤ 57 then 2 else if c < 128 ∧ sgn c = true then 3 else 0

theorem sgn_index : ∀ x : Fin 256, decide (Lib.indexByte [43, 45, 40, 41, 44, 59, 61, 60, 62] (x.val.toUInt8) ≥ 0) = sgn (x.val : Int) := by decide +kernel

theorem sgn_of (c : Int) (h0 : 0 ≤ c) (h1 : c < 256) : (0 ≤ Lib.indexByte [43, 45, 40, 41, 44, 59, 61, 60, 62] (UInt8.ofNat c.toNat)) ↔ sgn c = true := by
  have h := sgn_index ⟨c.toNat, by omega⟩
  have e2 : ((c.toNat : Nat) : Int) = c := by omega
  simp only [e2] at h
  rw [← h]
  simp

theorem index_calls (a0 : ByteArray) (c : Int) (w : World) : Calls Try.prog 58 #[.string a0, .int .u8 c] w fun e w' => e = .returned (.int .i64 (Lib.indexByte a0.data.toList c.toNat.toUInt8)) ∧ w' = w := by
  have hx : ∀ wx, (callFunc 68 #[.string a0, .int .u8 c]).run Try.prog wx = .ok (.value (.int .i64 (Lib.indexByte a0.data.toList c.toNat.toUInt8))) wx := by
    intro wx
    rw [run_callFunc_extern Try.func68 (by kernel_rfl) (by kernel_rfl) (by kernel_rfl) (e := Extern.BytealgIndexByte.indexByte) (by kernel_rfl), Lib.run_indexByteString]
    rfl
  go_enter Try.func58, Try.ntmps58
  go_wp2
  go_ret
  exact ⟨rfl, rfl⟩

theorem kind_calls (c : Int) (h0 : 0 ≤ c) (w : World) : Calls Try.prog 47 #[.int .i32 c] w fun e w' => e = .returned (.int .i64 (kind c)) ∧ Drawn0 w w' := by
  have H := Lib.hid (sgn_of c h0)
  have H0 := Lib.hid h0
  generalize hr : kind c = r
  have HR := Lib.hid hr
  clear hr h0
  go_enter Try.func47, Try.ntmps47
  go_wp2_with (go_at_call 58; refine (index_calls _ _ _).mono ?_; rintro e w1 ⟨rfl, rfl⟩)
  all_goals
    have hr := HR.out
    have h0 := H0.out
    unfold kind at hr
    first
      | (exfalso; omega)
      | (rename_i hz; (try rw [Int.emod_eq_of_lt h0 (by omega)] at hz); have hs := H.out (by omega); rw [hs] at hz; rw [if_neg (by omega), if_neg (by omega), if_pos ⟨by omega, hz⟩] at hr; subst hr; go_ret; exact ⟨rfl, Drawn0.refl _⟩)
      | (rename_i hz; (try rw [Int.emod_eq_of_lt h0 (by omega)] at hz); have hs := H.out (by omega); rw [if_neg (by omega), if_neg (by omega), if_neg (fun h => by have := hs.2 h.2; omega)] at hr; subst hr; go_ret; exact ⟨rfl, Drawn0.refl _⟩)
      | (rw [if_pos (by omega)] at hr; subst hr; go_ret; exact ⟨rfl, Drawn0.refl _⟩)
      | (rw [if_neg (by omega), if_pos (by omega)] at hr; subst hr; go_ret; exact ⟨rfl, Drawn0.refl _⟩)
      | (rw [if_neg (by omega), if_neg (by omega), if_neg (by omega)] at hr; subst hr; go_ret; exact ⟨rfl, Drawn0.refl _⟩)

/-! ### run -/
def runL (want : Int) : List UInt8 → Nat
  | [] => 0
  | c :: l => if kind c.toNat = want then runL want l + 1 else 0
def run (s : ByteArray) (want : Int) : Nat := runL want s.data.toList

theorem drop_at (s : ByteArray) (pos : Nat) (h : pos < s.size) : s.data.toList.drop pos = (s[pos]'h) :: s.data.toList.drop (pos + 1) := by
  have hl : pos < s.data.toList.length := by rw [Array.length_toList]; exact h
  rw [List.drop_eq_getElem_cons hl]
  rfl
theorem drop_end (s : ByteArray) (pos : Nat) (h : ¬ pos < s.size) : s.data.toList.drop pos = [] := by
  apply List.drop_eq_nil_of_le
  rw [Array.length_toList]
  exact Nat.le_of_not_lt h
theorem len_list (s : ByteArray) : s.data.toList.length = s.size := Array.length_toList

theorem kind_high (c : Int) (h : 128 ≤ c) : kind c = 0 := by
  unfold kind
  rw [if_neg (by omega), if_neg (by omega), if_neg (by omega)]

theorem runL_le (want : Int) : ∀ l : List UInt8, runL want l ≤ l.length
  | [] => Nat.le_refl _
  | c :: l => by
    have := runL_le want l
    unfold runL
    split <;> simp <;> omega

set_option maxHeartbeats 4000000 in
set_option maxRecDepth 1000000 in
theorem run_calls (a0 : ByteArray) (a1 : Int) (h : a1 = 1 ∨ a1 = 2) (w : World) : Calls Try.prog 48 #[.string a0, .int .i64 a1] w fun e w' => e = .returned (.int .i64 (run a0 a1 : Nat)) ∧ Below w.heap.size w w' := by
  have H1 := Lib.hid h
  clear h
  generalize hr : (run a0 a1) = r
  have HR := Lib.hid hr
  clear hr
  go_enter Try.func48, Try.ntmps48
  go_wp2
  go_loopw [] (fun wr => ∃ (pos : Nat), wr.heap[w.heap.size]? = some (.stringIter a0 pos) ∧ Hid (Below w.heap.size w wr) ∧ Hid (pos ≤ a0.size) ∧ Hid (pos + runL a1 (a0.data.toList.drop pos) = r)) (fun wr => a0.size - wr.iterPos w.heap.size)
  case atStart =>
    refine ⟨0, ?_, Lib.hid ((Below.refl _ w).alloc (Nat.le_refl _) _), Lib.hid (Nat.zero_le _), Lib.hid ?_⟩
    · have := World.iter_heap w a0 0
      simpa using this
    · rw [← HR.out]
      simp [run]
  case round =>
    obtain ⟨pos, hit, hbw, hle, hacc⟩ := hrel
    have hsz : w.heap.size < wr.heap.size := (Array.getElem?_eq_some_iff.1 hit).1
    by_cases hp : pos < a0.size
    · by_cases ha : (a0[pos]'hp).toNat < 128
      · have hnx : ∀ ty, (Instr.next (.pointer (some ⟨w.heap.size, 0, none⟩)) true ty).run Try.prog wr = _ := fun ty => Lib.run_next_ascii_at wr w.heap.size a0 pos ty hit hp ha
        have hit2 := Lib.iterAt_heap wr w.heap.size a0 pos (pos + 1) hit
        have hbw2 := Lib.hid (Lib.below_iterAt hbw.out (k := w.heap.size) (Nat.le_refl _) a0 (pos + 1))
        have hd := Lib.hid (drop_at a0 pos hp)
        generalize hc : (a0[pos]'hp) = c at *
        have HC := Lib.hid hc
        clear hc
        have hk : ∀ wx, Calls Try.prog 47 #[.int .i32 (c.toNat : Int)] wx _ := fun wx => kind_calls (c.toNat : Int) (by omega) wx
        generalize hkk : kind (c.toNat : Int) = kc at hk
        have HK := Lib.hid hkk
        clear hkk
        go_wp2_with (go_at_call 47; refine (hk _).mono ?_; rintro e w1 ⟨rfl, nd, rfl⟩)
        · rename_i hne
          go_ret
          have hne' : kc ≠ a1 := by simpa using hne
          have hacc := hacc.out
          rw [hd.out] at hacc
          simp only [runL, HK.out, if_neg hne'] at hacc
          have e : pos = r := by omega
          subst e
          exact ⟨rfl, by repeat (first | exact hbw2.out | apply pw_below_drewN)⟩
        · rename_i heq
          have heq' : kc = a1 := by simpa using heq
          go_roundw
          case rel =>
            refine ⟨pos + 1, hit2, Lib.hid (by repeat (first | exact hbw2.out | apply pw_below_drewN)), Lib.hid (by omega), Lib.hid ?_⟩
            have hacc := hacc.out
            rw [hd.out] at hacc
            simp only [runL, HK.out, if_pos heq'] at hacc
            omega
          case measure =>
            have h2 := hit2
            simp only [World.iterPos, hit]
            first
              | (rw [show (wr.iterAt w.heap.size a0 (pos + 1)).heap[w.heap.size]? = some (.stringIter a0 (pos + 1)) from hit2]; simp only []; omega)
              | (simp only [h2]; omega)
              | (simp [h2]; omega)
      · have hnx : ∀ ty, (Instr.next (.pointer (some ⟨w.heap.size, 0, none⟩)) true ty).run Try.prog wr = _ := fun ty => Lib.run_next_any_at wr w.heap.size a0 pos ty hit hp
        have hhi := decode_high a0 pos hp (by omega)
        have hd1 := decode_le a0 pos
        generalize hdec : Utf8.decode a0 pos = dc at *
        have hbw2 := Lib.hid (Lib.below_iterAt hbw.out (k := w.heap.size) (Nat.le_refl _) a0 (pos + dc.2))
        have hk : ∀ wx, Calls Try.prog 47 #[.int .i32 (dc.1 : Int)] wx _ := fun wx => kind_calls (dc.1 : Int) (by omega) wx
        rw [kind_high _ (by omega)] at hk
        go_wp2_with (go_at_call 47; refine (hk _).mono ?_; rintro e w1 ⟨rfl, nd, rfl⟩)
        · rename_i hne
          go_ret
          have hacc := hacc.out
          rw [drop_at a0 pos hp] at hacc
          have hk0 : kind ((a0[pos]'hp).toNat : Int) ≠ a1 := by
            rw [kind_high _ (by omega)]
            have := H1.out
            omega
          simp only [runL, if_neg hk0] at hacc
          have e : pos = r := by omega
          subst e
          exact ⟨rfl, by repeat (first | exact hbw2.out | apply pw_below_drewN)⟩
        · exfalso
          rename_i heq
          have heq' : (0 : Int) = a1 := by simpa using heq
          have := H1.out
          omega
    · have hnx : ∀ ty, (Instr.next (.pointer (some ⟨w.heap.size, 0, none⟩)) true ty).run Try.prog wr = _ := fun ty => Lib.run_next_end_at wr w.heap.size a0 pos ty hit hp
      go_wp2
      go_ret
      have hacc := hacc.out
      rw [drop_end a0 pos hp] at hacc
      have := hle.out
      refine ⟨?_, hbw.out⟩
      simp only [runL] at hacc
      have e : a0.size = r := by omega
      rw [e]
      rfl

end Go.Proofs.Ytejmbnahdkgpmaa.LX
