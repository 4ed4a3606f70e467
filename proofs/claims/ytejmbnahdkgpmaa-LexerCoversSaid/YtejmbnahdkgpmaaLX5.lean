/-
  A scope in which the run jumps to several labels; and what lexer.Lex computes.
-/
import Derived.Test.YtejmbnahdkgpmaaLX4
import Derived.WalkMore
import Derived.ScopeJumps
namespace Go.Proofs.Ytejmbnahdkgpmaa.LX
open Go.RowKit Go.Proofs.YtejmbnahdkgpmaaW.PrintWords
set_option linter.unusedVariables false
set_option linter.unusedSimpArgs false
set_option linter.unnecessarySimpa false

/-- As Q; by a goto to a label: what is asked there. -/
def jumpN (J : Nat → Act → World → Prop) (Q : Exit → Act → World → Prop) : Exit → Act → World → Prop
  | .goto l, a, w => J l a w
  | e, a, w => Q e a w

theorem wp_scope_jumpsN {P : Program} {a : Act} {w : World} {Q : Exit → Act → World → Prop} {c : Code} (J : Nat → Act → World → Prop) (rest : Nat → Code) (μ : Nat → Act → World → Nat)
    (hf : ∀ l a w, J l a w → findLabel c l = some (rest l)) (first : c.wp P (jumpN J Q) a w)
    (pass : ∀ l a w, J l a w → (rest l).wp P (jumpN (fun l' a' w' => J l' a' w' ∧ μ l' a' w' < μ l a w) Q) a w) : (Code.scope c).wp P Q a w := by
  intro b k cs
  have hg : ∀ l a w, J l a w → gotoIn l (.inScope c :: k) = some (.code (rest l) :: .inScope c :: k) := fun l a w h => by simp [gotoIn, hf l a w h]
  have key : ∀ n l a w, μ l a w = n → J l a w → ∃ e a' w', Q e a' w' ∧ Arrives P (lone (b.at a (.code (rest l) :: .inScope c :: k)) cs w) b k cs e a' w' := by
    intro n
    induction n using Nat.strongRecOn with
    | _ n ih =>
      intro l a w hn hJ
      obtain ⟨e, a₁, w₁, hq, harr⟩ := pass l a w hJ b (.inScope c :: k) cs
      cases e with
      | normal => exact ⟨.normal, a₁, w₁, hq, Steps.trans harr (.one step_inScope)⟩
      | exit id => exact ⟨.exit id, a₁, w₁, hq, fun k' hk => harr k' (by simp [exitTo, hk])⟩
      | goto l' =>
        obtain ⟨hJ', hlt⟩ := hq
        obtain ⟨e₂, a₂, w₂, hq₂, harr₂⟩ := ih _ (by omega) l' a₁ w₁ rfl hJ'
        exact ⟨e₂, a₂, w₂, hq₂, .of_steps (harr _ (hg _ _ _ hJ')) harr₂⟩
      | ret => exact ⟨_, a₁, w₁, hq, harr⟩
      | panic ch => exact ⟨_, a₁, w₁, hq, harr⟩
      | outgrown => exact ⟨_, a₁, w₁, hq, harr⟩
  obtain ⟨e, a₁, w₁, hq, harr⟩ := first b (.inScope c :: k) cs
  cases e with
  | normal => exact ⟨.normal, a₁, w₁, hq, .head step_scope (Steps.trans harr (.one step_inScope))⟩
  | exit id => exact ⟨.exit id, a₁, w₁, hq, fun k' hk => .head step_scope (harr k' (by simp [exitTo, hk]))⟩
  | goto l' =>
    obtain ⟨e₂, a₂, w₂, hq₂, harr₂⟩ := key _ l' a₁ w₁ rfl hq
    exact ⟨e₂, a₂, w₂, hq₂, .of_steps (.head step_scope (harr _ (hg _ _ _ hq))) harr₂⟩
  | ret => exact ⟨_, a₁, w₁, hq, .of_steps (.one step_scope) harr⟩
  | panic ch => exact ⟨_, a₁, w₁, hq, .of_steps (.one step_scope) harr⟩
  | outgrown => exact ⟨_, a₁, w₁, hq, .of_steps (.one step_scope) harr⟩

theorem wp_scope_two {P : Program} {a : Act} {w : World} {Q : Exit → Act → World → Prop} {c r0 r1 : Code} (J0 J1 : Act → World → Prop) (μ : Act → World → Nat) (h0 : findLabel c 0 = some (Code.skip.seq r0)) (h1 : findLabel c 1 = some r1)
    (first : (∀ a w, J0 a w → r0.wp P (jumpN (fun l a w => (l = 0 ∧ J0 a w) ∨ (l = 1 ∧ J1 a w)) Q) a w) → c.wp P (jumpN (fun l a w => (l = 0 ∧ J0 a w) ∨ (l = 1 ∧ J1 a w)) Q) a w)
    (pass0 : ∀ a w, J0 a w → r0.wp P (jumpN (fun l a' w' => (l = 0 ∧ J0 a' w' ∧ μ a' w' < μ a w) ∨ (l = 1 ∧ J1 a' w')) Q) a w)
    (pass1 : ∀ a w, J1 a w → r1.wp P (jumpN (fun _ _ _ => False) Q) a w) : (Code.scope c).wp P Q a w := by
  refine wp_scope_jumpsN (fun l a w => (l = 0 ∧ J0 a w) ∨ (l = 1 ∧ J1 a w)) (fun l => if l = 0 then Code.skip.seq r0 else r1) (fun l a w => if l = 0 then μ a w + 1 else 0) ?_ (first fun a w h => ?_) ?_
  · rintro l a w (⟨rfl, _⟩ | ⟨rfl, _⟩)
    · exact h0
    · exact h1
  · refine Code.wp_mono ?_ (pass0 a w h)
    intro e a' w' q
    cases e <;> first | exact q | (rcases q with ⟨rfl, q, _⟩ | ⟨rfl, q⟩; exact Or.inl ⟨rfl, q⟩; exact Or.inr ⟨rfl, q⟩)
  · rintro l a w (⟨rfl, h⟩ | ⟨rfl, h⟩)
    · refine wp_seq (wp_skip ?_)
      refine Code.wp_mono ?_ (pass0 a w h)
      intro e a' w' q
      cases e <;> first | exact q | (rcases q with ⟨rfl, q, hlt⟩ | ⟨rfl, q⟩; exact ⟨Or.inl ⟨rfl, q⟩, by simpa using hlt⟩; exact ⟨Or.inr ⟨rfl, q⟩, by simp⟩)
    · refine Code.wp_mono ?_ (pass1 a w h)
      intro e a' w' q
      cases e <;> first | exact q | exact q.elim


/-! ### the tokens -/
abbrev Tok := Int × Int × ByteArray × Int
def byt (s : ByteArray) (i : Nat) : Int := bt s i
def many (s : ByteArray) (k : Int) (i : Nat) : Nat := if k = 3 then 1 else runL k (s.data.toList.drop i)
def nOf (s : ByteArray) (k : Int) (i m : Nat) : Int := if k = 2 then numL 0 (s.extract i (i + m)).data.toList else 0
def lexF (s : ByteArray) : Nat → Nat → List Tok → Option (List Tok × Int × Int)
  | 0, _, _ => none
  | f + 1, i, acc =>
    let j := i + gapL false (s.data.toList.drop i)
    if j = s.size then some (acc, 0, 0)
    else if kind (byt s j) = 0 then some ([], j, 80)
    else if kind (byt s j) = 2 ∧ many s (kind (byt s j)) j > 18 then some ([], j, 80)
    else lexF s f (j + many s (kind (byt s j)) j) (acc ++ [(kind (byt s j), (j : Int), s.extract j (j + many s (kind (byt s j)) j), nOf s (kind (byt s j)) j (many s (kind (byt s j)) j))])
def lex (s : ByteArray) : Option (List Tok × Int × Int) := if s.size > 65536 then some ([], 0, 11) else lexF s (s.size + 1) 0 []

theorem extract_list (s : ByteArray) (i j : Nat) : (s.extract i j).data.toList = (s.data.toList.drop i).take (j - i) := by
  have h : (s.extract i j).data = s.data.extract i j := ByteArray.data_extract
  rw [h, Array.toList_extract]
theorem gap_extract (s : ByteArray) (i : Nat) : gap (s.extract i s.size) = gapL false (s.data.toList.drop i) := by
  unfold gap
  rw [extract_list, List.take_of_length_le]
  rw [List.length_drop, len_list]
  exact Nat.le_refl _
theorem run_extract (s : ByteArray) (k : Int) (i : Nat) : run (s.extract i s.size) k = runL k (s.data.toList.drop i) := by
  unfold run
  rw [extract_list, List.take_of_length_le]
  rw [List.length_drop, len_list]
  exact Nat.le_refl _
theorem many_eq (s : ByteArray) (k : Int) (i : Nat) : many s k i = if k = 3 then 1 else run (s.extract i s.size) k := by
  unfold many
  rw [run_extract]
theorem byt_at (s : ByteArray) (i : Nat) (h : i < s.size) : byt s i = ((s[i]'h).toNat : Int) := by
  unfold byt bt
  rw [dif_pos (by simpa using h)]
  simp
theorem byt_range (s : ByteArray) (i : Nat) : 0 ≤ byt s i ∧ byt s i < 256 := by
  unfold byt bt
  split
  · rename_i h
    have := (s[((i : Int)).toNat]'h).toNat_lt
    omega
  · omega
theorem kind_range (c : Int) : kind c = 0 ∨ kind c = 1 ∨ kind c = 2 ∨ kind c = 3 := by
  unfold kind
  split
  · simp
  · split
    · simp
    · split <;> simp
theorem gap_le (s : ByteArray) (i : Nat) (h : i ≤ s.size) : i + gapL false (s.data.toList.drop i) ≤ s.size := by
  have := gapL_le false (s.data.toList.drop i)
  rw [List.length_drop, len_list] at this
  omega
theorem many_pos (s : ByteArray) (i : Nat) (h : i < s.size) (hk : kind (byt s i) ≠ 0) : 1 ≤ many s (kind (byt s i)) i := by
  unfold many
  split
  · exact Nat.le_refl _
  · rw [drop_at s i h, runL, if_pos (by rw [byt_at s i h])]
    omega
theorem many_le (s : ByteArray) (k : Int) (i : Nat) (h : i < s.size) : i + many s k i ≤ s.size := by
  unfold many
  split
  · omega
  · have := runL_le k (s.data.toList.drop i)
    rw [List.length_drop, len_list] at this
    omega

theorem kind2 (c : UInt8) (h : kind c.toNat = 2) : digB c = true := by
  unfold kind at h
  unfold digB
  split at h
  · simp at h
  · split at h
    · rename_i h1
      simp
      omega
    · split at h <;> simp at h
theorem run_digits : ∀ l : List UInt8, (l.take (runL 2 l)).all digB = true
  | [] => rfl
  | c :: l => by
    unfold runL
    split
    · rename_i h
      rw [List.take_succ_cons, List.all_cons, kind2 c h, run_digits l]
      rfl
    · rfl
theorem digits_extract (s : ByteArray) (i : Nat) (hk : kind (byt s i) = 2) : digits (s.extract i (i + many s 2 i)) = true := by
  unfold digits many
  rw [if_neg (by decide), extract_list, Nat.add_sub_cancel_left]
  exact run_digits _

end Go.Proofs.Ytejmbnahdkgpmaa.LX
