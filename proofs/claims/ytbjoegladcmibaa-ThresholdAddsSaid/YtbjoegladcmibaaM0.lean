/-! Whole numbers of 128 bits in two halves: plain arithmetic, no Go. -/
namespace Go.Proofs.YtbjoegladcmibaaK
set_option linter.unusedVariables false
set_option linter.unusedSimpArgs false

def mB : Int := 18446744073709551616
def loB (s : Int) : Int := s % 18446744073709551616
def hiB (s : Int) : Int := (s / 18446744073709551616) % 18446744073709551616
def sumB (x y c : Int) : Int := (x + y + c) % 18446744073709551616
def carB (x y c : Int) : Int := (x + y + c) / 18446744073709551616
theorem lo_bd (s : Int) : 0 ≤ loB s ∧ loB s < 18446744073709551616 := by unfold loB; omega
theorem hi_bd (s : Int) : 0 ≤ hiB s ∧ hiB s < 18446744073709551616 := by unfold hiB; omega
theorem car_bd (x y c : Int) (hx : 0 ≤ x) (hx' : x < 18446744073709551616) (hy : 0 ≤ y) (hy' : y < 18446744073709551616) (hc : 0 ≤ c) (hc' : c ≤ 1) : 0 ≤ carB x y c ∧ carB x y c ≤ 1 := by unfold carB; omega
theorem plus_lo (x y : Int) : sumB (loB x) (loB y) 0 = loB (x + y) := by unfold sumB loB; omega
theorem plus_hi (x y : Int) : sumB (hiB x) (hiB y) (carB (loB x) (loB y) 0) = hiB (x + y) := by unfold sumB hiB carB loB; omega
theorem of_lo (a : Int) (h1 : -9223372036854775808 ≤ a) (h2 : a ≤ 9223372036854775807) (h : 0 ≤ a) : loB a = a ∧ hiB a = 0 := by unfold loB hiB; omega
theorem of_hi (a : Int) (h1 : -9223372036854775808 ≤ a) (h2 : a ≤ 9223372036854775807) (h : a < 0) : hiB a = 18446744073709551615 := by unfold hiB; omega
/-- What a wide number is as a number of 64 bits with a sign. -/
def narB (s : Int) : Int := (s + 9223372036854775808) % 18446744073709551616 - 9223372036854775808
theorem nar_in (s : Int) (h1 : -9223372036854775808 ≤ s) (h2 : s ≤ 9223372036854775807) : narB s = s := by unfold narB; omega
theorem nar_bd (s : Int) : -9223372036854775808 ≤ narB s ∧ narB s ≤ 9223372036854775807 := by unfold narB; omega
theorem nar_same (s : Int) (h1 : -170141183460469231731687303715884105728 ≤ s) (h2 : s < 170141183460469231731687303715884105728) (hl : loB s = loB (narB s)) (hh : hiB s = hiB (narB s)) : narB s = s := by
  unfold narB loB hiB at *
  omega

def maxM : Int := 4611686018427387904
def sumL (l : List Int) : Int := l.foldl (· + ·) 0
theorem sumL_nil : sumL [] = 0 := rfl
theorem foldl_add (l : List Int) (a : Int) : l.foldl (· + ·) a = a + l.foldl (· + ·) 0 := by
  induction l generalizing a with
  | nil => simp
  | cons x l ih => simp only [List.foldl_cons]; rw [ih (a + x), ih (0 + x)]; omega
theorem sumL_cons (x : Int) (l : List Int) : sumL (x :: l) = x + sumL l := by
  unfold sumL; simp only [List.foldl_cons]; rw [foldl_add]; omega
theorem sumL_snoc (l : List Int) (x : Int) : sumL (l ++ [x]) = sumL l + x := by
  unfold sumL; rw [List.foldl_append]; rfl
theorem sumL_append (l m : List Int) : sumL (l ++ m) = sumL l + sumL m := by
  induction l with
  | nil => simp [sumL_nil]
  | cons x l ih => rw [List.cons_append, sumL_cons, sumL_cons, ih]; omega
def mayM (a : Int) : Bool := decide (-4611686018427387904 ≤ a ∧ a ≤ 4611686018427387904)
theorem mayM_iff (a : Int) : mayM a = true ↔ -4611686018427387904 ≤ a ∧ a ≤ 4611686018427387904 := by unfold mayM; exact decide_eq_true_iff
theorem mayM_not (a : Int) : mayM a = false ↔ ¬ (-4611686018427387904 ≤ a ∧ a ≤ 4611686018427387904) := by unfold mayM; exact decide_eq_false_iff_not
theorem sumL_bd (l : List Int) (h : ∀ x ∈ l, mayM x = true) : -(4611686018427387904 * (l.length : Int)) ≤ sumL l ∧ sumL l ≤ 4611686018427387904 * (l.length : Int) := by
  induction l with
  | nil => simp [sumL_nil]
  | cons x l ih =>
    have h1 := (mayM_iff x).1 (h x (by simp))
    have h2 := ih (fun y hy => h y (by simp [hy]))
    rw [sumL_cons]
    simp only [List.length_cons]
    omega

/-- What Sum tells: the value, and the error's number. -/
def sumV (l : List Int) : Int := if l.all mayM = true then (if mayM (sumL l) = true then sumL l else 0) else 0
def sumE (l : List Int) : Int := if l.all mayM = true then (if mayM (sumL l) = true then 0 else 3) else 2

end Go.Proofs.YtbjoegladcmibaaK
