import Derived.Test.YtejmbnahdkgpmaaT5
namespace Go.Proofs.Ytejmbnahdkgpmaa
set_option linter.unusedVariables false
set_option linter.unusedSimpArgs false

def finE (k : Fin 7) (f t p l : Fin 3) (s x b o : Bool) (n : Fin 14) : Bool :=
  holdsB (n.val + 1 : Nat) s (k.val + 1 : Nat) x (f.val : Nat) (t.val : Nat) (p.val : Nat) (l.val : Nat) b o == decide (((n.val + 1 : Nat) : Int) = ofS s (k.val + 1 : Nat) x (f.val : Nat) (t.val : Nat) (p.val : Nat) (l.val : Nat) b o)

set_option maxRecDepth 100000 in
theorem fin_all : ∀ (k : Fin 7) (n : Fin 14) (f t p l : Fin 3) (s x b o : Bool), finE k f t p l s x b o n = true := by
  decide +kernel

end Go.Proofs.Ytejmbnahdkgpmaa
