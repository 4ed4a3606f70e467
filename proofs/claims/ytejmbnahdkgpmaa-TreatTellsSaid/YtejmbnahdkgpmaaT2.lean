import Derived.Test.YtejmbnahdkgpmaaT1
namespace Go.Proofs.Ytejmbnahdkgpmaa
set_option linter.unusedVariables false
set_option linter.unusedSimpArgs false
open Go.RowKit

def soldS (k f t p l : Int) (b o : Bool) : Int :=
  if k = 1 ∨ k = 7 then (if f ≠ 0 then 10 else if t = 2 then 5 else if k = 7 then 3 else if t = 0 then 1 else farS b o 4)
  else if k = 2 ∧ p = 1 ∧ b = false then 1
  else if k = 2 ∨ k = 6 then (if p = 2 then 7 else if p = 0 then 1 else farS b o 6)
  else if l = 0 then 1 else 10


end Go.Proofs.Ytejmbnahdkgpmaa
