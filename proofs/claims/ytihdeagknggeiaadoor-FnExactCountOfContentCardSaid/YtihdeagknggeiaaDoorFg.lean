import Derived.Test.YtihdeagknggeiaaDoorFf
set_option autoImplicit false
set_option linter.unusedSimpArgs false
set_option linter.unusedVariables false
namespace Go.Proofs.YtihdeagknggeiaaDoor
open Go.Den
/-- The code for an alphabet and words. -/
def wcode (a ok : Bool) : Int := if a then (if ok then 0 else 2) else 1
end Go.Proofs.YtihdeagknggeiaaDoor
