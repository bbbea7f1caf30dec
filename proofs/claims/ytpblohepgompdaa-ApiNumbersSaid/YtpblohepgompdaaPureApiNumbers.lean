/- ApiNumbers: each constant of package api has its number: the printed function answers true without a case; no condition. -/
import Derived.Test.YtpblohepgompdaaPApiNumbersx1
namespace Go.Proofs.Ytpblohepgompdaa.Pure
open Go.RowKit Go.Proofs.Ytpblohepgompdaa.PApiNumbers Go.Proofs.YtpblohepgompdaaW.PrintWords Go.Proofs.YtpblohepgompdaaW.PrintLast Go.Proofs.YtpblohepgompdaaW.PrintMore
set_option linter.unusedVariables false
set_option linter.unusedSimpArgs false

theorem ApiNumbers : payofftop_ApiNumbers.Pure := rfl

end Go.Proofs.Ytpblohepgompdaa.Pure
