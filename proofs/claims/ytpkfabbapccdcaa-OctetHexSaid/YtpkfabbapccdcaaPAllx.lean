-- SPLICED by sprint.py: out of the kit's printer, with some functions by this session's own texts. No printed file. Lean checks it.
import Derived.Test.YtpkfabbapccdcaaPAllx0
import Derived.Test.YtpkfabbapccdcaaPAllx1
import Derived.Test.YtpkfabbapccdcaaPAllx2
import Derived.Test.YtpkfabbapccdcaaPAllx3
import Derived.Test.YtpkfabbapccdcaaPAllx4
import Derived.Test.YtpkfabbapccdcaaPAllx5
namespace Go.Proofs.Ytpkfabbapccdcaa.PAll
open Go.RowKit Go.Proofs.YtpkfabbapccdcaaW.PrintWords Go.Proofs.YtpkfabbapccdcaaW.PrintLast Go.Proofs.YtpkfabbapccdcaaW.PrintMore
attribute [local go_sem] max2_int min2_int max_two min_two max_three min_three max_four min_four   -- for this text's walks alone
set_option linter.unusedVariables false
set_option linter.unusedSimpArgs false

end Go.Proofs.Ytpkfabbapccdcaa.PAll
