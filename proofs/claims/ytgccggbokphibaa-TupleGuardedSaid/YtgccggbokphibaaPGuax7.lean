-- SPLICED by sprint.py: out of the kit's printer, with some functions by this session's own texts. No printed file. Lean checks it.
import Derived.Test.YtgccggbokphibaaPGuax0
namespace Go.Proofs.Ytgccggbokphibaa.PGua
open Go.RowKit Go.Proofs.YtgccggbokphibaaW.PrintWords Go.Proofs.YtgccggbokphibaaW.PrintLast Go.Proofs.YtgccggbokphibaaW.PrintMore
attribute [local go_sem] max2_int min2_int max_two min_two max_three min_three max_four min_four   -- for this text's walks alone
set_option linter.unusedVariables false
set_option linter.unusedSimpArgs false

-- NOT PRINTED: function 4 (monikerlaw20_TupleGuarded)

end Go.Proofs.Ytgccggbokphibaa.PGua
