/- Functions that a law reaches, and what their Go code computes. No condition. (Written by a program of this session, a turned copy of the print.) -/
import Derived.Test.YtilfmlaojabloaaPGridTellsz0
import Derived.Test.YtilfmlaojabloaaPGridTellsz1
import Derived.Test.YtilfmlaojabloaaPGridTellsz2
import Derived.Test.YtilfmlaojabloaaPGridTellsz3
import Derived.Test.YtilfmlaojabloaaPGridTellsz4
namespace Go.Proofs.Ytilfmlaojabloaa.PGridTells
open Go.RowKit Go.Proofs.YtilfmlaojabloaaW.PrintWords Go.Proofs.YtilfmlaojabloaaW.PrintLast Go.Proofs.YtilfmlaojabloaaW.PrintMore
attribute [local go_sem] max2_int min2_int max_two min_two max_three min_three max_four min_four   -- for this text's walks alone
set_option linter.unusedVariables false
set_option linter.unusedSimpArgs false

end Go.Proofs.Ytilfmlaojabloaa.PGridTells
