/- Functions that a law reaches, and what their Go code computes. No condition. (Written by a program of this session, a turned copy of the print.) -/
import Derived.Test.YtppficlcedgjhaaPDutyTellsz0
import Derived.Test.YtppficlcedgjhaaPDutyTellsz1
import Derived.Test.YtppficlcedgjhaaPDutyTellsz2
import Derived.Test.YtppficlcedgjhaaPDutyTellsz3
import Derived.Test.YtppficlcedgjhaaPDutyTellsz4
namespace Go.Proofs.Ytppficlcedgjhaa.PDutyTells
open Go.RowKit Go.Proofs.YtppficlcedgjhaaW.PrintWords Go.Proofs.YtppficlcedgjhaaW.PrintLast Go.Proofs.YtppficlcedgjhaaW.PrintMore
attribute [local go_sem] max2_int min2_int max_two min_two max_three min_three max_four min_four   -- for this text's walks alone
set_option linter.unusedVariables false
set_option linter.unusedSimpArgs false

end Go.Proofs.Ytppficlcedgjhaa.PDutyTells
