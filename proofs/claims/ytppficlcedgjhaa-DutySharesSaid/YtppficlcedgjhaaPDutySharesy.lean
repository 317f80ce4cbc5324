/- All that the law DutyShares reaches. No condition. -/
import Derived.Test.YtppficlcedgjhaaPDutySharesz0
import Derived.Test.YtppficlcedgjhaaPDutySharesz1
import Derived.Test.YtppficlcedgjhaaPDutySharesz2
import Derived.Test.YtppficlcedgjhaaPDutySharesy3
