/- All that the law DutyStranger reaches. No condition. -/
import Derived.Test.YtppficlcedgjhaaPDutyStrangerz0
import Derived.Test.YtppficlcedgjhaaPDutyStrangerz1
import Derived.Test.YtppficlcedgjhaaPDutyStrangerz2
import Derived.Test.YtppficlcedgjhaaPDutyStrangery3
