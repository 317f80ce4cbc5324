/- All that the law MarkAll reaches. No condition. -/
import Derived.Test.YtmgdpkmmcmglfaaPMarkAllz0
import Derived.Test.YtmgdpkmmcmglfaaPMarkAlly1
