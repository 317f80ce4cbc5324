/- All that the law MarkOrder reaches. No condition. -/
import Derived.Test.YtmgdpkmmcmglfaaPMarkOrderz0
import Derived.Test.YtmgdpkmmcmglfaaPMarkOrdery1
