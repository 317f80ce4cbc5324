/- All that the law MarkMore reaches. No condition. -/
import Derived.Test.YtmgdpkmmcmglfaaPMarkMorez0
import Derived.Test.YtmgdpkmmcmglfaaPMarkMorey1
