/- All that the law MarkTells reaches. No condition. -/
import Derived.Test.YtmgdpkmmcmglfaaPMarkTellsz0
import Derived.Test.YtmgdpkmmcmglfaaPMarkTellsz1
import Derived.Test.YtmgdpkmmcmglfaaPMarkTellsz2
import Derived.Test.YtmgdpkmmcmglfaaPMarkTellsz3
import Derived.Test.YtmgdpkmmcmglfaaPMarkTellsz4
import Derived.Test.YtmgdpkmmcmglfaaPMarkTellsz5
import Derived.Test.YtmgdpkmmcmglfaaPMarkTellsy6
import Derived.Test.YtmgdpkmmcmglfaaPMarkTellsy7
