/- All that the law CheckParts reaches. No condition. -/
import Derived.Test.YtbaboeodklgpeaaPCheckPartsz0
import Derived.Test.YtbaboeodklgpeaaPCheckPartsy1
import Derived.Test.YtbaboeodklgpeaaPCheckPartsy2
