/- All that the law CheckTells reaches. No condition. -/
import Derived.Test.YtbaboeodklgpeaaPCheckTellsz0
import Derived.Test.YtbaboeodklgpeaaPCheckTellsy1
import Derived.Test.YtbaboeodklgpeaaPCheckTellsy2
