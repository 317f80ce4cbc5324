/- All that the law CheckTurned reaches. No condition. -/
import Derived.Test.YtbaboeodklgpeaaPCheckTurnedz0
import Derived.Test.YtbaboeodklgpeaaPCheckTurnedy1
import Derived.Test.YtbaboeodklgpeaaPCheckTurnedy2
