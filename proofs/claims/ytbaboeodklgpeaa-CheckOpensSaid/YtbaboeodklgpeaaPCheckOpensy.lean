/- All that the law CheckOpens reaches. No condition. -/
import Derived.Test.YtbaboeodklgpeaaPCheckOpensz0
import Derived.Test.YtbaboeodklgpeaaPCheckOpensy1
