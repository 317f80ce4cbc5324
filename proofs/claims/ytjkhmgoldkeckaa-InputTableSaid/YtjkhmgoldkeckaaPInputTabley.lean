/- All that the law InputTable reaches. No condition. -/
import Derived.Test.YtjkhmgoldkeckaaPInputTablex0
import Derived.Test.YtjkhmgoldkeckaaPInputTablex1
import Derived.Test.YtjkhmgoldkeckaaPInputTablex2
import Derived.Test.YtjkhmgoldkeckaaPInputTabley3
