/- All that the law InputGuess reaches. No condition. -/
import Derived.Test.YtjkhmgoldkeckaaPInputGuessx0
import Derived.Test.YtjkhmgoldkeckaaPInputGuessx1
import Derived.Test.YtjkhmgoldkeckaaPInputGuessx2
import Derived.Test.YtjkhmgoldkeckaaPInputGuessy3
