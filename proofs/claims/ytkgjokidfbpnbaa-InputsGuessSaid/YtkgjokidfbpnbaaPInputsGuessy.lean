/- All that the law InputsGuess reaches. No condition. -/
import Derived.Test.YtkgjokidfbpnbaaPInputsGuessz0
import Derived.Test.YtkgjokidfbpnbaaPInputsGuessy1
