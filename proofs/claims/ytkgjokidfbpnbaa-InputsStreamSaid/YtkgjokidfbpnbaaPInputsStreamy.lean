/- All that the law InputsStream reaches. No condition. -/
import Derived.Test.YtkgjokidfbpnbaaPInputsStreamz0
import Derived.Test.YtkgjokidfbpnbaaPInputsStreamy1
