/- All that the law InputsOrder reaches. No condition. -/
import Derived.Test.YtkgjokidfbpnbaaPInputsOrderz0
import Derived.Test.YtkgjokidfbpnbaaPInputsOrdery1
