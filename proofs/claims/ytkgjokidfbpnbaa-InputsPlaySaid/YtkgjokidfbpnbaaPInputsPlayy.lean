/- All that the law InputsPlay reaches. No condition. -/
import Derived.Test.YtkgjokidfbpnbaaPInputsPlayz0
import Derived.Test.YtkgjokidfbpnbaaPInputsPlayy1
