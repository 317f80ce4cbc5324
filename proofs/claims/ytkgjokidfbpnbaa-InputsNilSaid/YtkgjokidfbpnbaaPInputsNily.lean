/- All that the law InputsNil reaches. No condition. -/
import Derived.Test.YtkgjokidfbpnbaaPInputsNilz0
import Derived.Test.YtkgjokidfbpnbaaPInputsNily1
