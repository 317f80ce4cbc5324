/- All that the law InputsEnd reaches. No condition. -/
import Derived.Test.YtkgjokidfbpnbaaPInputsEndz0
import Derived.Test.YtkgjokidfbpnbaaPInputsEndy1
