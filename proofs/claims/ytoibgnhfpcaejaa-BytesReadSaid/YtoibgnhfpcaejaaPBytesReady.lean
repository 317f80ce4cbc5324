/- All that the law BytesRead reaches. No condition. -/
import Derived.Test.YtoibgnhfpcaejaaPBytesReadz0
import Derived.Test.YtoibgnhfpcaejaaPBytesReady1
