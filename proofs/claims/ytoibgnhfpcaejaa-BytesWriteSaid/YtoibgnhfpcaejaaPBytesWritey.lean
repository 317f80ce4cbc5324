/- All that the law BytesWrite reaches. No condition. -/
import Derived.Test.YtoibgnhfpcaejaaPBytesWritez0
import Derived.Test.YtoibgnhfpcaejaaPBytesWritey1
