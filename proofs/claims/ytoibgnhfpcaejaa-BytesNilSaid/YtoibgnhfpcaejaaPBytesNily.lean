/- All that the law BytesNil reaches. No condition. -/
import Derived.Test.YtoibgnhfpcaejaaPBytesNilz0
import Derived.Test.YtoibgnhfpcaejaaPBytesNily1
