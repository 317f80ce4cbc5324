/- All that the law BytesLeast reaches. No condition. -/
import Derived.Test.YtoibgnhfpcaejaaPBytesLeastz0
import Derived.Test.YtoibgnhfpcaejaaPBytesLeastz1
import Derived.Test.YtoibgnhfpcaejaaPBytesLeasty2
