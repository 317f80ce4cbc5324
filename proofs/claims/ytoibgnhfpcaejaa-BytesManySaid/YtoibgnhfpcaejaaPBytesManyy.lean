/- All that the law BytesMany reaches. No condition. -/
import Derived.Test.YtoibgnhfpcaejaaPBytesManyz0
import Derived.Test.YtoibgnhfpcaejaaPBytesManyy1
