import Derived.Test.YthnhboimcidhgaaGreatDoorEvQr
import Derived.Test.YthnhboimcidhgaaGreatDoorEvTy
namespace Go.Aug
open Go
end Go.Aug
