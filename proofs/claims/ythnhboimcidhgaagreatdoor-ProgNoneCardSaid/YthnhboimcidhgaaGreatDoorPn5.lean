import Derived.Test.YthnhboimcidhgaaGreatDoorPn1
namespace Go.Proofs.YthnhboimcidhgaaGreatDoor.progNone
open Go Go.Aug
set_option maxRecDepth 10000000
theorem at12 (w:Int):at_ 12 w=true:=by kernel_rfl
theorem at13 (w:Int):at_ 13 w=true:=by kernel_rfl
theorem at14 (w:Int):at_ 14 w=true:=by kernel_rfl
theorem at15 (w:Int):at_ 15 w=true:=by kernel_rfl
end Go.Proofs.YthnhboimcidhgaaGreatDoor.progNone
