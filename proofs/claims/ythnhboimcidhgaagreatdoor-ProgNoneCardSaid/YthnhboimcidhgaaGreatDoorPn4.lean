import Derived.Test.YthnhboimcidhgaaGreatDoorPn1
namespace Go.Proofs.YthnhboimcidhgaaGreatDoor.progNone
open Go Go.Aug
set_option maxRecDepth 10000000
theorem at8 (w:Int):at_ 8 w=true:=by kernel_rfl
theorem at9 (w:Int):at_ 9 w=true:=by kernel_rfl
theorem at10 (w:Int):at_ 10 w=true:=by kernel_rfl
theorem at11 (w:Int):at_ 11 w=true:=by kernel_rfl
end Go.Proofs.YthnhboimcidhgaaGreatDoor.progNone
