import Derived.Test.YthnhboimcidhgaaGreatDoorPn1
namespace Go.Proofs.YthnhboimcidhgaaGreatDoor.progNone
open Go Go.Aug
set_option maxRecDepth 10000000
theorem at0 (w:Int):at_ 0 w=true:=by kernel_rfl
theorem at1 (w:Int):at_ 1 w=true:=by kernel_rfl
theorem at2 (w:Int):at_ 2 w=true:=by kernel_rfl
theorem at3 (w:Int):at_ 3 w=true:=by kernel_rfl
end Go.Proofs.YthnhboimcidhgaaGreatDoor.progNone
