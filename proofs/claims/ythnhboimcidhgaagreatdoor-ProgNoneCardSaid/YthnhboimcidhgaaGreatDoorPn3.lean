import Derived.Test.YthnhboimcidhgaaGreatDoorPn1
namespace Go.Proofs.YthnhboimcidhgaaGreatDoor.progNone
open Go Go.Aug
set_option maxRecDepth 10000000
theorem at4 (w:Int):at_ 4 w=true:=by kernel_rfl
theorem at5 (w:Int):at_ 5 w=true:=by kernel_rfl
theorem at6 (w:Int):at_ 6 w=true:=by kernel_rfl
theorem at7 (w:Int):at_ 7 w=true:=by kernel_rfl
end Go.Proofs.YthnhboimcidhgaaGreatDoor.progNone
