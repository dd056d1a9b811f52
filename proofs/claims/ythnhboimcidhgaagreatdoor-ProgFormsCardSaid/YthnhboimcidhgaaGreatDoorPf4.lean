import Derived.Test.YthnhboimcidhgaaGreatDoorPf1
namespace Go.Proofs.YthnhboimcidhgaaGreatDoor.progForms
open Go Go.Aug
set_option maxRecDepth 10000000
theorem at9 (w:Int):at_ 9 w=true:=by kernel_rfl
theorem at10 (w:Int):at_ 10 w=true:=by kernel_rfl
theorem at11 (w:Int):at_ 11 w=true:=by kernel_rfl
theorem at12 (w:Int):at_ 12 w=true:=by kernel_rfl
theorem at13 (w:Int):at_ 13 w=true:=by kernel_rfl
end Go.Proofs.YthnhboimcidhgaaGreatDoor.progForms
