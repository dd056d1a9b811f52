import Derived.Test.YthnhboimcidhgaaGreatDoorPf1
namespace Go.Proofs.YthnhboimcidhgaaGreatDoor.progForms
open Go Go.Aug
set_option maxRecDepth 10000000
theorem at19 (w:Int):at_ 19 w=true:=by kernel_rfl
theorem at20 (w:Int):at_ 20 w=true:=by kernel_rfl
theorem at21 (w:Int):at_ 21 w=true:=by kernel_rfl
theorem at22 (w:Int):at_ 22 w=true:=by kernel_rfl
theorem at23 (w:Int):at_ 23 w=true:=by kernel_rfl
end Go.Proofs.YthnhboimcidhgaaGreatDoor.progForms
