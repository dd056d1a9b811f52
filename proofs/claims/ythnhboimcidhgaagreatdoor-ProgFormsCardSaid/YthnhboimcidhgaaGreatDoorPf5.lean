import Derived.Test.YthnhboimcidhgaaGreatDoorPf1
namespace Go.Proofs.YthnhboimcidhgaaGreatDoor.progForms
open Go Go.Aug
set_option maxRecDepth 10000000
theorem at14 (w:Int):at_ 14 w=true:=by kernel_rfl
theorem at15 (w:Int):at_ 15 w=true:=by kernel_rfl
theorem at16 (w:Int):at_ 16 w=true:=by kernel_rfl
theorem at17 (w:Int):at_ 17 w=true:=by kernel_rfl
theorem at18 (w:Int):at_ 18 w=true:=by kernel_rfl
end Go.Proofs.YthnhboimcidhgaaGreatDoor.progForms
