import Derived.Test.YthnhboimcidhgaaGreatDoorPf1
namespace Go.Proofs.YthnhboimcidhgaaGreatDoor.progForms
open Go Go.Aug
set_option maxRecDepth 10000000
theorem at24 (w:Int):at_ 24 w=true:=by kernel_rfl
theorem at25 (w:Int):at_ 25 w=true:=by kernel_rfl
theorem at26 (w:Int):at_ 26 w=true:=by kernel_rfl
theorem at27 (w:Int):at_ 27 w=true:=by kernel_rfl
theorem at28 (w:Int):at_ 28 w=true:=by kernel_rfl
end Go.Proofs.YthnhboimcidhgaaGreatDoor.progForms
