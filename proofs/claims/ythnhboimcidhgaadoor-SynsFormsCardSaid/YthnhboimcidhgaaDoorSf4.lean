import Derived.Test.YthnhboimcidhgaaDoorSf1
namespace Go.Proofs.YthnhboimcidhgaaDoor.synsForms
open Go Go.Aug
set_option maxRecDepth 10000000
theorem at21 (w:Int):at_ 21 w=true:=by kernel_rfl
theorem at22 (w:Int):at_ 22 w=true:=by kernel_rfl
theorem at23 (w:Int):at_ 23 w=true:=by kernel_rfl
theorem at24 (w:Int):at_ 24 w=true:=by kernel_rfl
theorem at25 (w:Int):at_ 25 w=true:=by kernel_rfl
theorem at26 (w:Int):at_ 26 w=true:=by kernel_rfl
theorem at27 (w:Int):at_ 27 w=true:=by kernel_rfl
theorem at28 (w:Int):at_ 28 w=true:=by kernel_rfl
theorem at29 (w:Int):at_ 29 w=true:=by kernel_rfl
theorem at30 (w:Int):at_ 30 w=true:=by kernel_rfl
end Go.Proofs.YthnhboimcidhgaaDoor.synsForms
