import Derived.Test.YthnhboimcidhgaaDoorSc1
namespace Go.Proofs.YthnhboimcidhgaaDoor.scriForms
open Go Go.Aug
set_option maxRecDepth 10000000
theorem at16 (w:Int):at_ 16 w=true:=by kernel_rfl
theorem at17 (w:Int):at_ 17 w=true:=by kernel_rfl
theorem at18 (w:Int):at_ 18 w=true:=by kernel_rfl
theorem at19 (w:Int):at_ 19 w=true:=by kernel_rfl
theorem at20 (w:Int):at_ 20 w=true:=by kernel_rfl
theorem at21 (w:Int):at_ 21 w=true:=by kernel_rfl
theorem at22 (w:Int):at_ 22 w=true:=by kernel_rfl
theorem at23 (w:Int):at_ 23 w=true:=by kernel_rfl
theorem at24 (w:Int):at_ 24 w=true:=by kernel_rfl
end Go.Proofs.YthnhboimcidhgaaDoor.scriForms
