import Derived.Test.YthnhboimcidhgaaDoorSf1
namespace Go.Proofs.YthnhboimcidhgaaDoor.synsForms
open Go Go.Aug
set_option maxRecDepth 10000000
theorem at10 (w:Int):at_ 10 w=true:=by kernel_rfl
theorem at11 (w:Int):at_ 11 w=true:=by kernel_rfl
theorem at12 (w:Int):at_ 12 w=true:=by kernel_rfl
theorem at13 (w:Int):at_ 13 w=true:=by kernel_rfl
theorem at14 (w:Int):at_ 14 w=true:=by kernel_rfl
theorem at15 (w:Int):at_ 15 w=true:=by kernel_rfl
theorem at16 (w:Int):at_ 16 w=true:=by kernel_rfl
theorem at17 (w:Int):at_ 17 w=true:=by kernel_rfl
theorem at18 (w:Int):at_ 18 w=true:=by kernel_rfl
theorem at19 (w:Int):at_ 19 w=true:=by kernel_rfl
theorem at20 (w:Int):at_ 20 w=true:=by kernel_rfl
end Go.Proofs.YthnhboimcidhgaaDoor.synsForms
