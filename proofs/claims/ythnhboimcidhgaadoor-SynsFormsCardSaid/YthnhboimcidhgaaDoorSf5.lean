import Derived.Test.YthnhboimcidhgaaDoorSf1
namespace Go.Proofs.YthnhboimcidhgaaDoor.synsForms
open Go Go.Aug
set_option maxRecDepth 10000000
theorem at31 (w:Int):at_ 31 w=true:=by kernel_rfl
theorem at32 (w:Int):at_ 32 w=true:=by kernel_rfl
theorem at33 (w:Int):at_ 33 w=true:=by kernel_rfl
theorem at34 (w:Int):at_ 34 w=true:=by kernel_rfl
theorem at35 (w:Int):at_ 35 w=true:=by kernel_rfl
theorem at36 (w:Int):at_ 36 w=true:=by kernel_rfl
theorem at37 (w:Int):at_ 37 w=true:=by kernel_rfl
theorem at38 (w:Int):at_ 38 w=true:=by kernel_rfl
theorem at39 (w:Int):at_ 39 w=true:=by kernel_rfl
theorem at40 (w:Int):at_ 40 w=true:=by kernel_rfl
theorem at41 (w:Int):at_ 41 w=true:=by kernel_rfl
end Go.Proofs.YthnhboimcidhgaaDoor.synsForms
