import Derived.Test.YthnhboimcidhgaaDoorSf1
namespace Go.Proofs.YthnhboimcidhgaaDoor.synsForms
open Go Go.Aug
set_option maxRecDepth 10000000
theorem at0 (w:Int):at_ 0 w=true:=by kernel_rfl
theorem at1 (w:Int):at_ 1 w=true:=by kernel_rfl
theorem at2 (w:Int):at_ 2 w=true:=by kernel_rfl
theorem at3 (w:Int):at_ 3 w=true:=by kernel_rfl
theorem at4 (w:Int):at_ 4 w=true:=by kernel_rfl
theorem at5 (w:Int):at_ 5 w=true:=by kernel_rfl
theorem at6 (w:Int):at_ 6 w=true:=by kernel_rfl
theorem at7 (w:Int):at_ 7 w=true:=by kernel_rfl
theorem at8 (w:Int):at_ 8 w=true:=by kernel_rfl
theorem at9 (w:Int):at_ 9 w=true:=by kernel_rfl
end Go.Proofs.YthnhboimcidhgaaDoor.synsForms
