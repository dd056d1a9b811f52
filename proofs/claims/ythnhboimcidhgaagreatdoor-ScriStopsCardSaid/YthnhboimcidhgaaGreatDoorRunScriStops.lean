import Derived.Test.YthnhboimcidhgaaGreatDoorMcEnv
import Derived.Test.YthnhboimcidhgaaGreatDoorEvQs
namespace Go.Proofs.YthnhboimcidhgaaGreatDoor.scriStops
open Go Go.Aug
set_option maxRecDepth 10000000
theorem told:isT (evC mc.env1 (cFunc Tryz.prog) 30 12 [] [])=true:=by kernel_rfl
def env:Env:=mc.env 12
theorem envBack:BackOk Tryz.prog env:=mc.envBack _
theorem envPrim:PrimOk Tryz.prog env:=mc.envPrim ⟨Tryz.f12,by kernel_rfl,by kernel_rfl,by kernel_rfl⟩ told
theorem sur:Mc.Sur env (cFunc Tryz.prog):=mc.sur _ rfl (by decide) (by decide)
def typs:List Typ:=[.slice (.int .i64),.slice (.int .i64),.slice (.int .i64),.slice (.recd [.int .i64,.int .i64])]
theorem typs_eq:typsOf Tryz.prog Tryz.f3.params.toList=some typs:=by kernel_rfl
theorem ints_row:∀ zs:List Int,(zs.map fun z=>DV.v (.int .i64 z))=rC zs
 | []=>rfl
 | z::zs=>congrArg (DV.v (.int .i64 z):: ·) (ints_row zs)
theorem run (xs:List AV)(h:WA typs xs):isT (evC env (cFunc Tryz.prog) 30 3 xs [])=true:=by
 obtain⟨zs,ys,rfl,hl,hw,h1⟩:=h.ints_inv
 obtain⟨zs2,ys,rfl,hl2,hw2,h2⟩:=h1.ints_inv
 obtain⟨zs3,ys,rfl,hl3,hw3,h3⟩:=h2.ints_inv
 obtain⟨ds,ys,rfl,hd,h4⟩:=h3.dirs_inv
 obtain rfl:=h4.nil_inv
 have e:∀ zs,intsD .i64 zs=rD zs:=fun zs=>by unfold intsD rD;rw[ints_row]
 rw[e,e,e]
 exact congrArg isT (Mc.raw_lawStops sur rfl 16 zs zs2 zs3 ds)
end Go.Proofs.YthnhboimcidhgaaGreatDoor.scriStops
