import Derived.Test.YtikiagojnilhiaaGreatMcEnv
import Derived.Test.YtikiagojnilhiaaGreatEvQs
namespace Go.Proofs.YtikiagojnilhiaaGreat.witnBoth
open Go Go.Aug
set_option maxRecDepth 10000000
theorem told:isT (evC mc.env1 (cFunc Tryz.prog) 30 21 [] [])=true:=by decide+kernel
def env:Env:=mc.env 21
theorem envBack:BackOk Tryz.prog env:=mc.envBack _
theorem envPrim:PrimOk Tryz.prog env:=mc.envPrim ⟨Tryz.f21,by kernel_rfl,by kernel_rfl,by kernel_rfl⟩ told
theorem sur:Mc.Sur env (cFunc Tryz.prog):=mc.sur _ rfl (by decide) (by decide)
def typs:List Typ:=[.slice (.int .i64),.slice (.int .i64),.int .i64,.slice (.int .i64),.slice (.recd [.int .i64,.int .i64])]
theorem typs_eq:typsOf Tryz.prog Tryz.f6.params.toList=some typs:=by kernel_rfl
theorem ints_row:∀ zs:List Int,(zs.map fun z=>DV.v (.int .i64 z))=rowC zs
 | []=>rfl
 | z::zs=>congrArg (DV.v (.int .i64 z):: ·) (ints_row zs)
theorem run (xs:List AV)(h:WA typs xs):isT (evC env (cFunc Tryz.prog) 30 6 xs [])=true:=by
 obtain⟨zs,ys,rfl,hl,hw,h1⟩:=h.ints_inv
 obtain⟨zs2,ys,rfl,hl2,hw2,h2⟩:=h1.ints_inv
 obtain⟨a,ys,rfl,ha,h3⟩:=h2.int_inv
 obtain⟨zs3,ys,rfl,hl3,hw3,h4⟩:=h3.ints_inv
 obtain⟨ds,ys,rfl,hd,h5⟩:=h4.dirs_inv
 obtain rfl:=h5.nil_inv
 have e:∀ zs,intsD .i64 zs=rowD zs:=fun zs=>by unfold intsD rowD;rw[ints_row]
 rw[e,e,e]
 exact congrArg isT (Mc.raw_lawBoth sur rfl 16 zs zs2 zs3 a ds)
end Go.Proofs.YtikiagojnilhiaaGreat.witnBoth
