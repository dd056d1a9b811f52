import Derived.Test.YthnhboimcidhgaaGreatDoorMcEnv
import Derived.Test.YthnhboimcidhgaaGreatDoorEvQs
namespace Go.Proofs.YthnhboimcidhgaaGreatDoor.scriStops
open Go Go.Aug
set_option maxRecDepth 10000000
theorem Y8p:isT (evC mc.env1 (Z6h Tryz.prog) 30 12 [] [])=true:=by kernel_rfl
def env:Env:=mc.env 12
theorem envBack:Z5t Tryz.prog env:=mc.envBack _
theorem envPrim:Zaz Tryz.prog env:=mc.envPrim ⟨Tryz.f12,by kernel_rfl,by kernel_rfl,by kernel_rfl⟩ Y8p
theorem sur:Mc.Sur env (Z6h Tryz.prog):=mc.sur _ rfl (by decide) (by decide)
def Y44:List Typ:=[.slice (.int .i64),.slice (.int .i64),.slice (.int .i64),.slice (.recd [.int .i64,.int .i64])]
theorem Zxx:Zj4 Tryz.prog Tryz.f3.params.toList=some Y44:=by kernel_rfl
theorem Zpf:∀ zs:List Int,(zs.map fun z=>DV.v (.int .i64 z))=rC zs
 | []=>rfl
 | z::zs=>congrArg (DV.v (.int .i64 z):: ·) (Zpf zs)
theorem run (xs:List AV)(h:WA Y44 xs):isT (evC env (Z6h Tryz.prog) 30 3 xs [])=true:=by
 obtain⟨zs,ys,rfl,hl,hw,h1⟩:=h.ints_inv
 obtain⟨zs2,ys,rfl,hl2,hw2,h2⟩:=h1.ints_inv
 obtain⟨zs3,ys,rfl,hl3,hw3,h3⟩:=h2.ints_inv
 obtain⟨ds,ys,rfl,hd,h4⟩:=h3.dirs_inv
 obtain rfl:=h4.nil_inv
 have e:∀ zs,Zz0 .i64 zs=rD zs:=fun zs=>by unfold Zz0 rD;rw[Zpf]
 rw[e,e,e]
 exact congrArg isT (Mc.raw_lawStops sur rfl 16 zs zs2 zs3 ds)
end Go.Proofs.YthnhboimcidhgaaGreatDoor.scriStops
