import Derived.Test.YtikiagojnilhiaaGreatMcEnv
namespace Go.Proofs.YtikiagojnilhiaaGreat.dirsTells
open Go Go.Aug
set_option maxRecDepth 10000000
theorem told:isT (evC mc.env1 (cFunc Tryz.prog) 30 12 [] [])=true:=by decide+kernel
def env:Env:=mc.env 12
theorem envBack:BackOk Tryz.prog env:=mc.envBack _
theorem envPrim:PrimOk Tryz.prog env:=mc.envPrim ⟨Tryz.f12,by kernel_rfl,by kernel_rfl,by kernel_rfl⟩ told
theorem sur:Mc.Sur env (cFunc Tryz.prog):=mc.sur _ rfl (by decide) (by decide)
def typs:List Typ:=[.slice (.int .i64),.slice (.int .i64),.slice (.int .i64),.recd [.int .i64,.int .i64],.recd [.int .i64,.int .i64]]
theorem typs_eq:typsOf Tryz.prog Tryz.f4.params.toList=some typs:=by kernel_rfl
theorem ints_row:∀ zs:List Int,(zs.map fun z=>DV.v (.int .i64 z))=rowC zs
 | []=>rfl
 | z::zs=>congrArg (DV.v (.int .i64 z):: ·) (ints_row zs)
theorem run (xs:List AV)(h:WA typs xs):isT (evC env (cFunc Tryz.prog) 30 4 xs [])=true:=by
 obtain⟨zs,ys,rfl,hl,hw,h1⟩:=h.ints_inv
 obtain⟨zs2,ys,rfl,hl2,hw2,h2⟩:=h1.ints_inv
 obtain⟨zs3,ys,rfl,hl3,hw3,h3⟩:=h2.ints_inv
 obtain⟨c1,ys,rfl,g1,h4⟩:=h3.recd_inv
 obtain⟨c2,ys,rfl,g2,h5⟩:=h4.recd_inv
 obtain rfl:=h5.nil_inv
 obtain⟨a,r1,rfl,i1⟩:=g1.int_inv
 obtain⟨b,r2,rfl,i2⟩:=i1.int_inv
 obtain rfl:=i2.nil_inv
 obtain⟨c,r3,rfl,j1⟩:=g2.int_inv
 obtain⟨d,r4,rfl,j2⟩:=j1.int_inv
 obtain rfl:=j2.nil_inv
 have e:∀ zs,intsD .i64 zs=rowD zs:=fun zs=>by unfold intsD rowD;rw[ints_row]
 rw[e,e,e]
 exact congrArg isT (Mc.raw_lawTellsD sur rfl 18 zs zs2 zs3 ⟨a,b⟩ ⟨c,d⟩)
end Go.Proofs.YtikiagojnilhiaaGreat.dirsTells
