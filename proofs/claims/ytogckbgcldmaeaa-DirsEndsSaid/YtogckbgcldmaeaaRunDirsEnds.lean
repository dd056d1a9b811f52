import Derived.Test.YtogckbgcldmaeaaMcEnv
namespace Go.Proofs.Ytogckbgcldmaeaa.dirsEnds
open Go Go.Aug
set_option maxRecDepth 10000000
theorem told:isT (evC mc.env1 (cFunc Try.prog) 30 38 [] [])=true:=by decide+kernel
def env:Env:=mc.env 38
theorem envBack:BackOk Try.prog env:=mc.envBack _
theorem envPrim:PrimOk Try.prog env:=mc.envPrim ⟨Try.f38,by kernel_rfl,by kernel_rfl,by kernel_rfl⟩ told
theorem sur:Mc.Sur env (cFunc Try.prog):=mc.sur _ rfl (by decide) (by decide)
def typs:List Typ:=[.slice (.int .i64),.slice (.int .i64),.slice (.int .i64)]
theorem typs_eq:typsOf Try.prog Try.f12.params.toList=some typs:=by kernel_rfl
theorem ints_row:∀ zs:List Int,(zs.map fun z=>DV.v (.int .i64 z))=rowC zs
 | []=>rfl
 | z::zs=>congrArg (DV.v (.int .i64 z):: ·) (ints_row zs)
theorem run (xs:List AV)(h:WA typs xs):isT (evC env (cFunc Try.prog) 30 12 xs [])=true:=by
 obtain⟨zs,ys,rfl,hl,hw,h1⟩:=h.ints_inv
 obtain⟨zs2,ys,rfl,hl2,hw2,h2⟩:=h1.ints_inv
 obtain⟨zs3,ys,rfl,hl3,hw3,h3⟩:=h2.ints_inv
 obtain rfl:=h3.nil_inv
 have e:∀ zs,intsD .i64 zs=rowD zs:=fun zs=>by unfold intsD rowD;rw[ints_row]
 rw[e,e,e]
 exact congrArg isT (Mc.raw_lawEnds sur rfl 18 zs zs2 zs3)
end Go.Proofs.Ytogckbgcldmaeaa.dirsEnds
