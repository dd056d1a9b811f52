import Derived.Test.YtmfdoekbjkgckaaGreatMcEnv
import Derived.Test.YtmfdoekbjkgckaaGreatEvQs
namespace Go.Proofs.YtmfdoekbjkgckaaGreat.prodOne
open Go Go.Aug
set_option maxRecDepth 10000000
theorem Zfz:MM (Z4 mc.Tz mc.fnP 30 15 [] [])=true:=by kernel_rfl
def GQ:Env:=mc.GQ 15
theorem Z1j:G6 Tryz.prog GQ:=mc.Z1j _
theorem Z1i:Nw Tryz.prog GQ:=mc.Z1i ⟨Tryz.f15,by kernel_rfl,by kernel_rfl,by kernel_rfl⟩ Zfz
theorem Xj:Mc.Sur GQ mc.fnP:=mc.Xj _ rfl (by decide) (by decide)
def X4:List Typ:=[.slice (.int .i64),.slice (.int .i64),.slice (.int .i64)]
theorem Zfx:S9 Tryz.prog Tryz.f7.params.toList=some X4:=by kernel_rfl
theorem Z6x:∀ zs:List Int,(zs.map fun z=>DV.v (.int .i64 z))=rC zs
 | []=>rfl
 | z::zs=>congrArg (DV.v (.int .i64 z):: ·) (Z6x zs)
theorem run (xs:List AV)(h:WA X4 xs):MM (Z4 GQ mc.fnP 30 7 xs [])=true:=by
 obtain⟨zs,ys,rfl,hl,hw,h1⟩:=h.ints_inv
 obtain⟨zs2,ys,rfl,hl2,hw2,h2⟩:=h1.ints_inv
 obtain⟨zs3,ys,rfl,hl3,hw3,h3⟩:=h2.ints_inv
 obtain rfl:=h3.nil_inv
 have e:∀ zs,Z0z .i64 zs=rD zs:=fun zs=>by unfold Z0z rD;rw[Z6x]
 rw[e,e,e]
 exact congrArg MM (Mc.Zje Xj rfl rfl 17 zs zs2 zs3)
end Go.Proofs.YtmfdoekbjkgckaaGreat.prodOne
