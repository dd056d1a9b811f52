import Derived.Test.YtmfdoekbjkgckaaGreatMcEnv
import Derived.Test.YtmfdoekbjkgckaaGreatEvQs
namespace Go.Proofs.YtmfdoekbjkgckaaGreat.prodAll
open Go Go.Aug
set_option maxRecDepth 10000000
theorem Zcl:KX (Z5 mc.Sv mc.fnP 30 15 [] [])=true:=by kernel_rfl
def FQ:Env:=mc.FQ 15
theorem Z05:F6 Tryz.prog FQ:=mc.Z05 _
theorem Z04:MF Tryz.prog FQ:=mc.Z04 ⟨Tryz.f15,by kernel_rfl,by kernel_rfl,by kernel_rfl⟩ Zcl
theorem W0:Mc.Sur FQ mc.fnP:=mc.W0 _ rfl (by decide) (by decide)
def VV:List Typ:=[.slice (.int .i64),.slice (.int .i64),.int .i64,.slice (.int .i64)]
theorem Zcj:R6 Tryz.prog Tryz.f4.params.toList=some VV:=by kernel_rfl
theorem Z5d:∀ zs:List Int,(zs.map fun z=>DV.v (.int .i64 z))=rC zs
 | []=>rfl
 | z::zs=>congrArg (DV.v (.int .i64 z):: ·) (Z5d zs)
theorem run (xs:List AV)(h:WA VV xs):KX (Z5 FQ mc.fnP 30 4 xs [])=true:=by
 obtain⟨zs,ys,rfl,hl,hw,h1⟩:=h.ints_inv
 obtain⟨zs2,ys,rfl,hl2,hw2,h2⟩:=h1.ints_inv
 obtain⟨a,ys,rfl,ha,h3⟩:=h2.int_inv
 obtain⟨zs3,ys,rfl,hl3,hw3,h4⟩:=h3.ints_inv
 obtain rfl:=h4.nil_inv
 have e:∀ zs,XH .i64 zs=rD zs:=fun zs=>by unfold XH rD;rw[Z5d]
 rw[e,e,e]
 exact congrArg KX (Mc.Zfg W0 rfl rfl 17 zs zs2 zs3 a)
end Go.Proofs.YtmfdoekbjkgckaaGreat.prodAll
