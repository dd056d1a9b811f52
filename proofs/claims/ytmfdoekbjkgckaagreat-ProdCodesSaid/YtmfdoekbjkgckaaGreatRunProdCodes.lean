import Derived.Test.YtmfdoekbjkgckaaGreatMcEnv
import Derived.Test.YtmfdoekbjkgckaaGreatEvQs
namespace Go.Proofs.YtmfdoekbjkgckaaGreat.prodCodes
open Go Go.Aug
set_option maxRecDepth 10000000
theorem Z9h:K3 (Z5 mc.Rj mc.fnP 30 15 [] [])=true:=by kernel_rfl
def F4:Env:=mc.F4 15
theorem Wz:ED Tryz.prog F4:=mc.Wz _
theorem Wx:KN Tryz.prog F4:=mc.Wx ⟨Tryz.f15,by kernel_rfl,by kernel_rfl,by kernel_rfl⟩ Z9h
theorem UB:Mc.Sur F4 mc.fnP:=mc.UB _ rfl (by decide) (by decide)
def Uz:List Typ:=[.slice (.int .i64),.slice (.int .i64),.int .i64,.slice (.int .i64),.slice (.int .i64),.slice (.int .i64)]
theorem Z9e:P6 Tryz.prog Tryz.f5.params.toList=some Uz:=by kernel_rfl
theorem Z3g:∀ zs:List Int,(zs.map fun z=>DV.v (.int .i64 z))=rC zs
 | []=>rfl
 | z::zs=>congrArg (DV.v (.int .i64 z):: ·) (Z3g zs)
theorem run (xs:List AV)(h:WA Uz xs):K3 (Z5 F4 mc.fnP 30 5 xs [])=true:=by
 obtain⟨zs,ys,rfl,hl,hw,h1⟩:=h.ints_inv
 obtain⟨zs2,ys,rfl,hl2,hw2,h2⟩:=h1.ints_inv
 obtain⟨a,ys,rfl,ha,h3⟩:=h2.int_inv
 obtain⟨zs3,ys,rfl,hl3,hw3,h4⟩:=h3.ints_inv
 obtain⟨zs4,ys,rfl,hl4,hw4,h5⟩:=h4.ints_inv
 obtain⟨zs5,ys,rfl,hl5,hw5,h6⟩:=h5.ints_inv
 obtain rfl:=h6.nil_inv
 have e:∀ zs,VV .i64 zs=rD zs:=fun zs=>by unfold VV rD;rw[Z3g]
 rw[e,e,e,e,e]
 exact congrArg K3 (Mc.Zbp UB rfl rfl 17 zs zs2 a zs3 zs4 zs5)
end Go.Proofs.YtmfdoekbjkgckaaGreat.prodCodes
