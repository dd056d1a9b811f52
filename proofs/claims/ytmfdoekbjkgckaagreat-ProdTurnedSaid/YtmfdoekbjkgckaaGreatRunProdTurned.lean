import Derived.Test.YtmfdoekbjkgckaaGreatMcEnv
import Derived.Test.YtmfdoekbjkgckaaGreatEvQs
namespace Go.Proofs.YtmfdoekbjkgckaaGreat.prodTurned
open Go Go.Aug
set_option maxRecDepth 10000000
theorem Zgs:MW (Z4 mc.TN mc.fnP 30 15 [] [])=true:=by kernel_rfl
def GY:Env:=mc.GY 15
theorem Z20:Gk Tryz.prog GY:=mc.Z20 _
theorem Z1z:NH Tryz.prog GY:=mc.Z1z ⟨Tryz.f15,by kernel_rfl,by kernel_rfl,by kernel_rfl⟩ Zgs
theorem XJ:Mc.Sur GY mc.fnP:=mc.XJ _ rfl (by decide) (by decide)
def XC:List Typ:=[.slice (.int .i64),.slice (.int .i64),.int .i64,.slice (.int .i64)]
theorem Zgq:SD Tryz.prog Tryz.f3.params.toList=some XC:=by kernel_rfl
theorem Z7k:∀ zs:List Int,(zs.map fun z=>DV.v (.int .i64 z))=rC zs
 | []=>rfl
 | z::zs=>congrArg (DV.v (.int .i64 z):: ·) (Z7k zs)
theorem run (xs:List AV)(h:WA XC xs):MW (Z4 GY mc.fnP 30 3 xs [])=true:=by
 obtain⟨zs,ys,rfl,hl,hw,h1⟩:=h.ints_inv
 obtain⟨zs2,ys,rfl,hl2,hw2,h2⟩:=h1.ints_inv
 obtain⟨a,ys,rfl,ha,h3⟩:=h2.int_inv
 obtain⟨zs3,ys,rfl,hl3,hw3,h4⟩:=h3.ints_inv
 obtain rfl:=h4.nil_inv
 have e:∀ zs,Z1g .i64 zs=rD zs:=fun zs=>by unfold Z1g rD;rw[Z7k]
 rw[e,e,e]
 exact congrArg MW (Mc.Zk8 XJ rfl rfl 17 zs zs2 zs3 a)
end Go.Proofs.YtmfdoekbjkgckaaGreat.prodTurned
