import Derived.Test.YthnhboimcidhgaaGreatDoorMcEnv
import Derived.Test.YthnhboimcidhgaaGreatDoorEvQs
namespace Go.Proofs.YthnhboimcidhgaaGreatDoor.scriBack
open Go Go.Aug
set_option maxRecDepth 10000000
theorem Zhg:N3 (Z4 mc.TV (DE Tryz.prog) 30 12 [] [])=true:=by kernel_rfl
def H3:Env:=mc.H3 12
theorem Z25:GD Tryz.prog H3:=mc.Z25 _
theorem Z24:NS Tryz.prog H3:=mc.Z24 ⟨Tryz.f12,by kernel_rfl,by kernel_rfl,by kernel_rfl⟩ Zhg
theorem Z00:Mc.Sur H3 (DE Tryz.prog):=mc.Z00 _ rfl (by decide) (by decide)
def XU:List Typ:=[.slice (.int .i64),.slice (.int .i64),.slice (.int .i64),.int .i64]
theorem Zhd:SM Tryz.prog Tryz.f6.params.toList=some XU:=by kernel_rfl
theorem Z82:∀ zs:List Int,(zs.map fun z=>DV.v (.int .i64 z))=rC zs
 | []=>rfl
 | z::zs=>congrArg (DV.v (.int .i64 z):: ·) (Z82 zs)
theorem run (xs:List AV)(h:WA XU xs):N3 (Z4 H3 (DE Tryz.prog) 30 6 xs [])=true:=by
 obtain⟨zs,ys,rfl,hl,hw,h1⟩:=h.ints_inv
 obtain⟨zs2,ys,rfl,hl2,hw2,h2⟩:=h1.ints_inv
 obtain⟨zs3,ys,rfl,hl3,hw3,h3⟩:=h2.ints_inv
 obtain⟨a,ys,rfl,ha,h4⟩:=h3.int_inv
 obtain rfl:=h4.nil_inv
 have e:∀ zs,Z1p .i64 zs=rD zs:=fun zs=>by unfold Z1p rD;rw[Z82]
 rw[e,e,e]
 exact congrArg N3 (Mc.Zkv Z00 rfl rfl rfl 16 zs zs2 zs3 a)
end Go.Proofs.YthnhboimcidhgaaGreatDoor.scriBack
