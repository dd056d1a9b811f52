import Derived.Test.YthnhboimcidhgaaGreatDoorPrT0
import Derived.Test.YthnhboimcidhgaaGreatDoorPrT1
import Derived.Test.YthnhboimcidhgaaGreatDoorPrT2
namespace Go.Proofs.YthnhboimcidhgaaGreatDoor
open Go Go.Aug
def lineT:List (ByteArray×AV):=[ln0,ln1,ln2,ln3,ln4,ln5,ln6,ln7,ln8,ln9,ln10,ln11,ln12,ln13,ln14,ln15,ln16,ln17,ln18,ln19,ln20,ln21,ln22,ln23,ln24,ln25,ln26,ln27,ln28,ln29,ln30,ln31,ln32,ln33,ln34,ln35,ln36,ln37,ln38]
theorem lineT_ok:AllR lineT:=⟨row0,row1,row2,row3,row4,row5,row6,row7,row8,row9,row10,row11,row12,row13,row14,row15,row16,row17,row18,row19,row20,row21,row22,row23,row24,row25,row26,row27,row28,row29,row30,row31,row32,row33,row34,row35,row36,row37,row38,trivial⟩
def envB:Env:={ env0 with prim:=fun f=>if f=59 then some (linesG lineT) else none }
theorem primB:PrimOk Tryz.prog envB:=by
 intro f g h
 simp only[envB] at h
 split at h
 ·rename_i e
  subst e
  simp only[Option.some.injEq] at h
  subst h
  exact lines_prim lineT_ok
 ·simp at h
theorem backB:BackOk Tryz.prog envB:=by
 intro g s ag h
 simp[envB,env0] at h
noncomputable def printG:List DV->Option (AV×List Blk):=printGen (fun f ds=>evC envB (cFunc Tryz.prog) 30 f (ds.map .d) []) 62 63 28 67
theorem print_prim:Go.Aug.Enters Tryz.prog 31/\∀ ds x Ac,printG ds=some (x,Ac)->∀(I:Nat->Prop) (w:World) (args:Array Value),(∀ b,I b->b<w.heap.size)->Gl I w->DRs I w ds args.toList->Calls Tryz.prog 31 args w (RawPost I w x Ac):=
 ⟨⟨Tryz.f31,Tryz.func31,by kernel_rfl,by kernel_rfl⟩,fun _ _ _ hg I w args hI hgl hd=>print_walk (raw_ok primB backB) hg I w args hI hgl hd⟩
end Go.Proofs.YthnhboimcidhgaaGreatDoor
