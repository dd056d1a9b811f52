import Derived.Test.YthnhboimcidhgaaGreatDoorSk
import Derived.Test.YthnhboimcidhgaaGreatDoorEvQr
import Derived.Test.YthnhboimcidhgaaGreatDoorSsK
import Derived.Test.YthnhboimcidhgaaGreatDoorRows
import Derived.KernelRfl
namespace Go.Proofs.YthnhboimcidhgaaGreatDoor.mc
open Go Go.Aug
set_option maxRecDepth 10000000
theorem hm:Tryz.prog.follows .mixedOrders=true:=by kernel_rfl
def VK:FuncId->Option (List DV->Option (AV×List Blk))
 | 85=>some (KW 8 48)
 | 86=>some (KW 1 8)
 | _=>none
def Z3b:FuncId->Option (Nat×Bool):=fun f=>if f=275 then some (8,true) else none
def MJ:FuncId->Option (List DV->Option (AV×List Blk)):=fun f=>if f=57 then some Mc.PG else if f=98 then some (Mc.KJ 99) else VK f
def Zd7:List FuncId:=[160,161,211,212,136]
def TV:Env:={ br:=Zd7++[248],th:=[85,86,45,84],prim:=MJ,back:=Z3b }
theorem Zsy:DE Tryz.prog 85=some (TY 7 8 48 [.d (.v (.int .i64 0)),.d (.v (.int .i64 0)),.d (.v (.int .i64 0)),.d (.v (.int .i64 0)),.d (.v (.int .i64 0)),.d (.v (.bool false)),.d (.v (.bool false)),.d (.v (.bool false))]):=by kernel_rfl
theorem Zsx:DE Tryz.prog 86=some (TY 7 1 8 [.d (.v (.int .i64 0))]):=by kernel_rfl
theorem Zm9:∀ f g,VK f=some g->Go.Aug.Enters Tryz.prog f/\∀ ds x Ac,g ds=some (x,Ac)->∀(I:Nat->Prop) (w:World) (args:Array Value),(∀ b,I b->b<w.heap.size)->Gl I w->DRs I w ds args.toList->Calls Tryz.prog f args w (GC I w x Ac):=by
 intro f g h
 unfold VK at h
 split at h
 ·simp at h;subst h;exact Zcn hm Zsy
 ·simp at h;subst h;exact Zcn hm Zsx
 ·simp at h
theorem Z62:∀ f g,MJ f=some g->Go.Aug.Enters Tryz.prog f/\∀ ds x Ac,g ds=some (x,Ac)->∀(I:Nat->Prop) (w:World) (args:Array Value),(∀ b,I b->b<w.heap.size)->Gl I w->DRs I w ds args.toList->Calls Tryz.prog f args w (GC I w x Ac):=by
 intro f g h
 simp only[MJ] at h
 split at h
 ·rename_i hf
  subst hf
  simp only[Option.some.injEq] at h
  subst h
  exact ss.Zp4
 ·split at h
  ·rename_i hf
   subst hf
   simp only[Option.some.injEq] at h
   subst h
   exact ss.Zpa
  ·exact Zm9 f g h
theorem Zmb:NS Tryz.prog TV:=Z62
def P1:Code->List (Nat×Array Oper)
 | .region i ops _=>[(i,ops)]
 | .seq a b=>P1 a++P1 b
 | .cond _ a b=>P1 a++P1 b
 | .block _ c=>P1 c
 | .loop c=>P1 c
 | _=>[]
def PV:Code->List Nat
 | .seq a b=>PV a++PV b
 | .cond _ a b=>PV a++PV b
 | .block i c=>i::PV c
 | .loop c=>PV c
 | _=>[]
def Zda (f:Func):Code:=f.body.getD .skip
def HB (f:Func)(n:Nat):Nat×Array Oper:=(P1 (Zda f)).getD n (0,#[])
def GB (f:Func)(n:Nat):Nat:=(PV (Zda f)).getD n 0
def Z0m (f:Func)(n i:Nat):Oper:=(HB f n).2.toList.getD i default
def Zru (o:Oper):Call:=match o.op with | .call c=>c | _=>default
theorem Zt5:IsBack Tryz.prog 275 8 true where
 ent:=⟨Tryz.f275,by kernel_rfl,by kernel_rfl,by kernel_rfl⟩
 ex:=⟨Tryz.f275,(HB Tryz.f275 0).1,(HB Tryz.f275 1).1,(HB Tryz.f275 3).1,(HB Tryz.f275 2).1,GB Tryz.f275 0,GB Tryz.f275 1,(HB Tryz.f275 0).2,(HB Tryz.f275 1).2,(HB Tryz.f275 3).2,(HB Tryz.f275 2).2,
  (HB Tryz.f275 2).2.toList.take 6,Z0m Tryz.f275 2 6,Z0m Tryz.f275 2 7,Zru (Z0m Tryz.f275 2 6),
  by kernel_rfl,by kernel_rfl,by kernel_rfl,by kernel_rfl,by kernel_rfl,by kernel_rfl,by kernel_rfl,by kernel_rfl,by kernel_rfl,by kernel_rfl,by kernel_rfl,by kernel_rfl,by kernel_rfl,by kernel_rfl,by kernel_rfl,by kernel_rfl,by kernel_rfl,by kernel_rfl,by kernel_rfl,by kernel_rfl,by kernel_rfl⟩
theorem SB:GD Tryz.prog TV:=by
 intro g s ag h
 simp only[TV,Z3b] at h
 split at h
 ·rename_i hg
  simp at h
  obtain⟨rfl,rfl⟩:=h
  subst hg
  exact Zt5
 ·simp at h
def lives (f k:Nat):Option (List Nat):=if k<1000000 then Mc.SN f k else if Y8 (f*1000+(k-1000000)) Mc.TH then some [] else none
def H3 (t:FuncId):Env:={ br:=Zd7,th:=[],prim:=fun f=>if f=t then some Mc.NW else MJ f,back:=Z3b,lives:=lives }
theorem Z25 (t:FuncId):GD Tryz.prog (H3 t):=SB
theorem Z24 {t:FuncId}{n:Nat}(he:Go.Aug.Enters Tryz.prog t)(ht:N3 (Z4 TV (DE Tryz.prog) n t [] [])=true):NS Tryz.prog (H3 t):=by
 intro f g h
 simp only[H3] at h
 split at h
 ·rename_i hf
  simp at h;subst h;subst hf
  exact Zma hm (fun _ _ h=>h) Zmb SB he ht
 ·exact Z62 f g h
theorem Z00 (t:FuncId)(ht:Y8 t Mc.PR=true)(h1:t≠85)(h2:t≠86):Mc.Sur (H3 t) (DE Tryz.prog) where
 Z8v:=by kernel_rfl
 Z8u:=by kernel_rfl
 Z8q:=by kernel_rfl
 Z8w:=by kernel_rfl
 Z98:=by kernel_rfl
 Zae:=by kernel_rfl
 Z9y:=by kernel_rfl
 Z9x:=by kernel_rfl
 Zai:=by kernel_rfl
 Z9a:=by kernel_rfl
 Z99:=by kernel_rfl
 Z8t:=by kernel_rfl
 Zao:=by kernel_rfl
 Z8s:=by kernel_rfl
 Zaj:=by kernel_rfl
 Zah:=by kernel_rfl
 Zaf:=by kernel_rfl
 Z9w:=by kernel_rfl
 Zbj:=by kernel_rfl
 Zbh:=by kernel_rfl
 Zar:=by kernel_rfl
 Za4:=by kernel_rfl
 Zaw:=by kernel_rfl
 Z97:=by kernel_rfl
 Z96:=by kernel_rfl
 Z95:=by kernel_rfl
 Z8r:=by kernel_rfl
 Zam:=by kernel_rfl
 Zas:=by kernel_rfl
 Za6:=by kernel_rfl
 Zac:=by kernel_rfl
 Zab:=by kernel_rfl
 Zaa:=by kernel_rfl
 Za7:=by kernel_rfl
 Za8:=by kernel_rfl
 Zag:=by kernel_rfl
 Z9z:=by kernel_rfl
 Zbl:=by kernel_rfl
 Zbi:=by kernel_rfl
 Zbd:=by kernel_rfl
 Zbg:=by kernel_rfl
 Z9h:=by kernel_rfl
 Zb3:=by kernel_rfl
 Zal:=by kernel_rfl
 Z9r:=by kernel_rfl
 Z8x:=by kernel_rfl
 Zax:=by kernel_rfl
 Zaq:=by kernel_rfl
 Zan:=by kernel_rfl
 Z9t:=by kernel_rfl
 Z9s:=by kernel_rfl
 Za3:=by kernel_rfl
 Z9v:=by kernel_rfl
 Z1x:=by kernel_rfl
 Za1:=by kernel_rfl
 Zat:=by kernel_rfl
 Z9u:=by kernel_rfl
 Zak:=by kernel_rfl
 Za5:=by kernel_rfl
 Za2:=by kernel_rfl
 Zb2:=by kernel_rfl
 Zbf:=by kernel_rfl
 Zbe:=by kernel_rfl
 Z9i:=by kernel_rfl
 Zbc:=by kernel_rfl
 Zb4:=by kernel_rfl
 Zb9:=by kernel_rfl
 Z92:=by kernel_rfl
 Zba:=by kernel_rfl
 Z91:=by kernel_rfl
 Zbb:=by kernel_rfl
 Zb8:=by kernel_rfl
 Zb7:=by kernel_rfl
 Zb5:=by kernel_rfl
 Z94:=by kernel_rfl
 Zav:=by kernel_rfl
 Z9e:=by kernel_rfl
 Z9d:=by kernel_rfl
 Z93:=by kernel_rfl
 Z9f:=by kernel_rfl
 Z9g:=by kernel_rfl
 Zb0:=by kernel_rfl
 Z9c:=by kernel_rfl
 Zay:=by kernel_rfl
 Z8m:=by kernel_rfl
 Zad:=by kernel_rfl
 Za0:=by kernel_rfl
 Zap:=by kernel_rfl
 Zbk:=by kernel_rfl
 Zb6:=by kernel_rfl
 Z9q:=by kernel_rfl
 Z9m:=by kernel_rfl
 Z8p:=by kernel_rfl
 Z9j:=by kernel_rfl
 Z9l:=by kernel_rfl
 Zau:=by kernel_rfl
 Z9b:=by kernel_rfl
 Z8o:=by kernel_rfl
 Zbm:=by kernel_rfl
 Zb1:=by kernel_rfl
 Zaz:=by kernel_rfl
 Z8n:=by kernel_rfl
 Za9:=by kernel_rfl
 Z8z:=by kernel_rfl
 Z9p:=by kernel_rfl
 Z9n:=by kernel_rfl
 Z8l:=by kernel_rfl
 Z8k:=by kernel_rfl
 Z9k:=by kernel_rfl
 Z8y:=by kernel_rfl
 Z90:=by kernel_rfl
 Z9o:=by kernel_rfl
 lv:=fun f k h=>if_pos h
 br:=fun _=>rfl
 tq:=fun f g=>by
  show(false || HS (if EP g<1000000 then Mc.SN f (EP g) else if Y8 (f*1000+(EP g-1000000)) Mc.TH then some [] else none))=_
  have h:¬EP g<1000000:=by unfold EP;omega
  have h2:EP g-1000000=g:=by unfold EP;omega
  rw[if_neg h,h2,Bool.false_or]
  cases Y8 (f*1000+g) Mc.TH<;>rfl
 pn:=fun g h=>by
  show(if g=t then some Mc.NW else MJ g)=none
  have hg:g≠t:=fun e=>by rw[e,ht] at h;cases h
  have g1:g≠57:=fun e=>by rw[e] at h;exact absurd h (by decide)
  have g2:g≠98:=fun e=>by rw[e] at h;exact absurd h (by decide)
  rw[if_neg hg]
  unfold MJ
  rw[if_neg g1,if_neg g2]
  unfold VK
  split
  ·simp[Mc.PR,Y8] at h
  ·simp[Mc.PR,Y8] at h
  ·rfl
 pe:=by
  show(if 85=t then some Mc.NW else MJ 85)=_
  rw[if_neg (Ne.symm h1)];rfl
 pi:=by
  show(if 86=t then some Mc.NW else MJ 86)=_
  rw[if_neg (Ne.symm h2)];rfl
 bk:=rfl
end Go.Proofs.YthnhboimcidhgaaGreatDoor.mc
