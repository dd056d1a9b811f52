import Derived.Test.YthnhboimcidhgaaGreatDoorMc72
import Derived.Test.YthnhboimcidhgaaGreatDoorEvQr
import Derived.Test.YthnhboimcidhgaaGreatDoorSsJ
import Derived.Test.YthnhboimcidhgaaGreatDoorRows
import Derived.KernelRfl
namespace Go.Proofs.YthnhboimcidhgaaGreatDoor.mc
open Go Go.Aug
set_option maxRecDepth 10000000
theorem hm:Tryz.prog.follows .mixedOrders=true:=by kernel_rfl
def Zjv:FuncId->Option (List DV->Option (AV×List Blk))
 | 85=>some (Z98 8 48)
 | 86=>some (Z98 1 8)
 | _=>none
def Y03:FuncId->Option (Nat×Bool):=fun f=>if f=275 then some (8,true) else none
def Zx1:FuncId->Option (List DV->Option (AV×List Blk)):=fun f=>if f=57 then some ss.joinG else Zjv f
def brs:List FuncId:=[160,161,211,212,136]
def env1:Env:={ br:=brs++[248],th:=[85,86,45,84],prim:=Zx1,back:=Y03 }
theorem Zzz:Z6h Tryz.prog 85=some (Zlf 7 8 48 [.d (.v (.int .i64 0)),.d (.v (.int .i64 0)),.d (.v (.int .i64 0)),.d (.v (.int .i64 0)),.d (.v (.int .i64 0)),.d (.v (.bool false)),.d (.v (.bool false)),.d (.v (.bool false))]):=by kernel_rfl
theorem Zzy:Z6h Tryz.prog 86=some (Zlf 7 1 8 [.d (.v (.int .i64 0))]):=by kernel_rfl
theorem Zox:∀ f g,Zjv f=some g->Go.Aug.Enters Tryz.prog f/\∀ ds x Ac,g ds=some (x,Ac)->∀(I:Nat->Prop) (w:World) (args:Array Value),(∀ b,I b->b<w.heap.size)->Gl I w->DRs I w ds args.toList->Calls Tryz.prog f args w (Z4f I w x Ac):=by
 intro f g h
 unfold Zjv at h
 split at h
 ·simp at h;subst h;exact Zga hm Zzz
 ·simp at h;subst h;exact Zga hm Zzy
 ·simp at h
theorem Y4h:Zaz Tryz.prog env1:=by
 intro f g h
 simp only[env1,Zx1] at h
 split at h
 ·rename_i hf
  subst hf
  simp only[Option.some.injEq] at h
  subst h
  exact ss.join_prim
 ·exact Zox f g h
def Zcf:Code->List (Nat×Array Oper)
 | .region i ops _=>[(i,ops)]
 | .seq a b=>Zcf a++Zcf b
 | .cond _ a b=>Zcf a++Zcf b
 | .block _ c=>Zcf c
 | .loop c=>Zcf c
 | _=>[]
def Z59:Code->List Nat
 | .seq a b=>Z59 a++Z59 b
 | .cond _ a b=>Z59 a++Z59 b
 | .block i c=>i::Z59 c
 | .loop c=>Z59 c
 | _=>[]
def Zxu (f:Func):Code:=f.body.getD .skip
def Zup (f:Func)(n:Nat):Nat×Array Oper:=(Zcf (Zxu f)).getD n (0,#[])
def Y8i (f:Func)(n:Nat):Nat:=(Z59 (Zxu f)).getD n 0
def opN (f:Func)(n i:Nat):Oper:=(Zup f n).2.toList.getD i default
def Y2f (o:Oper):Call:=match o.op with | .call c=>c | _=>default
theorem Y05:IsBack Tryz.prog 275 8 true where
 ent:=⟨Tryz.f275,by kernel_rfl,by kernel_rfl,by kernel_rfl⟩
 ex:=⟨Tryz.f275,(Zup Tryz.f275 0).1,(Zup Tryz.f275 1).1,(Zup Tryz.f275 3).1,(Zup Tryz.f275 2).1,Y8i Tryz.f275 0,Y8i Tryz.f275 1,(Zup Tryz.f275 0).2,(Zup Tryz.f275 1).2,(Zup Tryz.f275 3).2,(Zup Tryz.f275 2).2,
  (Zup Tryz.f275 2).2.toList.take 6,opN Tryz.f275 2 6,opN Tryz.f275 2 7,Y2f (opN Tryz.f275 2 6),
  by kernel_rfl,by kernel_rfl,by kernel_rfl,by kernel_rfl,by kernel_rfl,by kernel_rfl,by kernel_rfl,by kernel_rfl,by kernel_rfl,by kernel_rfl,by kernel_rfl,by kernel_rfl,by kernel_rfl,by kernel_rfl,by kernel_rfl,by kernel_rfl,by kernel_rfl,by kernel_rfl,by kernel_rfl,by kernel_rfl,by kernel_rfl⟩
theorem Zrk:Z5t Tryz.prog env1:=by
 intro g s ag h
 simp only[env1,Y03] at h
 split at h
 ·rename_i hg
  simp at h
  obtain⟨rfl,rfl⟩:=h
  subst hg
  exact Y05
 ·simp at h
def lives (f k:Nat):Option (List Nat):=if k<1000000 then Mc.tbl f k else if Z1b (f*1000+(k-1000000)) Mc.TH then some [] else none
def env (t:FuncId):Env:={ br:=brs,th:=[],prim:=fun f=>if f=t then some Mc.trueG else Zjv f,back:=Y03,lives:=lives }
theorem envBack (t:FuncId):Z5t Tryz.prog (env t):=Zrk
theorem envPrim {t:FuncId}{n:Nat}(he:Go.Aug.Enters Tryz.prog t)(ht:isT (evC env1 (Z6h Tryz.prog) n t [] [])=true):Zaz Tryz.prog (env t):=by
 intro f g h
 simp only[env] at h
 split at h
 ·rename_i hf
  simp at h;subst h;subst hf
  exact Zsh hm (fun _ _ h=>h) Y4h Zrk he ht
 ·exact Zox f g h
theorem sur (t:FuncId)(ht:Z1b t Mc.PR=true)(h1:t≠85)(h2:t≠86):Mc.Sur (env t) (Z6h Tryz.prog) where
 Z68:=by kernel_rfl
 Zkj:=by kernel_rfl
 Zd9:=by kernel_rfl
 Zfq:=by kernel_rfl
 Zfs:=by kernel_rfl
 Zg2:=by kernel_rfl
 Zkp:=by kernel_rfl
 Zda:=by kernel_rfl
 Zdj:=by kernel_rfl
 Zpi:=by kernel_rfl
 Zdi:=by kernel_rfl
 Zg3:=by kernel_rfl
 Zpo:=by kernel_rfl
 Zpk:=by kernel_rfl
 Zap:=by kernel_rfl
 Zl1:=by kernel_rfl
 Z91:=by kernel_rfl
 Zks:=by kernel_rfl
 Zph:=by kernel_rfl
 Zg4:=by kernel_rfl
 Zky:=by kernel_rfl
 Zak:=by kernel_rfl
 Zpn:=by kernel_rfl
 Zal:=by kernel_rfl
 Z7f:=by kernel_rfl
 Zg1:=by kernel_rfl
 Ztf:=by kernel_rfl
 Zku:=by kernel_rfl
 Zdf:=by kernel_rfl
 Zar:=by kernel_rfl
 Zg8:=by kernel_rfl
 Zl0:=by kernel_rfl
 Zdm:=by kernel_rfl
 Zkl:=by kernel_rfl
 Zao:=by kernel_rfl
 Zkw:=by kernel_rfl
 Zg0:=by kernel_rfl
 Zkx:=by kernel_rfl
 Ztg:=by kernel_rfl
 Zkn:=by kernel_rfl
 Zkm:=by kernel_rfl
 Zkr:=by kernel_rfl
 Zpj:=by kernel_rfl
 Zdg:=by kernel_rfl
 Zkq:=by kernel_rfl
 Zth:=by kernel_rfl
 Zko:=by kernel_rfl
 Zkv:=by kernel_rfl
 Zdh:=by kernel_rfl
 Zpm:=by kernel_rfl
 Z7g:=by kernel_rfl
 Zg7:=by kernel_rfl
 Z7h:=by kernel_rfl
 Zfw:=by kernel_rfl
 Zkz:=by kernel_rfl
 Z69:=by kernel_rfl
 Z5i:=by kernel_rfl
 Zai:=by kernel_rfl
 Z5j:=by kernel_rfl
 Zfr:=by kernel_rfl
 Z5k:=by kernel_rfl
 Z5h:=by kernel_rfl
 Z6b:=by kernel_rfl
 Z6a:=by kernel_rfl
 Z7d:=by kernel_rfl
 Z92:=by kernel_rfl
 Zfv:=by kernel_rfl
 Zfu:=by kernel_rfl
 Zkk:=by kernel_rfl
 Zaj:=by kernel_rfl
 Z90:=by kernel_rfl
 Zan:=by kernel_rfl
 Zdb:=by kernel_rfl
 Zd7:=by kernel_rfl
 Zam:=by kernel_rfl
 Zpl:=by kernel_rfl
 Zg5:=by kernel_rfl
 Zaq:=by kernel_rfl
 Z4o:=by kernel_rfl
 Z7e:=by kernel_rfl
 Zfy:=by kernel_rfl
 Zki:=by kernel_rfl
 Zdc:=by kernel_rfl
 Zfx:=by kernel_rfl
 Zdk:=by kernel_rfl
 Zft:=by kernel_rfl
 Zd8:=by kernel_rfl
 Zas:=by kernel_rfl
 Zdl:=by kernel_rfl
 Zg6:=by kernel_rfl
 Zkh:=by kernel_rfl
 Zkt:=by kernel_rfl
 J5:=by kernel_rfl
 Z5g:=by kernel_rfl
 Zfz:=by kernel_rfl
 Zah:=by kernel_rfl
 Zag:=by kernel_rfl
 Zdd:=by kernel_rfl
 Jk:=by kernel_rfl
 Jp:=by kernel_rfl
 Zde:=by kernel_rfl
 lv:=fun f k h=>if_pos h
 br:=fun _=>rfl
 tq:=fun f g=>by
  show(false || Z47 (if Z8d g<1000000 then Mc.tbl f (Z8d g) else if Z1b (f*1000+(Z8d g-1000000)) Mc.TH then some [] else none))=_
  have h:¬Z8d g<1000000:=by unfold Z8d;omega
  have h2:Z8d g-1000000=g:=by unfold Z8d;omega
  rw[if_neg h,h2,Bool.false_or]
  cases Z1b (f*1000+g) Mc.TH<;>rfl
 pn:=fun g h=>by
  show(if g=t then some Mc.trueG else Zjv g)=none
  have hg:g≠t:=fun e=>by rw[e,ht] at h;cases h
  rw[if_neg hg]
  unfold Zjv
  split
  ·simp[Mc.PR,Z1b] at h
  ·simp[Mc.PR,Z1b] at h
  ·rfl
 pe:=by
  show(if 85=t then some Mc.trueG else Zjv 85)=_
  rw[if_neg (Ne.symm h1)];rfl
 pi:=by
  show(if 86=t then some Mc.trueG else Zjv 86)=_
  rw[if_neg (Ne.symm h2)];rfl
 bk:=rfl
end Go.Proofs.YthnhboimcidhgaaGreatDoor.mc
