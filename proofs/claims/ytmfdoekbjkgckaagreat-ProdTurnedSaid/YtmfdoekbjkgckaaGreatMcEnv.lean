import Derived.Test.YtmfdoekbjkgckaaGreatPu
import Derived.Test.YtmfdoekbjkgckaaGreatEvQr
import Derived.Test.YtmfdoekbjkgckaaGreatSoL
import Derived.Test.YtmfdoekbjkgckaaGreatRows
import Derived.KernelRfl
namespace Go.Proofs.YtmfdoekbjkgckaaGreat.mc
open Go Go.Aug
set_option maxRecDepth 10000000
theorem hm:Tryz.prog.follows .mixedOrders=true:=by kernel_rfl
def MA:FuncId->Option (List DV->Option (AV×List Blk))
 | 116=>some (KJ 8 48)
 | 117=>some (KJ 1 8)
 | _=>none
def Z2z:FuncId->Option (Nat×Bool):=fun f=>if f=157 then some (8,true) else none
def Zcq:List FuncId:=[112,113,141,142,123,31,34,33,81]
def TN:Env:={ br:=Zcq,th:=[116,117,67,115,30,79,49,68],prim:=MA,back:=Z2z,lives:=fun f k=>bif Nat.beq f 19&&Nat.beq k 2000000 then some [] else none }
def Zha:Env->cT->cT:=fun _ _ _ xs A=>GD 32 xs A
def Zpf:Env->cT->cT:=fun _ _ _ xs A=>TC xs A
noncomputable def prog:FuncId->Option (Env->cT->cT):=K6 Tryz.prog
noncomputable def fnP (f:FuncId):Option (Env->cT->cT):=if f=31 then some Zha else if f=81 then some Zpf else prog f
theorem Z7z:∀ f F,fnP f=some F->Uz Tryz.prog f F:=by
 intro f F h
 unfold fnP at h
 split at h
 ·rename_i hf
  subst hf
  simp only[Option.some.injEq] at h
  subst h
  exact .inr so.sort_ok
 ·split at h
  ·rename_i hf
   subst hf
   simp only[Option.some.injEq] at h
   subst h
   exact .inr so.grow_ok
  ·exact .inl h
theorem Zsf:K6 Tryz.prog 116=some (TS 7 8 48 [.d (.v (.int .i64 0)),.d (.v (.int .i64 0)),.d (.v (.int .i64 0)),.d (.v (.int .i64 0)),.d (.v (.int .i64 0)),.d (.v (.bool false)),.d (.v (.bool false)),.d (.v (.bool false))]):=by kernel_rfl
theorem Zse:K6 Tryz.prog 117=some (TS 7 1 8 [.d (.v (.int .i64 0))]):=by kernel_rfl
theorem Z5g:∀ f g,MA f=some g->Go.Aug.Enters Tryz.prog f/\∀ ds x Ac,g ds=some (x,Ac)->∀(I:Nat->Prop) (w:World) (args:Array Value),(∀ b,I b->b<w.heap.size)->Gl I w->DRs I w ds args.toList->Calls Tryz.prog f args w (PJ I w x Ac):=by
 intro f g h
 unfold MA at h
 split at h
 ·simp at h;subst h;exact Zc3 hm Zsf
 ·simp at h;subst h;exact Zc3 hm Zse
 ·simp at h
theorem Zlq:NH Tryz.prog TN:=Z5g
def NS:Code->List (Nat×Array Oper)
 | .region i ops _=>[(i,ops)]
 | .seq a b=>NS a++NS b
 | .cond _ a b=>NS a++NS b
 | .block _ c=>NS c
 | .loop c=>NS c
 | _=>[]
def PG:Code->List Nat
 | .seq a b=>PG a++PG b
 | .cond _ a b=>PG a++PG b
 | .block i c=>i::PG c
 | .loop c=>PG c
 | _=>[]
def Zcs (f:Func):Code:=f.body.getD .skip
def Hk (f:Func)(n:Nat):Nat×Array Oper:=(NS (Zcs f)).getD n (0,#[])
def Zcw (f:Func)(n:Nat):Nat:=(PG (Zcs f)).getD n 0
def Z09 (f:Func)(n i:Nat):Oper:=(Hk f n).2.toList.getD i default
def Zrf (o:Oper):Call:=match o.op with | .call c=>c | _=>default
theorem Zso:IsBack Tryz.prog 157 8 true where
 ent:=⟨Tryz.f157,by kernel_rfl,by kernel_rfl,by kernel_rfl⟩
 ex:=⟨Tryz.f157,(Hk Tryz.f157 0).1,(Hk Tryz.f157 1).1,(Hk Tryz.f157 3).1,(Hk Tryz.f157 2).1,Zcw Tryz.f157 0,Zcw Tryz.f157 1,(Hk Tryz.f157 0).2,(Hk Tryz.f157 1).2,(Hk Tryz.f157 3).2,(Hk Tryz.f157 2).2,
  (Hk Tryz.f157 2).2.toList.take 6,Z09 Tryz.f157 2 6,Z09 Tryz.f157 2 7,Zrf (Z09 Tryz.f157 2 6),
  by kernel_rfl,by kernel_rfl,by kernel_rfl,by kernel_rfl,by kernel_rfl,by kernel_rfl,by kernel_rfl,by kernel_rfl,by kernel_rfl,by kernel_rfl,by kernel_rfl,by kernel_rfl,by kernel_rfl,by kernel_rfl,by kernel_rfl,by kernel_rfl,by kernel_rfl,by kernel_rfl,by kernel_rfl,by kernel_rfl,by kernel_rfl⟩
theorem Sj:Gk Tryz.prog TN:=by
 intro g s ag h
 simp only[TN,Z2z] at h
 split at h
 ·rename_i hg
  simp at h
  obtain⟨rfl,rfl⟩:=h
  subst hg
  exact Zso
 ·simp at h
def lives (f k:Nat):Option (List Nat):=if k<1000000 then Mc.SE f k else if Yj (f*1000+(k-1000000)) Mc.TH then some [] else none
def GY (t:FuncId):Env:={ br:=Zcq,th:=[],prim:=fun f=>if f=t then some Mc.NP else MA f,back:=Z2z,lives:=lives }
theorem Z20 (t:FuncId):Gk Tryz.prog (GY t):=Sj
theorem Z1z {t:FuncId}{n:Nat}(he:Go.Aug.Enters Tryz.prog t)(ht:MW (Z4 TN fnP n t [] [])=true):NH Tryz.prog (GY t):=by
 intro f g h
 simp only[GY] at h
 split at h
 ·rename_i hf
  simp at h;subst h;subst hf
  exact Zlp hm Z7z Zlq Sj he ht
 ·exact Z5g f g h
theorem XJ (t:FuncId)(ht:Yj t Mc.PR=true)(h1:t≠116)(h2:t≠117):Mc.Sur (GY t) fnP where
 Z8j:=by kernel_rfl
 Z8h:=by kernel_rfl
 Z8d:=by kernel_rfl
 Z8i:=by kernel_rfl
 Zac:=by kernel_rfl
 Z9e:=by kernel_rfl
 Zab:=by kernel_rfl
 Z9f:=by kernel_rfl
 Z9w:=by kernel_rfl
 Zb4:=by kernel_rfl
 Zb3:=by kernel_rfl
 Z8g:=by kernel_rfl
 Za5:=by kernel_rfl
 Z8f:=by kernel_rfl
 Za0:=by kernel_rfl
 Z9y:=by kernel_rfl
 Z9v:=by kernel_rfl
 Zaz:=by kernel_rfl
 Z1q:=by kernel_rfl
 Z1p:=by kernel_rfl
 Zax:=by kernel_rfl
 Z8l:=by kernel_rfl
 Za8:=by kernel_rfl
 Z9l:=by kernel_rfl
 Z9n:=by kernel_rfl
 Z9t:=by kernel_rfl
 Z9s:=by kernel_rfl
 Z9r:=by kernel_rfl
 Z9d:=by kernel_rfl
 Zb2:=by kernel_rfl
 Z9z:=by kernel_rfl
 Z8e:=by kernel_rfl
 Za3:=by kernel_rfl
 Za9:=by kernel_rfl
 Zai:=by kernel_rfl
 Zav:=by kernel_rfl
 Zau:=by kernel_rfl
 Z8z:=by kernel_rfl
 Zay:=by kernel_rfl
 Zat:=by kernel_rfl
 Zaw:=by kernel_rfl
 Z8y:=by kernel_rfl
 Zaj:=by kernel_rfl
 Zb0:=by kernel_rfl
 Za2:=by kernel_rfl
 Z98:=by kernel_rfl
 Za4:=by kernel_rfl
 Z9a:=by kernel_rfl
 Z99:=by kernel_rfl
 Z9k:=by kernel_rfl
 Z9c:=by kernel_rfl
 Z9o:=by kernel_rfl
 Z9p:=by kernel_rfl
 Z9x:=by kernel_rfl
 Z9g:=by kernel_rfl
 Za7:=by kernel_rfl
 Zb1:=by kernel_rfl
 Z8q:=by kernel_rfl
 Zas:=by kernel_rfl
 Zam:=by kernel_rfl
 Zal:=by kernel_rfl
 Zak:=by kernel_rfl
 Zap:=by kernel_rfl
 Z8p:=by kernel_rfl
 Zaq:=by kernel_rfl
 Z8o:=by kernel_rfl
 Zar:=by kernel_rfl
 Zao:=by kernel_rfl
 Zan:=by kernel_rfl
 Z8r:=by kernel_rfl
 Zae:=by kernel_rfl
 Z8v:=by kernel_rfl
 Z8u:=by kernel_rfl
 Z8w:=by kernel_rfl
 Z8x:=by kernel_rfl
 Zag:=by kernel_rfl
 Z8t:=by kernel_rfl
 Zb5:=by kernel_rfl
 Z9u:=by kernel_rfl
 Z9h:=by kernel_rfl
 Z1r:=by kernel_rfl
 Z9i:=by kernel_rfl
 Zaa:=by kernel_rfl
 Z9b:=by kernel_rfl
 Za1:=by kernel_rfl
 Z9m:=by kernel_rfl
 Z9j:=by kernel_rfl
 Z97:=by kernel_rfl
 Z93:=by kernel_rfl
 Z8c:=by kernel_rfl
 Z90:=by kernel_rfl
 Z92:=by kernel_rfl
 Zad:=by kernel_rfl
 Z8s:=by kernel_rfl
 Z8b:=by kernel_rfl
 Zb6:=by kernel_rfl
 Zah:=by kernel_rfl
 Zaf:=by kernel_rfl
 Z9q:=by kernel_rfl
 Za6:=by kernel_rfl
 Z8m:=by kernel_rfl
 Z96:=by kernel_rfl
 Z94:=by kernel_rfl
 Z8a:=by kernel_rfl
 Z88:=by kernel_rfl
 Z87:=by kernel_rfl
 Z89:=by kernel_rfl
 Z91:=by kernel_rfl
 Z8k:=by kernel_rfl
 Z8n:=by kernel_rfl
 Z95:=by kernel_rfl
 lv:=fun f k h=>if_pos h
 br:=fun _=>rfl
 tq:=fun f g=>by
  show(false || HK (if EM g<1000000 then Mc.SE f (EM g) else if Yj (f*1000+(EM g-1000000)) Mc.TH then some [] else none))=_
  have h:¬EM g<1000000:=by unfold EM;omega
  have h2:EM g-1000000=g:=by unfold EM;omega
  rw[if_neg h,h2,Bool.false_or]
  cases Yj (f*1000+g) Mc.TH<;>rfl
 pn:=fun g h=>by
  show(if g=t then some Mc.NP else MA g)=none
  have hg:g≠t:=fun e=>by rw[e,ht] at h;cases h
  rw[if_neg hg]
  unfold MA
  split
  ·simp[Mc.PR,Yj] at h
  ·simp[Mc.PR,Yj] at h
  ·rfl
 pe:=by
  show(if 116=t then some Mc.NP else MA 116)=_
  rw[if_neg (Ne.symm h1)];rfl
 pi:=by
  show(if 117=t then some Mc.NP else MA 117)=_
  rw[if_neg (Ne.symm h2)];rfl
 bk:=rfl
end Go.Proofs.YtmfdoekbjkgckaaGreat.mc
