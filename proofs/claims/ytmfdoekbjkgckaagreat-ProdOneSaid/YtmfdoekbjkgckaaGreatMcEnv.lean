import Derived.Test.YtmfdoekbjkgckaaGreatPc
import Derived.Test.YtmfdoekbjkgckaaGreatEvQr
import Derived.Test.YtmfdoekbjkgckaaGreatSoL
import Derived.Test.YtmfdoekbjkgckaaGreatRows
import Derived.KernelRfl
namespace Go.Proofs.YtmfdoekbjkgckaaGreat.mc
open Go Go.Aug
set_option maxRecDepth 10000000
theorem hm:Tryz.prog.follows .mixedOrders=true:=by kernel_rfl
def M9:FuncId->Option (List DV->Option (AV×List Blk))
 | 116=>some (KA 8 48)
 | 117=>some (KA 1 8)
 | _=>none
def Z2f:FuncId->Option (Nat×Bool):=fun f=>if f=157 then some (8,true) else none
def Zc1:List FuncId:=[112,113,141,142,123,31,34,33,81]
def Tz:Env:={ br:=Zc1,th:=[116,117,67,115,30,79,49,68],prim:=M9,back:=Z2f,lives:=fun f k=>bif Nat.beq f 19&&Nat.beq k 2000000 then some [] else none }
def Zgg:Env->cT->cT:=fun _ _ _ xs A=>Gw 32 xs A
def Zoi:Env->cT->cT:=fun _ _ _ xs A=>T6 xs A
noncomputable def prog:FuncId->Option (Env->cT->cT):=HX Tryz.prog
noncomputable def fnP (f:FuncId):Option (Env->cT->cT):=if f=31 then some Zgg else if f=81 then some Zoi else prog f
theorem Z7c:∀ f F,fnP f=some F->U2 Tryz.prog f F:=by
 intro f F h
 unfold fnP at h
 split at h
 ·rename_i hf
  subst hf
  simp only[Option.some.injEq] at h
  subst h
  exact .inr so.sort_ok
 ·split at h
  ·rename_i hf
   subst hf
   simp only[Option.some.injEq] at h
   subst h
   exact .inr so.grow_ok
  ·exact .inl h
theorem Zri:HX Tryz.prog 116=some (TA 7 8 48 [.d (.v (.int .i64 0)),.d (.v (.int .i64 0)),.d (.v (.int .i64 0)),.d (.v (.int .i64 0)),.d (.v (.int .i64 0)),.d (.v (.bool false)),.d (.v (.bool false)),.d (.v (.bool false))]):=by kernel_rfl
theorem Zrh:HX Tryz.prog 117=some (TA 7 1 8 [.d (.v (.int .i64 0))]):=by kernel_rfl
theorem Z4u:∀ f g,M9 f=some g->Go.Aug.Enters Tryz.prog f/\∀ ds x Ac,g ds=some (x,Ac)->∀(I:Nat->Prop) (w:World) (args:Array Value),(∀ b,I b->b<w.heap.size)->Gl I w->DRs I w ds args.toList->Calls Tryz.prog f args w (PA I w x Ac):=by
 intro f g h
 unfold M9 at h
 split at h
 ·simp at h;subst h;exact Zbd hm Zri
 ·simp at h;subst h;exact Zbd hm Zrh
 ·simp at h
theorem Zku:Nw Tryz.prog Tz:=Z4u
def NG:Code->List (Nat×Array Oper)
 | .region i ops _=>[(i,ops)]
 | .seq a b=>NG a++NG b
 | .cond _ a b=>NG a++NG b
 | .block _ c=>NG c
 | .loop c=>NG c
 | _=>[]
def Pw:Code->List Nat
 | .seq a b=>Pw a++Pw b
 | .cond _ a b=>Pw a++Pw b
 | .block i c=>i::Pw c
 | .loop c=>Pw c
 | _=>[]
def Zc3 (f:Func):Code:=f.body.getD .skip
def H5 (f:Func)(n:Nat):Nat×Array Oper:=(NG (Zc3 f)).getD n (0,#[])
def Zc7 (f:Func)(n:Nat):Nat:=(Pw (Zc3 f)).getD n 0
def XV (f:Func)(n i:Nat):Oper:=(H5 f n).2.toList.getD i default
def Zqh (o:Oper):Call:=match o.op with | .call c=>c | _=>default
theorem Zrs:IsBack Tryz.prog 157 8 true where
 ent:=⟨Tryz.f157,by kernel_rfl,by kernel_rfl,by kernel_rfl⟩
 ex:=⟨Tryz.f157,(H5 Tryz.f157 0).1,(H5 Tryz.f157 1).1,(H5 Tryz.f157 3).1,(H5 Tryz.f157 2).1,Zc7 Tryz.f157 0,Zc7 Tryz.f157 1,(H5 Tryz.f157 0).2,(H5 Tryz.f157 1).2,(H5 Tryz.f157 3).2,(H5 Tryz.f157 2).2,
  (H5 Tryz.f157 2).2.toList.take 6,XV Tryz.f157 2 6,XV Tryz.f157 2 7,Zqh (XV Tryz.f157 2 6),
  by kernel_rfl,by kernel_rfl,by kernel_rfl,by kernel_rfl,by kernel_rfl,by kernel_rfl,by kernel_rfl,by kernel_rfl,by kernel_rfl,by kernel_rfl,by kernel_rfl,by kernel_rfl,by kernel_rfl,by kernel_rfl,by kernel_rfl,by kernel_rfl,by kernel_rfl,by kernel_rfl,by kernel_rfl,by kernel_rfl,by kernel_rfl⟩
theorem S0:G6 Tryz.prog Tz:=by
 intro g s ag h
 simp only[Tz,Z2f] at h
 split at h
 ·rename_i hg
  simp at h
  obtain⟨rfl,rfl⟩:=h
  subst hg
  exact Zrs
 ·simp at h
def lives (f k:Nat):Option (List Nat):=if k<1000000 then Mc.Sj f k else if Yj (f*1000+(k-1000000)) Mc.TH then some [] else none
def GQ (t:FuncId):Env:={ br:=Zc1,th:=[],prim:=fun f=>if f=t then some Mc.ND else M9 f,back:=Z2f,lives:=lives }
theorem Z1j (t:FuncId):G6 Tryz.prog (GQ t):=S0
theorem Z1i {t:FuncId}{n:Nat}(he:Go.Aug.Enters Tryz.prog t)(ht:MM (Z4 Tz fnP n t [] [])=true):Nw Tryz.prog (GQ t):=by
 intro f g h
 simp only[GQ] at h
 split at h
 ·rename_i hf
  simp at h;subst h;subst hf
  exact Zkt hm Z7c Zku S0 he ht
 ·exact Z4u f g h
theorem Xj (t:FuncId)(ht:Yj t Mc.PR=true)(h1:t≠116)(h2:t≠117):Mc.Sur (GQ t) fnP where
 Z7v:=by kernel_rfl
 Z7u:=by kernel_rfl
 Z7q:=by kernel_rfl
 Z9o:=by kernel_rfl
 Z8r:=by kernel_rfl
 Z9n:=by kernel_rfl
 Z8s:=by kernel_rfl
 Z99:=by kernel_rfl
 Z7w:=by kernel_rfl
 Z7t:=by kernel_rfl
 Z9h:=by kernel_rfl
 Z7s:=by kernel_rfl
 Z9c:=by kernel_rfl
 Z9b:=by kernel_rfl
 Z98:=by kernel_rfl
 Zab:=by kernel_rfl
 Z19:=by kernel_rfl
 Z18:=by kernel_rfl
 Za9:=by kernel_rfl
 Z7y:=by kernel_rfl
 Z9k:=by kernel_rfl
 Z8y:=by kernel_rfl
 Z90:=by kernel_rfl
 Z96:=by kernel_rfl
 Z95:=by kernel_rfl
 Z94:=by kernel_rfl
 Z8q:=by kernel_rfl
 Z7r:=by kernel_rfl
 Z9f:=by kernel_rfl
 Z9l:=by kernel_rfl
 Z9u:=by kernel_rfl
 Za7:=by kernel_rfl
 Za6:=by kernel_rfl
 Z8c:=by kernel_rfl
 Zaa:=by kernel_rfl
 Za5:=by kernel_rfl
 Za8:=by kernel_rfl
 Z8b:=by kernel_rfl
 Z9v:=by kernel_rfl
 Zac:=by kernel_rfl
 Z9e:=by kernel_rfl
 Z8l:=by kernel_rfl
 Z9g:=by kernel_rfl
 Z8n:=by kernel_rfl
 Z8m:=by kernel_rfl
 Z8x:=by kernel_rfl
 Z8p:=by kernel_rfl
 Z91:=by kernel_rfl
 Z92:=by kernel_rfl
 Z9a:=by kernel_rfl
 Z8t:=by kernel_rfl
 Z9j:=by kernel_rfl
 Zad:=by kernel_rfl
 Z83:=by kernel_rfl
 Za4:=by kernel_rfl
 Z9y:=by kernel_rfl
 Z9x:=by kernel_rfl
 Z9w:=by kernel_rfl
 Za1:=by kernel_rfl
 Z82:=by kernel_rfl
 Za2:=by kernel_rfl
 Z81:=by kernel_rfl
 Za3:=by kernel_rfl
 Za0:=by kernel_rfl
 Z9z:=by kernel_rfl
 Z84:=by kernel_rfl
 Z9q:=by kernel_rfl
 Z88:=by kernel_rfl
 Z87:=by kernel_rfl
 Z89:=by kernel_rfl
 Z8a:=by kernel_rfl
 Z9s:=by kernel_rfl
 Z86:=by kernel_rfl
 Zae:=by kernel_rfl
 Z97:=by kernel_rfl
 Z8u:=by kernel_rfl
 Z1a:=by kernel_rfl
 Z8v:=by kernel_rfl
 Z9m:=by kernel_rfl
 Z8o:=by kernel_rfl
 Z9d:=by kernel_rfl
 Z8z:=by kernel_rfl
 Z8w:=by kernel_rfl
 Z8k:=by kernel_rfl
 Z8g:=by kernel_rfl
 Z7p:=by kernel_rfl
 Z8d:=by kernel_rfl
 Z8f:=by kernel_rfl
 Z9p:=by kernel_rfl
 Z85:=by kernel_rfl
 Z7o:=by kernel_rfl
 Zaf:=by kernel_rfl
 Z9t:=by kernel_rfl
 Z9r:=by kernel_rfl
 Z93:=by kernel_rfl
 Z9i:=by kernel_rfl
 Z7z:=by kernel_rfl
 Z8j:=by kernel_rfl
 Z8h:=by kernel_rfl
 Z7n:=by kernel_rfl
 Z7l:=by kernel_rfl
 Z7k:=by kernel_rfl
 Z7m:=by kernel_rfl
 Z8e:=by kernel_rfl
 Z7x:=by kernel_rfl
 Z80:=by kernel_rfl
 Z8i:=by kernel_rfl
 lv:=fun f k h=>if_pos h
 br:=fun _=>rfl
 tq:=fun f g=>by
  show(false || HB (if ED g<1000000 then Mc.Sj f (ED g) else if Yj (f*1000+(ED g-1000000)) Mc.TH then some [] else none))=_
  have h:¬ED g<1000000:=by unfold ED;omega
  have h2:ED g-1000000=g:=by unfold ED;omega
  rw[if_neg h,h2,Bool.false_or]
  cases Yj (f*1000+g) Mc.TH<;>rfl
 pn:=fun g h=>by
  show(if g=t then some Mc.ND else M9 g)=none
  have hg:g≠t:=fun e=>by rw[e,ht] at h;cases h
  rw[if_neg hg]
  unfold M9
  split
  ·simp[Mc.PR,Yj] at h
  ·simp[Mc.PR,Yj] at h
  ·rfl
 pe:=by
  show(if 116=t then some Mc.ND else M9 116)=_
  rw[if_neg (Ne.symm h1)];rfl
 pi:=by
  show(if 117=t then some Mc.ND else M9 117)=_
  rw[if_neg (Ne.symm h2)];rfl
 bk:=rfl
end Go.Proofs.YtmfdoekbjkgckaaGreat.mc
