import Derived.Test.YtmfdoekbjkgckaaGreatPv
import Derived.Test.YtmfdoekbjkgckaaGreatEvQr
import Derived.Test.YtmfdoekbjkgckaaGreatSoL
import Derived.Test.YtmfdoekbjkgckaaGreatRows
import Derived.KernelRfl
namespace Go.Proofs.YtmfdoekbjkgckaaGreat.mc
open Go Go.Aug
set_option maxRecDepth 10000000
theorem hm:Tryz.prog.follows .mixedOrders=true:=by kernel_rfl
def KE:FuncId->Option (List DV->Option (AV×List Blk))
 | 116=>some (Mj 8 48)
 | 117=>some (Mj 1 8)
 | _=>none
def Z12:FuncId->Option (Nat×Bool):=fun f=>if f=157 then some (8,true) else none
def Z9c:List FuncId:=[112,113,141,142,123,31,34,33,81]
def Sv:Env:={ br:=Z9c,th:=[116,117,67,115,30,79,49,68],prim:=KE,back:=Z12,lives:=fun f k=>bif Nat.beq f 19&&Nat.beq k 2000000 then some [] else none }
def Zd3:Env->cT->cT:=fun _ _ _ xs A=>FB 32 xs A
def Zk4:Env->cT->cT:=fun _ _ _ xs A=>S6 xs A
noncomputable def prog:FuncId->Option (Env->cT->cT):=H8 Tryz.prog
noncomputable def fnP (f:FuncId):Option (Env->cT->cT):=if f=31 then some Zd3 else if f=81 then some Zk4 else prog f
theorem Z5r:∀ f F,fnP f=some F->SY Tryz.prog f F:=by
 intro f F h
 unfold fnP at h
 split at h
 ·rename_i hf
  subst hf
  simp only[Option.some.injEq] at h
  subst h
  exact .inr so.sort_ok
 ·split at h
  ·rename_i hf
   subst hf
   simp only[Option.some.injEq] at h
   subst h
   exact .inr so.grow_ok
  ·exact .inl h
theorem Zmx:H8 Tryz.prog 116=some (SB 7 8 48 [.d (.v (.int .i64 0)),.d (.v (.int .i64 0)),.d (.v (.int .i64 0)),.d (.v (.int .i64 0)),.d (.v (.int .i64 0)),.d (.v (.bool false)),.d (.v (.bool false)),.d (.v (.bool false))]):=by kernel_rfl
theorem Zmw:H8 Tryz.prog 117=some (SB 7 1 8 [.d (.v (.int .i64 0))]):=by kernel_rfl
theorem Z3f:∀ f g,KE f=some g->Go.Aug.Enters Tryz.prog f/\∀ ds x Ac,g ds=some (x,Ac)->∀(I:Nat->Prop) (w:World) (args:Array Value),(∀ b,I b->b<w.heap.size)->Gl I w->DRs I w ds args.toList->Calls Tryz.prog f args w (ND I w x Ac):=by
 intro f g h
 unfold KE at h
 split at h
 ·simp at h;subst h;exact Z8v hm Zmx
 ·simp at h;subst h;exact Z8v hm Zmw
 ·simp at h
theorem Zgq:MF Tryz.prog Sv:=Z3f
def MR:Code->List (Nat×Array Oper)
 | .region i ops _=>[(i,ops)]
 | .seq a b=>MR a++MR b
 | .cond _ a b=>MR a++MR b
 | .block _ c=>MR c
 | .loop c=>MR c
 | _=>[]
def NA:Code->List Nat
 | .seq a b=>NA a++NA b
 | .cond _ a b=>NA a++NA b
 | .block i c=>i::NA c
 | .loop c=>NA c
 | _=>[]
def Z9f (f:Func):Code:=f.body.getD .skip
def G7 (f:Func)(n:Nat):Nat×Array Oper:=(MR (Z9f f)).getD n (0,#[])
def Z9j (f:Func)(n:Nat):Nat:=(NA (Z9f f)).getD n 0
def WN (f:Func)(n i:Nat):Oper:=(G7 f n).2.toList.getD i default
def Zm5 (o:Oper):Call:=match o.op with | .call c=>c | _=>default
theorem Zn5:IsBack Tryz.prog 157 8 true where
 ent:=⟨Tryz.f157,by kernel_rfl,by kernel_rfl,by kernel_rfl⟩
 ex:=⟨Tryz.f157,(G7 Tryz.f157 0).1,(G7 Tryz.f157 1).1,(G7 Tryz.f157 3).1,(G7 Tryz.f157 2).1,Z9j Tryz.f157 0,Z9j Tryz.f157 1,(G7 Tryz.f157 0).2,(G7 Tryz.f157 1).2,(G7 Tryz.f157 3).2,(G7 Tryz.f157 2).2,
  (G7 Tryz.f157 2).2.toList.take 6,WN Tryz.f157 2 6,WN Tryz.f157 2 7,Zm5 (WN Tryz.f157 2 6),
  by kernel_rfl,by kernel_rfl,by kernel_rfl,by kernel_rfl,by kernel_rfl,by kernel_rfl,by kernel_rfl,by kernel_rfl,by kernel_rfl,by kernel_rfl,by kernel_rfl,by kernel_rfl,by kernel_rfl,by kernel_rfl,by kernel_rfl,by kernel_rfl,by kernel_rfl,by kernel_rfl,by kernel_rfl,by kernel_rfl,by kernel_rfl⟩
theorem PW:F6 Tryz.prog Sv:=by
 intro g s ag h
 simp only[Sv,Z12] at h
 split at h
 ·rename_i hg
  simp at h
  obtain⟨rfl,rfl⟩:=h
  subst hg
  exact Zn5
 ·simp at h
def lives (f k:Nat):Option (List Nat):=if k<1000000 then Mc.R8 f k else if Yv (f*1000+(k-1000000)) Mc.TH then some [] else none
def FQ (t:FuncId):Env:={ br:=Z9c,th:=[],prim:=fun f=>if f=t then some Mc.MM else KE f,back:=Z12,lives:=lives }
theorem Z05 (t:FuncId):F6 Tryz.prog (FQ t):=PW
theorem Z04 {t:FuncId}{n:Nat}(he:Go.Aug.Enters Tryz.prog t)(ht:KX (Z5 Sv fnP n t [] [])=true):MF Tryz.prog (FQ t):=by
 intro f g h
 simp only[FQ] at h
 split at h
 ·rename_i hf
  simp at h;subst h;subst hf
  exact Zgp hm Z5r Zgq PW he ht
 ·exact Z3f f g h
theorem W0 (t:FuncId)(ht:Yv t Mc.PR=true)(h1:t≠116)(h2:t≠117):Mc.Sur (FQ t) fnP where
 Z68:=by kernel_rfl
 Z65:=by kernel_rfl
 Z61:=by kernel_rfl
 Z66:=by kernel_rfl
 Z7h:=by kernel_rfl
 Z67:=by kernel_rfl
 XW:=by kernel_rfl
 Z7w:=by kernel_rfl
 Z7v:=by kernel_rfl
 Z64:=by kernel_rfl
 Z7c:=by kernel_rfl
 Z63:=by kernel_rfl
 Z78:=by kernel_rfl
 Z76:=by kernel_rfl
 Z74:=by kernel_rfl
 Z7s:=by kernel_rfl
 XU:=by kernel_rfl
 XT:=by kernel_rfl
 Z6w:=by kernel_rfl
 Z72:=by kernel_rfl
 Z71:=by kernel_rfl
 Z70:=by kernel_rfl
 Z6p:=by kernel_rfl
 Z7u:=by kernel_rfl
 Z77:=by kernel_rfl
 Z62:=by kernel_rfl
 Z7a:=by kernel_rfl
 Z7f:=by kernel_rfl
 Z7j:=by kernel_rfl
 Z7r:=by kernel_rfl
 Z7q:=by kernel_rfl
 Z6f:=by kernel_rfl
 Z7b:=by kernel_rfl
 Z6m:=by kernel_rfl
 Z6l:=by kernel_rfl
 Z6u:=by kernel_rfl
 Z6o:=by kernel_rfl
 Z6x:=by kernel_rfl
 Z6y:=by kernel_rfl
 Z75:=by kernel_rfl
 Z6q:=by kernel_rfl
 Z7e:=by kernel_rfl
 Z7t:=by kernel_rfl
 Z6c:=by kernel_rfl
 Z7p:=by kernel_rfl
 Z7m:=by kernel_rfl
 Z7l:=by kernel_rfl
 Z7k:=by kernel_rfl
 Z7o:=by kernel_rfl
 Z7n:=by kernel_rfl
 Z6d:=by kernel_rfl
 Z6e:=by kernel_rfl
 Z73:=by kernel_rfl
 Z6r:=by kernel_rfl
 XV:=by kernel_rfl
 Z6s:=by kernel_rfl
 Z7g:=by kernel_rfl
 Z6n:=by kernel_rfl
 Z79:=by kernel_rfl
 Z6v:=by kernel_rfl
 Z6t:=by kernel_rfl
 Z6k:=by kernel_rfl
 Z6g:=by kernel_rfl
 Z7i:=by kernel_rfl
 Z60:=by kernel_rfl
 Z7x:=by kernel_rfl
 Z6z:=by kernel_rfl
 Z7d:=by kernel_rfl
 Z6a:=by kernel_rfl
 Z6j:=by kernel_rfl
 Z6h:=by kernel_rfl
 Z5z:=by kernel_rfl
 Z5y:=by kernel_rfl
 Z69:=by kernel_rfl
 Z6b:=by kernel_rfl
 Z6i:=by kernel_rfl
 lv:=fun f k h=>if_pos h
 br:=fun _=>rfl
 tq:=fun f g=>by
  show(false || GK (if Dx g<1000000 then Mc.R8 f (Dx g) else if Yv (f*1000+(Dx g-1000000)) Mc.TH then some [] else none))=_
  have h:¬Dx g<1000000:=by unfold Dx;omega
  have h2:Dx g-1000000=g:=by unfold Dx;omega
  rw[if_neg h,h2,Bool.false_or]
  cases Yv (f*1000+g) Mc.TH<;>rfl
 pn:=fun g h=>by
  show(if g=t then some Mc.MM else KE g)=none
  have hg:g≠t:=fun e=>by rw[e,ht] at h;cases h
  rw[if_neg hg]
  unfold KE
  split
  ·simp[Mc.PR,Yv] at h
  ·simp[Mc.PR,Yv] at h
  ·rfl
 pe:=by
  show(if 116=t then some Mc.MM else KE 116)=_
  rw[if_neg (Ne.symm h1)];rfl
 pi:=by
  show(if 117=t then some Mc.MM else KE 117)=_
  rw[if_neg (Ne.symm h2)];rfl
 bk:=rfl
end Go.Proofs.YtmfdoekbjkgckaaGreat.mc
