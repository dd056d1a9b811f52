import Derived.Test.YtmfdoekbjkgckaaGreatPi
import Derived.Test.YtmfdoekbjkgckaaGreatEvQr
import Derived.Test.YtmfdoekbjkgckaaGreatSoL
import Derived.Test.YtmfdoekbjkgckaaGreatRows
import Derived.KernelRfl
namespace Go.Proofs.YtmfdoekbjkgckaaGreat.mc
open Go Go.Aug
set_option maxRecDepth 10000000
theorem hm:Tryz.prog.follows .mixedOrders=true:=by kernel_rfl
def HN:FuncId->Option (List DV->Option (AV×List Blk))
 | 116=>some (NP 8 48)
 | 117=>some (NP 1 8)
 | _=>none
def X6:FuncId->Option (Nat×Bool):=fun f=>if f=157 then some (8,true) else none
def Z6u:List FuncId:=[112,113,141,142,123,31,34,33,81]
def Rj:Env:={ br:=Z6u,th:=[116,117,67,115,30,79,49,68],prim:=HN,back:=X6,lives:=fun f k=>bif Nat.beq f 19&&Nat.beq k 2000000 then some [] else none }
def Z9x:Env->cT->cT:=fun _ _ _ xs A=>P9 32 xs A
def Zfx:Env->cT->cT:=fun _ _ _ xs A=>D7 xs A
noncomputable def prog:FuncId->Option (Env->cT->cT):=GA Tryz.prog
noncomputable def fnP (f:FuncId):Option (Env->cT->cT):=if f=31 then some Z9x else if f=81 then some Zfx else prog f
theorem Z3u:∀ f F,fnP f=some F->RR Tryz.prog f F:=by
 intro f F h
 unfold fnP at h
 split at h
 ·rename_i hf
  subst hf
  simp only[Option.some.injEq] at h
  subst h
  exact .inr so.sort_ok
 ·split at h
  ·rename_i hf
   subst hf
   simp only[Option.some.injEq] at h
   subst h
   exact .inr so.grow_ok
  ·exact .inl h
theorem Zik:GA Tryz.prog 116=some (Rx 7 8 48 [.d (.v (.int .i64 0)),.d (.v (.int .i64 0)),.d (.v (.int .i64 0)),.d (.v (.int .i64 0)),.d (.v (.int .i64 0)),.d (.v (.bool false)),.d (.v (.bool false)),.d (.v (.bool false))]):=by kernel_rfl
theorem Zij:GA Tryz.prog 117=some (Rx 7 1 8 [.d (.v (.int .i64 0))]):=by kernel_rfl
theorem Z1r:∀ f g,HN f=some g->Go.Aug.Enters Tryz.prog f/\∀ ds x Ac,g ds=some (x,Ac)->∀(I:Nat->Prop) (w:World) (args:Array Value),(∀ b,I b->b<w.heap.size)->Gl I w->DRs I w ds args.toList->Calls Tryz.prog f args w (MN I w x Ac):=by
 intro f g h
 unfold HN at h
 split at h
 ·simp at h;subst h;exact Z6h hm Zik
 ·simp at h;subst h;exact Z6h hm Zij
 ·simp at h
theorem Zcp:KN Tryz.prog Rj:=Z1r
def KX:Code->List (Nat×Array Oper)
 | .region i ops _=>[(i,ops)]
 | .seq a b=>KX a++KX b
 | .cond _ a b=>KX a++KX b
 | .block _ c=>KX c
 | .loop c=>KX c
 | _=>[]
def MH:Code->List Nat
 | .seq a b=>MH a++MH b
 | .cond _ a b=>MH a++MH b
 | .block i c=>i::MH c
 | .loop c=>MH c
 | _=>[]
def Z6x (f:Func):Code:=f.body.getD .skip
def FM (f:Func)(n:Nat):Nat×Array Oper:=(KX (Z6x f)).getD n (0,#[])
def Z72 (f:Func)(n:Nat):Nat:=(MH (Z6x f)).getD n 0
def V0 (f:Func)(n i:Nat):Oper:=(FM f n).2.toList.getD i default
def Zhx (o:Oper):Call:=match o.op with | .call c=>c | _=>default
theorem Ziv:IsBack Tryz.prog 157 8 true where
 ent:=⟨Tryz.f157,by kernel_rfl,by kernel_rfl,by kernel_rfl⟩
 ex:=⟨Tryz.f157,(FM Tryz.f157 0).1,(FM Tryz.f157 1).1,(FM Tryz.f157 3).1,(FM Tryz.f157 2).1,Z72 Tryz.f157 0,Z72 Tryz.f157 1,(FM Tryz.f157 0).2,(FM Tryz.f157 1).2,(FM Tryz.f157 3).2,(FM Tryz.f157 2).2,
  (FM Tryz.f157 2).2.toList.take 6,V0 Tryz.f157 2 6,V0 Tryz.f157 2 7,Zhx (V0 Tryz.f157 2 6),
  by kernel_rfl,by kernel_rfl,by kernel_rfl,by kernel_rfl,by kernel_rfl,by kernel_rfl,by kernel_rfl,by kernel_rfl,by kernel_rfl,by kernel_rfl,by kernel_rfl,by kernel_rfl,by kernel_rfl,by kernel_rfl,by kernel_rfl,by kernel_rfl,by kernel_rfl,by kernel_rfl,by kernel_rfl,by kernel_rfl,by kernel_rfl⟩
theorem NV:ED Tryz.prog Rj:=by
 intro g s ag h
 simp only[Rj,X6] at h
 split at h
 ·rename_i hg
  simp at h
  obtain⟨rfl,rfl⟩:=h
  subst hg
  exact Ziv
 ·simp at h
def lives (f k:Nat):Option (List Nat):=if k<1000000 then Mc.P7 f k else if ZW (f*1000+(k-1000000)) Mc.TH then some [] else none
def F4 (t:FuncId):Env:={ br:=Z6u,th:=[],prim:=fun f=>if f=t then some Mc.KT else HN f,back:=X6,lives:=lives }
theorem Wz (t:FuncId):ED Tryz.prog (F4 t):=NV
theorem Wx {t:FuncId}{n:Nat}(he:Go.Aug.Enters Tryz.prog t)(ht:K3 (Z5 Rj fnP n t [] [])=true):KN Tryz.prog (F4 t):=by
 intro f g h
 simp only[F4] at h
 split at h
 ·rename_i hf
  simp at h;subst h;subst hf
  exact Zco hm Z3u Zcp NV he ht
 ·exact Z1r f g h
theorem UB (t:FuncId)(ht:ZW t Mc.PR=true)(h1:t≠116)(h2:t≠117):Mc.Sur (F4 t) fnP where
 Z47:=by kernel_rfl
 Z46:=by kernel_rfl
 Z42:=by kernel_rfl
 Z4g:=by kernel_rfl
 Z4x:=by kernel_rfl
 Z48:=by kernel_rfl
 Z5b:=by kernel_rfl
 Z45:=by kernel_rfl
 Z55:=by kernel_rfl
 Z44:=by kernel_rfl
 Z50:=by kernel_rfl
 Z4z:=by kernel_rfl
 Z4w:=by kernel_rfl
 Z58:=by kernel_rfl
 Z4m:=by kernel_rfl
 Z4o:=by kernel_rfl
 Z4u:=by kernel_rfl
 Z4t:=by kernel_rfl
 Z4s:=by kernel_rfl
 Z4f:=by kernel_rfl
 Z5d:=by kernel_rfl
 Z49:=by kernel_rfl
 Z5e:=by kernel_rfl
 Z43:=by kernel_rfl
 Z53:=by kernel_rfl
 Z59:=by kernel_rfl
 Z52:=by kernel_rfl
 Z4a:=by kernel_rfl
 Z54:=by kernel_rfl
 Z4c:=by kernel_rfl
 Z4b:=by kernel_rfl
 Z4l:=by kernel_rfl
 Z4e:=by kernel_rfl
 Z4p:=by kernel_rfl
 Z4q:=by kernel_rfl
 Z4y:=by kernel_rfl
 Z4h:=by kernel_rfl
 Z5f:=by kernel_rfl
 Z5c:=by kernel_rfl
 Z57:=by kernel_rfl
 Z4v:=by kernel_rfl
 Z4i:=by kernel_rfl
 W5:=by kernel_rfl
 Z4j:=by kernel_rfl
 Z5a:=by kernel_rfl
 Z4d:=by kernel_rfl
 Z51:=by kernel_rfl
 Z4n:=by kernel_rfl
 Z4k:=by kernel_rfl
 Z4r:=by kernel_rfl
 Z56:=by kernel_rfl
 lv:=fun f k h=>if_pos h
 br:=fun _=>rfl
 tq:=fun f g=>by
  show(false || G3 (if CU g<1000000 then Mc.P7 f (CU g) else if ZW (f*1000+(CU g-1000000)) Mc.TH then some [] else none))=_
  have h:¬CU g<1000000:=by unfold CU;omega
  have h2:CU g-1000000=g:=by unfold CU;omega
  rw[if_neg h,h2,Bool.false_or]
  cases ZW (f*1000+g) Mc.TH<;>rfl
 pn:=fun g h=>by
  show(if g=t then some Mc.KT else HN g)=none
  have hg:g≠t:=fun e=>by rw[e,ht] at h;cases h
  rw[if_neg hg]
  unfold HN
  split
  ·simp[Mc.PR,ZW] at h
  ·simp[Mc.PR,ZW] at h
  ·rfl
 pe:=by
  show(if 116=t then some Mc.KT else HN 116)=_
  rw[if_neg (Ne.symm h1)];rfl
 pi:=by
  show(if 117=t then some Mc.KT else HN 117)=_
  rw[if_neg (Ne.symm h2)];rfl
 bk:=rfl
end Go.Proofs.YtmfdoekbjkgckaaGreat.mc
