import Derived.Test.YtmfdoekbjkgckaaGreatMc11
import Derived.Test.YtmfdoekbjkgckaaGreatBr
import Derived.Test.YtmfdoekbjkgckaaGreatMc36
import Derived.Test.YtmfdoekbjkgckaaGreatMl
namespace Go.Aug.Mc
open Go Go.Aug
open Nat renaming reduceLT -> zN0, reduceEqDiff -> zN1, reduceAdd -> zN2, reduceMul -> zN3, reduceLeDiff -> zN4
open Int renaming reduceEq -> zI0, reduceLT -> zI1, reduceLE -> zI2, reduceNeg -> zI3
set_option linter.unusedSimpArgs false
set_option linter.unusedVariables false
set_option maxHeartbeats 40000000
variable {E:Env} {fn:FuncId->Option (Env->cT->cT)}
section
variable (S:Sur E fn)
include S
theorem Nj:E.lives 52 1=none:=off S 52 1 (by decide) rfl
theorem Zeq (dp:Nat)(p:Prog)(hl:p.mems.length<1073741824)(hr:∀ m ∈ p.mems,0<=m.n/\m.n<=16)(kx:Nat->K)(kr:K):∀ m k f,k+m=p.mems.length->m<=f->
  MP (Zj E 52) (Z5 E fn dp) (Z9 8 MP (Zj E 52) (Z5 E fn dp) kx kr f) kx kr (mk .bot 21 [(1,.ref 0 0 0),(3,aI (ZT (p.mems.take k))),(4,aI k)]) [.cells ((YH p).map .d) 0 false]=
  kx 0 (mk .bot 21 [(9,ZZ false),(8,aI p.mems.length),(7,.d (rD p.mems)),(6,.ref 0 0 7),(5,aI p.mems.length),(1,.ref 0 0 0),(3,aI (ZT p.mems)),(4,aI p.mems.length)]) [.cells ((YH p).map .d) 0 false]:=by
 intro m
 induction m with
 | zero=>
  intro k f hk _
  obtain rfl:k=p.mems.length:=by omega
  generalize Z9 8 MP _ _ kx kr f=KK
  rw[MP,List.take_of_length_le (by omega)]
  simp only[eG,go_sem,Z2 S,Z1 S,zN0,zN1,zN2,zN3,zN4,zI0,zI1,zI2,zI3,reduceCtorEq,Nj S,Int.lt_irrefl]
 | succ m ih=>
  intro k f hk hf
  obtain⟨e,he⟩:=QB (show k<p.mems.length by omega)
  obtain⟨f,rfl⟩:∃ g,f=g+1:=⟨f-1,by omega⟩
  generalize hK:Z9 8 MP _ _ kx kr (f+1)=KK
  rw[MP]
  have hb:=MC (p.mems.take k)
  have hbl:(p.mems.take k).length<=p.mems.length:=by simp;omega
  have hen:=hr e (List.mem_of_getElem? he)
  have hw:IntKind.i64.wrap (ZT (p.mems.take k)+e.n)=ZT (p.mems.take (k+1)):=by
   rw[WM he,Int.max_eq_left hen.1,Int.min_eq_left hen.2]
   exact YM (by omega) (by omega)
  simp only[eG,go_sem,Z2 S,Z1 S,zN0,zN1,zN2,zN3,zN4,zI0,zI1,zI2,zI3,reduceCtorEq,Nj S,show(k:Int)<p.mems.length by omega,ZF he,wi k (by omega),hw]
  rw[<-hK,Z6 (on S _ _ [1,3,4] (by decide) rfl) rfl _ _ _ _ _ _ _ _ _ rfl]
  simp only[eG,go_sem,Z2 S,Z1 S,zN0,zN1,zN2,zN3,zN4,zI0,zI1,zI2,zI3,reduceCtorEq,Nj S]
  exact ih (k+1) f (by omega) (by omega)
theorem Zbg (dp:Nat)(p:Prog)(hl:p.mems.length<1073741824)(hr:∀ m ∈ p.mems,0<=m.n/\m.n<=16):Z7 E fn (dp+1) 52 [ZP p] (vi (ZT p.mems)):=by
 unfold Z7
 show Zz (Z5 E fn (dp+1) 52 [.d (ZP p)] [])=_
 rw[Yx,S.Z53,Yw,Z8o,Yq _ _ _ _ _ _ _ _ rfl]
 simp only[eG,go_sem,Z2 S,Z1 S,zN0,zN1,zN2,zN3,zN4,zI0,zI1,zI2,zI3,reduceCtorEq,Nj S]
 rw[ZU,Z6 (on S _ _ [1,3,4] (by decide) rfl) rfl _ _ _ _ _ _ _ _ _ rfl]
 simp only[eG,go_sem,Z2 S,Z1 S,zN0,zN1,zN2,zN3,zN4,zI0,zI1,zI2,zI3,reduceCtorEq,Nj S]
 have:=fun kx kr=>Zeq S dp p hl hr kx kr p.mems.length 0 999999999999999999999999999999 (by omega) (by omega)
 simp only[go_sem,List.take_zero,Int.cast_ofNat_Int,show ZT ([]:List MemT)=0 from rfl] at this
 rw[this]
 simp only[eG,go_sem,Z2 S,Z1 S,zN0,zN1,zN2,zN3,zN4,zI0,zI1,zI2,zI3,reduceCtorEq,Nj S]
end
set_option maxRecDepth 200000
def Dq (n:Int)(q:List Place):Prop:=∀ x ∈ q,(x.reg=true->0<=x.n/\x.n<4)/\(x.reg=false->0<=x.n/\x.n<n)
theorem Dq.app {n:Int}{q:List Place}(h:Dq n q){x:Place}(h1:x.reg=true->0<=x.n/\x.n<4)(h2:x.reg=false->0<=x.n/\x.n<n):Dq n (q++[x]):=by
 intro y hy
 rcases List.mem_append.1 hy with hy | hy
 ·exact h y hy
 ·simp at hy;subst hy;exact⟨h1,h2⟩
def N6 (p:Prog):Nat->Nat->List Place->List Place
 | 0,_,q=>q
 | m+1,k,q=>N6 p m (k+1) (if Md.BD p.regs k=0 then q else q++[⟨true,(k:Int),decide (Md.BD p.regs k=2)⟩])
def N7 (s:Bool):Nat->Int->List Place->List Place
 | 0,_,q=>q
 | m+1,a,q=>N7 s m (a+1) (q++[⟨false,a,s⟩])
def PH:List MemT->Int->List Place->List Place
 | [],_,q=>q
 | e::l,a,q=>PH l (a+e.n) (N7 e.secret e.n.toNat a q)
def places (p:Prog):List Place:=PH p.mems 0 (N6 p 4 0 [])
theorem Zhu (l:List MemT)(i:Nat):ZT (l.take i)<=ZT l:=by
 have h:ZT l=ZT (l.take i)+ZT (l.drop i):=by
  unfold ZT
  rw[<-List.sum_append,<-List.map_append,List.take_append_drop]
 have:=(MC (l.drop i)).1
 omega
theorem NX {A:List Blk}{bytes j v:Nat}{out:List Place}{a b:Bool}{n:Int}(hA:A[j]? =some (.cells ((rC out).map .d) v false))(h1:(out.length+1)*bytes<=Z4)(h2:out.length+1<=Z4):
  ZS A 3 bytes (.sref j v 0 out.length 3 none) [.d (vb a),.d (vi n),.d (vb b)] 1=some (.turn j (.cells ((rC (out++[⟨a,n,b⟩])).map .d) (v+1) false) (.sref j (v+1) 0 (out.length+1) 3 none)):=
 MJ (x:=(⟨a,n,b⟩:Place)) hA rfl (by decide) rfl h1 h2
theorem Nw (A:List Blk)(x y z:DV)(k:Option Nat):CH A false 3 (.d (.lst [x,y,z] 1 k))=some ([.d x,.d y,.d z],1):=rfl
theorem T2 {α:Type}(o:List α)(x:α):(o++[x]).length≠0:=by simp
theorem C3 {α:Type} [Cl α] {l:List α}(h:l.length=0)(i:Nat):Bw i l=.d (.lst [] 0 (some 0)):=by rw[List.length_eq_zero_iff.1 h];rfl
theorem C2 {α:Type} [Cl α] {l:List α}(h:l.length=0):Bz l=[]:=by rw[List.length_eq_zero_iff.1 h];rfl
variable {E:Env} {fn:FuncId->Option (Env->cT->cT)}
section
variable (S:Sur E fn)
include S
theorem QF:E.lives 27 1=none/\E.lives 27 15=none:=⟨off S 27 1 (by decide) rfl,off S 27 15 (by decide) rfl⟩
theorem Zcz (dp:Nat)(N:Int)(p:Prog)(kx:Nat->K)(P:Option DV->Prop)(Q:List Place)
  (hx:∀ T q,ZG .bot T 1=.ref 0 0 0->ZG .bot T 3=Bw 1 (q:List Place)->Dq N q->q.length<=4->q=Q->P (Zz (kx 0 (mk .bot 58 T) ([.cells ((YH p).map .d) 0 false]++Bz q)))):
  ∀(m k f:Nat) (q:List Place),k+m=4->m<=f->Dq N q->q.length<=k->N6 p m k q=Q->
  P (Zz (H9 (Zj E 27) (Z5 E fn dp) (Z9 8 H9 (Zj E 27) (Z5 E fn dp) kx (YD 0 [.tmp 2]) f) kx (YD 0 [.tmp 2]) (mk .bot 58 [(1,.ref 0 0 0),(3,Bw 1 q),(4,aI k)]) ([.cells ((YH p).map .d) 0 false]++Bz q))):=by
 intro m
 induction m with
 | zero=>
  intro k f q hk _ hq hl hQ
  obtain rfl:k=4:=by omega
  generalize Z9 8 H9 _ _ kx _ f=KK
  first | (conv=>lhs;rw[H9]) | rw[H9]
  by_cases h0:q.length=0
  ·rw [C3 h0, C2 h0]
   have:=fun T a b=>hx T q a (by rw[C3 h0];exact b) hq (by omega) hQ
   rw[C2 h0] at this
   simp only[eG,go_sem,Z2 S,Z1 S,zN0,zN1,zN2,zN3,zN4,zI0,zI1,zI2,zI3,reduceCtorEq,QF S,Int.cast_ofNat_Int]
   exact this _ rfl rfl
  ·rw [Yk h0, Yj h0]
   have:=fun T a b=>hx T q a (by rw[Yk h0];exact b) hq (by omega) hQ
   rw[Yj h0] at this
   simp only[eG,go_sem,Z2 S,Z1 S,zN0,zN1,zN2,zN3,zN4,zI0,zI1,zI2,zI3,reduceCtorEq,QF S,Int.cast_ofNat_Int]
   exact this _ rfl rfl
 | succ m ih=>
  intro k f q hk hf hq hl hQ
  obtain⟨f,rfl⟩:∃ g,f=g+1:=⟨f-1,by omega⟩
  generalize hK:Z9 8 H9 _ _ kx _ (f+1)=KK
  first | (conv=>lhs;rw[H9]) | rw[H9]
  have lim:Z4=1099511627776:=rfl
  have k1:(q.length+1)*24<=Z4:=by omega
  have k2:q.length+1<=Z4:=by omega
  have skip:=fun(h:Md.BD p.regs k=0)=>ih (k+1) f q (by omega) (by omega) hq (by omega) (by rw[<-hQ,N6,if_pos h])
  have put:=fun(h:¬Md.BD p.regs k=0)=>ih (k+1) f (q++[⟨true,(k:Int),decide (Md.BD p.regs k=2)⟩]) (by omega) (by omega) (hq.app (fun _=>by constructor<;>(show _;simp only;omega)) (fun h=>by cases h)) (by simp;omega) (by rw[<-hQ,N6,if_neg h])
  simp only[Yk (T2 _ _),Yj (T2 _ _),List.length_append,List.length_singleton] at put
  have hk4:k=0∨k=1∨k=2∨k=3:=by omega
  have hk5:(k:Int)<4:=by omega
  have hld:AY false 1 ([AV.d (vi p.w),AV.d (vi p.window),AV.d (vi p.fuel),AV.d (vi p.regs.r0),AV.d (vi p.regs.r1),AV.d (vi p.regs.r2),AV.d (vi p.regs.r3),AV.d (rD p.mems),AV.d (rD p.labels),AV.d (rD p.ins)].drop (3+k*1))=some (.d (vi (Md.BD p.regs k))):=by
   rcases hk4 with rfl | rfl | rfl | rfl<;>rfl
  clear hQ
  generalize Md.BD p.regs k=r at hld skip put
  by_cases h0:q.length=0
  ·have hq0 : q = [] := List.length_eq_zero_iff.1 h0
   subst hq0
   simp only[QK,QJ,List.append_nil] at skip ⊢
   by_cases hr:r=0
   ·simp only [eG, go_sem, Z2 S, Z1 S, zN0, zN1, zN2, zN3, zN4, zI0, zI1, zI2, zI3, reduceCtorEq, QF S, ZB, ZC, ZD, ZE, Zq, Nw, NX, Option.map_some, Nat.zero_add, Nat.one_mul, Nat.zero_mul, and_self, true_and, and_true, show (0 : Nat) < 1 by decide, show (1 : Nat) * 24 <= Z4 by decide, show (24 : Nat) <= Z4 by decide, show (1 : Nat) <= Z4 by decide, Int.cast_ofNat_Int, Int.reduceToNat, Int.toNat_zero, Int.reduceMul, hld, eq_true hr, hk5, Int.natCast_nonneg, Int.toNat_natCast, wi k (by omega)]
    rw[<-hK,Z6 (on S _ _ [1,3,4] (by decide) rfl) rfl _ _ _ _ _ _ _ _ _ rfl]
    simp only[eG,go_sem,Z2 S,Z1 S,zN0,zN1,zN2,zN3,zN4,zI0,zI1,zI2,zI3,reduceCtorEq,QF S]
    exact skip hr
   ·simp only [eG, go_sem, Z2 S, Z1 S, zN0, zN1, zN2, zN3, zN4, zI0, zI1, zI2, zI3, reduceCtorEq, QF S, ZB, ZC, ZD, ZE, Zq, Nw, NX, Option.map_some, Nat.zero_add, Nat.one_mul, Nat.zero_mul, and_self, true_and, and_true, show (0 : Nat) < 1 by decide, show (1 : Nat) * 24 <= Z4 by decide, show (24 : Nat) <= Z4 by decide, show (1 : Nat) <= Z4 by decide, Int.cast_ofNat_Int, Int.reduceToNat, Int.toNat_zero, Int.reduceMul, hld, hr, hk5, Int.natCast_nonneg, Int.toNat_natCast, wi k (by omega)]
    rw[<-hK,Z6 (on S _ _ [1,3,4] (by decide) rfl) rfl _ _ _ _ _ _ _ _ _ rfl]
    simp only[eG,go_sem,Z2 S,Z1 S,zN0,zN1,zN2,zN3,zN4,zI0,zI1,zI2,zI3,reduceCtorEq,QF S]
    exact put hr
  ·simp only [Yk h0, Yj h0] at skip ⊢
   by_cases hr:r=0
   ·simp only [eG, go_sem, Z2 S, Z1 S, zN0, zN1, zN2, zN3, zN4, zI0, zI1, zI2, zI3, reduceCtorEq, QF S, ZB, ZC, ZD, ZE, Zq, Nw, NX, Option.map_some, Nat.zero_add, Nat.one_mul, Nat.zero_mul, and_self, true_and, and_true, show (0 : Nat) < 1 by decide, show (1 : Nat) * 24 <= Z4 by decide, show (24 : Nat) <= Z4 by decide, show (1 : Nat) <= Z4 by decide, Int.cast_ofNat_Int, Int.reduceToNat, Int.toNat_zero, Int.reduceMul, hld, eq_true hr, hk5, Int.natCast_nonneg, Int.toNat_natCast, wi k (by omega)]
    rw[<-hK,Z6 (on S _ _ [1,3,4] (by decide) rfl) rfl _ _ _ _ _ _ _ _ _ rfl]
    simp only[eG,go_sem,Z2 S,Z1 S,zN0,zN1,zN2,zN3,zN4,zI0,zI1,zI2,zI3,reduceCtorEq,QF S]
    exact skip hr
   ·simp only [eG, go_sem, Z2 S, Z1 S, zN0, zN1, zN2, zN3, zN4, zI0, zI1, zI2, zI3, reduceCtorEq, QF S, ZB, ZC, ZD, ZE, Zq, Nw, NX, Option.map_some, Nat.zero_add, Nat.one_mul, Nat.zero_mul, and_self, true_and, and_true, show (0 : Nat) < 1 by decide, show (1 : Nat) * 24 <= Z4 by decide, show (24 : Nat) <= Z4 by decide, show (1 : Nat) <= Z4 by decide, Int.cast_ofNat_Int, Int.reduceToNat, Int.toNat_zero, Int.reduceMul, hld, hr, hk5, Int.natCast_nonneg, Int.toNat_natCast, wi k (by omega), k1, k2]
    rw[<-hK,Z6 (on S _ _ [1,3,4] (by decide) rfl) rfl _ _ _ _ _ _ _ _ _ rfl]
    simp only[eG,go_sem,Z2 S,Z1 S,zN0,zN1,zN2,zN3,zN4,zI0,zI1,zI2,zI3,reduceCtorEq,QF S]
    exact put hr
theorem Zcx (dp:Nat)(p:Prog)(hms:∀ m ∈ p.mems,0<=m.n/\m.n<=16)(hml:p.mems.length<1000)(i:Nat)(e:MemT)(he:p.mems[i]? =some e)(kx:Nat->K)(P:Option DV->Prop)(Q:List Place)
  (hx:∀ T q,ZG .bot T 1=.ref 0 0 0->ZG .bot T 3=Bw 1 (q:List Place)->ZG .bot T 5=aI (ZT (p.mems.take (i+1)))->ZG .bot T 6=aI i->Dq (ZT p.mems) q->(q.length:Int)<=4+ZT (p.mems.take (i+1))->q=Q->P (Zz (kx 4 (mk .bot 58 T) ([.cells ((YH p).map .d) 0 false]++Bz q)))):
  ∀(m k f:Nat) (q:List Place),((k+m:Nat):Int)=e.n->m<=f->Dq (ZT p.mems) q->(q.length:Int)<=4+ZT (p.mems.take i)+k->N7 e.secret m (ZT (p.mems.take i)+k) q=Q->
  P (Zz (Hq (Zj E 27) (Z5 E fn dp) (Z9 26 Hq (Zj E 27) (Z5 E fn dp) kx (YD 0 [.tmp 2]) f) kx (YD 0 [.tmp 2]) (mk .bot 58 [(1,.ref 0 0 0),(3,Bw 1 q),(5,aI (ZT (p.mems.take i)+k)),(6,aI i),(7,aI k)]) ([.cells ((YH p).map .d) 0 false]++Bz q))):=by
 have hen:=hms e (List.mem_of_getElem? he)
 have hS:ZT (p.mems.take (i+1))=ZT (p.mems.take i)+e.n:=by rw[WM he,Int.max_eq_left hen.1,Int.min_eq_left hen.2]
 have hS0:=MC (p.mems.take i)
 have hSl:(p.mems.take i).length<=p.mems.length:=by simp;omega
 have hSm:=Zhu p.mems (i+1)
 have lim:Z4=1099511627776:=rfl
 intro m
 induction m with
 | zero=>
  intro k f q hk _ hq hl hQ
  have hkn:¬(k:Int)<e.n:=by omega
  have hat:ZT (p.mems.take i)+(k:Int)=ZT (p.mems.take (i+1)):=by omega
  rw[hat]
  generalize Z9 26 Hq _ _ kx _ f=KK
  first | (conv=>lhs;rw[Hq]) | rw[Hq]
  by_cases h0:q.length=0
  ·have := fun T a b c d => hx T q a (by rw [C3 h0]; exact b) c d hq (by omega) hQ
   rw[C2 h0] at this
   rw[C3 h0,C2 h0]
   simp only[eG,go_sem,Z2 S,Z1 S,zN0,zN1,zN2,zN3,zN4,zI0,zI1,zI2,zI3,reduceCtorEq,QF S,ZF he,hkn]
   exact this _ rfl rfl rfl rfl
  ·have := fun T a b c d => hx T q a (by rw [Yk h0]; exact b) c d hq (by omega) hQ
   rw[Yj h0] at this
   rw[Yk h0,Yj h0]
   simp only[eG,go_sem,Z2 S,Z1 S,zN0,zN1,zN2,zN3,zN4,zI0,zI1,zI2,zI3,reduceCtorEq,QF S,ZF he,hkn]
   exact this _ rfl rfl rfl rfl
 | succ m ih=>
  intro k f q hk hf hq hl hQ
  obtain⟨f,rfl⟩:∃ g,f=g+1:=⟨f-1,by omega⟩
  have hkn:(k:Int)<e.n:=by omega
  generalize hK:Z9 26 Hq _ _ kx _ (f+1)=KK
  first | (conv=>lhs;rw[Hq]) | rw[Hq]
  have k1:(q.length+1)*24<=Z4:=by omega
  have k2:q.length+1<=Z4:=by omega
  have wat:IntKind.i64.wrap (ZT (p.mems.take i)+(k:Int)+1)=ZT (p.mems.take i)+((k+1:Nat):Int):=by rw[YM (by omega) (by omega)];omega
  have put:=ih (k+1) f (q++[⟨false,ZT (p.mems.take i)+(k:Int),e.secret⟩]) (by omega) (by omega) (hq.app (fun h=>by cases h) (fun _=>by constructor<;>(show _;simp only;omega))) (by simp;omega) (by rw[<-hQ,N7];congr 1;omega)
  simp only[Yk (T2 _ _),Yj (T2 _ _)] at put
  rw[List.length_append,List.length_singleton] at put
  by_cases h0:q.length=0
  ·have hq0 : q = [] := List.length_eq_zero_iff.1 h0
   subst hq0
   rw[QK,QJ,List.append_nil]
   simp only[eG,go_sem,Z2 S,Z1 S,zN0,zN1,zN2,zN3,zN4,zI0,zI1,zI2,zI3,reduceCtorEq,QF S,ZB,ZC,ZD,ZE,Zq,Nw,NX,Option.map_some,Nat.zero_add,Nat.one_mul,Nat.zero_mul,and_self,true_and,and_true,show(0:Nat)<1 by decide,show(1:Nat)*24<=Z4 by decide,show(24:Nat)<=Z4 by decide,show(1:Nat)<=Z4 by decide,Int.cast_ofNat_Int,Int.reduceToNat,Int.toNat_zero,Int.reduceMul,ZF he,hkn,wi k (by omega),wat]
   rw[<-hK,Z6 (on S _ _ [1,3,5,6,7] (by decide) rfl) rfl _ _ _ _ _ _ _ _ _ rfl]
   simp only[eG,go_sem,Z2 S,Z1 S,zN0,zN1,zN2,zN3,zN4,zI0,zI1,zI2,zI3,reduceCtorEq,QF S]
   exact put
  ·rw [Yk h0, Yj h0]
   simp only[eG,go_sem,Z2 S,Z1 S,zN0,zN1,zN2,zN3,zN4,zI0,zI1,zI2,zI3,reduceCtorEq,QF S,ZB,ZC,ZD,ZE,Zq,Nw,NX,Option.map_some,Nat.zero_add,Nat.one_mul,Nat.zero_mul,and_self,true_and,and_true,show(0:Nat)<1 by decide,show(1:Nat)*24<=Z4 by decide,show(24:Nat)<=Z4 by decide,show(1:Nat)<=Z4 by decide,Int.cast_ofNat_Int,Int.reduceToNat,Int.toNat_zero,Int.reduceMul,ZF he,hkn,wi k (by omega),wat,k1,k2]
   rw[<-hK,Z6 (on S _ _ [1,3,5,6,7] (by decide) rfl) rfl _ _ _ _ _ _ _ _ _ rfl]
   simp only[eG,go_sem,Z2 S,Z1 S,zN0,zN1,zN2,zN3,zN4,zI0,zI1,zI2,zI3,reduceCtorEq,QF S]
   exact put
theorem Zcy (dp:Nat)(p:Prog)(hms:∀ m ∈ p.mems,0<=m.n/\m.n<=16)(hml:p.mems.length<1000)(kx:Nat->K)(P:Option DV->Prop)(Q:List Place)
  (hx:∀ T q,ZG .bot T 3=Bw 1 (q:List Place)->Dq (ZT p.mems) q->q.length<=20000->q=Q->P (Zz (kx 2 (mk .bot 58 T) ([.cells ((YH p).map .d) 0 false]++Bz q)))):
  ∀(m i f:Nat) (q:List Place),i+m=p.mems.length->m<=f->Dq (ZT p.mems) q->(q.length:Int)<=4+ZT (p.mems.take i)->PH (p.mems.drop i) (ZT (p.mems.take i)) q=Q->
  P (Zz (Hz (Zj E 27) (Z5 E fn dp) (Z9 20 Hz (Zj E 27) (Z5 E fn dp) kx (YD 0 [.tmp 2]) f) kx (YD 0 [.tmp 2]) (mk .bot 58 [(1,.ref 0 0 0),(3,Bw 1 q),(5,aI (ZT (p.mems.take i))),(6,aI i)]) ([.cells ((YH p).map .d) 0 false]++Bz q))):=by
 intro m
 induction m with
 | zero=>
  intro i f q hk _ hq hl hQ
  rw[List.drop_of_length_le (by omega)] at hQ
  have hb:=MC (p.mems.take i)
  have hbl:(p.mems.take i).length<=p.mems.length:=by simp;omega
  have hin:¬(i:Int)<p.mems.length:=by omega
  generalize Z9 20 Hz _ _ kx _ f=KK
  first | (conv=>lhs;rw[Hz]) | rw[Hz]
  by_cases h0:q.length=0
  ·have := fun T b => hx T q (by rw [C3 h0]; exact b) hq (by omega) hQ
   rw[C2 h0] at this
   rw[C3 h0,C2 h0]
   simp only[eG,go_sem,Z2 S,Z1 S,zN0,zN1,zN2,zN3,zN4,zI0,zI1,zI2,zI3,reduceCtorEq,QF S,hin]
   exact this _ rfl
  ·have := fun T b => hx T q (by rw [Yk h0]; exact b) hq (by omega) hQ
   rw[Yj h0] at this
   rw[Yk h0,Yj h0]
   simp only[eG,go_sem,Z2 S,Z1 S,zN0,zN1,zN2,zN3,zN4,zI0,zI1,zI2,zI3,reduceCtorEq,QF S,hin]
   exact this _ rfl
 | succ m ih=>
  intro i f q hk hf hq hl hQ
  obtain⟨e,he⟩:=QB (show i<p.mems.length by omega)
  obtain⟨f,rfl⟩:∃ g,f=g+1:=⟨f-1,by omega⟩
  have hin:(i:Int)<p.mems.length:=by omega
  have hen:=hms e (List.mem_of_getElem? he)
  generalize hK:Z9 20 Hz _ _ kx _ (f+1)=KK
  first | (conv=>lhs;rw[Hz]) | rw[Hz]
  have hS:ZT (p.mems.take (i+1))=ZT (p.mems.take i)+e.n:=by rw[WM he,Int.max_eq_left hen.1,Int.min_eq_left hen.2]
  have hQ':PH (p.mems.drop (i+1)) (ZT (p.mems.take (i+1))) (N7 e.secret e.n.toNat (ZT (p.mems.take i)) q)=Q:=by rw[<-hQ,E9 he,PH,hS]
  have inner:=fun(kx':Nat->K) hx'=>Zcx S dp p hms hml i e he kx' P (N7 e.secret e.n.toNat (ZT (p.mems.take i)) q) hx' e.n.toNat 0 999999999999999999999999999999 q (by omega) (by omega) hq (by omega) (by simp)
  by_cases h0:q.length=0
  ·rw [C3 h0, C2 h0]
   simp only[C3 h0,C2 h0,Int.cast_ofNat_Int,Int.add_zero] at inner
   simp only[eG,go_sem,Z2 S,Z1 S,zN0,zN1,zN2,zN3,zN4,zI0,zI1,zI2,zI3,reduceCtorEq,QF S,hin]
   rw[ZU,Z6 (on S _ _ [1,3,5,6,7] (by decide) rfl) rfl _ _ _ _ _ _ _ _ _ rfl]
   simp only[eG,go_sem,Z2 S,Z1 S,zN0,zN1,zN2,zN3,zN4,zI0,zI1,zI2,zI3,reduceCtorEq,QF S]
   refine inner _ ?_
   intro T q' t1 t3 t5 t6 hq' hl' hQq
   have next:=ih (i+1) f q' (by omega) (by omega) hq' hl' (by rw[hQq];exact hQ')
   by_cases h1:q'.length=0
   ·rw [C3 h1] at t3
    rw[C2 h1]
    rw[C3 h1,C2 h1] at next
    simp only[eG,go_sem,Z2 S,Z1 S,zN0,zN1,zN2,zN3,zN4,zI0,zI1,zI2,zI3,reduceCtorEq,QF S,t1,t3,t5,t6,wi i (by omega)]
    rw[<-hK,Z6 (on S _ _ [1,3,5,6] (by decide) rfl) rfl _ _ _ _ _ _ _ _ _ rfl]
    simp only[eG,go_sem,Z2 S,Z1 S,zN0,zN1,zN2,zN3,zN4,zI0,zI1,zI2,zI3,reduceCtorEq,QF S,t1,t3,t5,t6]
    exact next
   ·rw [Yk h1] at t3
    rw[Yj h1]
    rw[Yk h1,Yj h1] at next
    simp only[eG,go_sem,Z2 S,Z1 S,zN0,zN1,zN2,zN3,zN4,zI0,zI1,zI2,zI3,reduceCtorEq,QF S,t1,t3,t5,t6,wi i (by omega)]
    rw[<-hK,Z6 (on S _ _ [1,3,5,6] (by decide) rfl) rfl _ _ _ _ _ _ _ _ _ rfl]
    simp only[eG,go_sem,Z2 S,Z1 S,zN0,zN1,zN2,zN3,zN4,zI0,zI1,zI2,zI3,reduceCtorEq,QF S,t1,t3,t5,t6]
    exact next
  ·rw [Yk h0, Yj h0]
   simp only[Yk h0,Yj h0,Int.cast_ofNat_Int,Int.add_zero] at inner
   simp only[eG,go_sem,Z2 S,Z1 S,zN0,zN1,zN2,zN3,zN4,zI0,zI1,zI2,zI3,reduceCtorEq,QF S,hin]
   rw[ZU,Z6 (on S _ _ [1,3,5,6,7] (by decide) rfl) rfl _ _ _ _ _ _ _ _ _ rfl]
   simp only[eG,go_sem,Z2 S,Z1 S,zN0,zN1,zN2,zN3,zN4,zI0,zI1,zI2,zI3,reduceCtorEq,QF S]
   refine inner _ ?_
   intro T q' t1 t3 t5 t6 hq' hl' hQq
   have next:=ih (i+1) f q' (by omega) (by omega) hq' hl' (by rw[hQq];exact hQ')
   by_cases h1:q'.length=0
   ·rw [C3 h1] at t3
    rw[C2 h1]
    rw[C3 h1,C2 h1] at next
    simp only[eG,go_sem,Z2 S,Z1 S,zN0,zN1,zN2,zN3,zN4,zI0,zI1,zI2,zI3,reduceCtorEq,QF S,t1,t3,t5,t6,wi i (by omega)]
    rw[<-hK,Z6 (on S _ _ [1,3,5,6] (by decide) rfl) rfl _ _ _ _ _ _ _ _ _ rfl]
    simp only[eG,go_sem,Z2 S,Z1 S,zN0,zN1,zN2,zN3,zN4,zI0,zI1,zI2,zI3,reduceCtorEq,QF S,t1,t3,t5,t6]
    exact next
   ·rw [Yk h1] at t3
    rw[Yj h1]
    rw[Yk h1,Yj h1] at next
    simp only[eG,go_sem,Z2 S,Z1 S,zN0,zN1,zN2,zN3,zN4,zI0,zI1,zI2,zI3,reduceCtorEq,QF S,t1,t3,t5,t6,wi i (by omega)]
    rw[<-hK,Z6 (on S _ _ [1,3,5,6] (by decide) rfl) rfl _ _ _ _ _ _ _ _ _ rfl]
    simp only[eG,go_sem,Z2 S,Z1 S,zN0,zN1,zN2,zN3,zN4,zI0,zI1,zI2,zI3,reduceCtorEq,QF S,t1,t3,t5,t6]
    exact next
end
theorem Zaa (n:Nat):rep [zi] n=(rC (List.replicate n (0:Int))).map .d:=by
 induction n with
 | zero=>rfl
 | succ n ih=>show zi::rep [zi] n=_;rw[ih];rfl
theorem Z2g (n nb:Nat)(h:n<=100000):T6 [zi] 1 8 nb (aI n) (aI n)=some (.made (.sref nb 0 0 n 1 (some n)) [.cells ((rC (List.replicate n (0:Int))).map .d) 0 false]):=by
 have lim:Z4=1099511627776:=rfl
 show(if(0:Int)<=n/\(n:Int)<=n/\8*(n:Int)<=Z4/\(n:Int)<=Z4 then some (Done.made (.sref nb 0 0 (n:Int).toNat 1 (some (n:Int).toNat)) [.cells (rep [zi] (n:Int).toNat) 0 false]) else none)=_
 rw[if_pos (by omega),Int.toNat_natCast,Zaa]
theorem Z24 (E:Env)(call:cT)(tm:List AV)(A:List Blk)(nb:Nat)(z:List AV)(s bytes:Nat)(l c:Opd):M3 z s bytes l c E call tm A nb=T6 z s bytes nb (look tm l) (look tm c):=id rfl
structure SOk (N:Int) (s:State):Prop where
 mem:(s.mem.length:Int)=N
 mv:∀ x ∈ s.mem,0<=x
 rg:0<=s.regs.r0/\0<=s.regs.r1/\0<=s.regs.r2/\0<=s.regs.r3
 stk:s.stack=[]
 pc:s.pc=0
 mh:∀ x ∈ s.mem,x<65537
 rh:s.regs.r0<65537/\s.regs.r1<65537/\s.regs.r2<65537/\s.regs.r3<65537
theorem VD (w n:Int):Md.ZR w n<65537:=by
 unfold Md.ZR
 cases h:Md.J2 w with
 | false=>show(0:Int)<65537;decide
 | true=>
  unfold Md.J2 at h
  rw[Bool.and_eq_true,decide_eq_true_eq,decide_eq_true_eq] at h
  show n%2^w.toNat<65537
  have h1:(0:Int)<2^w.toNat:=Int.pow_pos (by decide)
  have h2:=Int.emod_lt_of_pos n h1
  have h3:2^w.toNat<=2^16:=Nat.pow_le_pow_right (by decide) (by omega)
  have h4:((2^w.toNat:Nat):Int)=2^w.toNat:=by push_cast;rfl
  have h5:(2:Nat)^16=65536:=by decide
  omega
theorem Z0j {r:Regs}{M:Int}(h:r.r0<M/\r.r1<M/\r.r2<M/\r.r3<M)(i:Int){n:Int}(hn:n<M):(Md.AD r i n).r0<M/\(Md.AD r i n).r1<M/\(Md.AD r i n).r2<M/\(Md.AD r i n).r3<M:=by
 obtain⟨a,b,c,d⟩:=h
 unfold Md.AD
 split
 ·exact⟨hn,b,c,d⟩
 ·split
  ·exact⟨a,hn,c,d⟩
  ·split
   ·exact⟨a,b,hn,d⟩
   ·split
    ·exact⟨a,b,c,hn⟩
    ·exact⟨a,b,c,d⟩
variable {E:Env} {fn:FuncId->Option (Env->cT->cT)}
section
variable (S:Sur E fn)
include S
theorem FV:E.lives 27 1=none/\E.lives 27 15=none:=⟨off S 27 1 (by decide) rfl,off S 27 15 (by decide) rfl⟩
theorem GS:E.lives 28 1=none/\E.lives 28 9=none/\E.lives 28 23=none:=⟨off S 28 1 (by decide) rfl,off S 28 9 (by decide) rfl,off S 28 23 (by decide) rfl⟩
theorem Z0n (dp:Nat)(p:Prog)(hms:∀ m ∈ p.mems,0<=m.n/\m.n<=16)(hml:p.mems.length<1000):Z7 E fn (dp+1) 27 [ZP p] (rD (places p))/\Dq (ZT p.mems) (places p)/\(places p).length<=20000:=by
 obtain⟨P,hP⟩:∃ P:Option DV->Prop,P=fun o=>o=some (rD (places p))/\Dq (ZT p.mems) (places p)/\(places p).length<=20000:=⟨_,rfl⟩
 have fin:∀ q:List Place,Dq (ZT p.mems) q->q.length<=20000->q=places p->P (some (rD q)):=fun q h1 h2 h3=>by subst h3;rw[hP];exact⟨rfl,h1,h2⟩
 have key:P (Zz (Z5 E fn (dp+1) 27 [.d (ZP p)] [])):=by
  clear hP
  rw[Yx,S.Z50,Yw,Z8l,Yq _ _ _ _ _ _ _ _ rfl]
  simp only[eG,go_sem,Z2 S,Z1 S,zN0,zN1,zN2,zN3,zN4,zI0,zI1,zI2,zI3,reduceCtorEq,FV S]
  rw[ZU,Z6 (on S _ _ [1,3,4] (by decide) rfl) rfl _ _ _ _ _ _ _ _ _ rfl]
  simp only[eG,go_sem,Z2 S,Z1 S,zN0,zN1,zN2,zN3,zN4,zI0,zI1,zI2,zI3,reduceCtorEq,FV S]
  refine Zcz S dp (ZT p.mems) p _ P (N6 p 4 0 []) ?_ 4 0 _ [] (by omega) (by omega) (by intro x hx;cases hx) (by simp) rfl
  intro T q t1 t3 hq hl hQ
  have next:=fun(kx:Nat->K) hx=>Zcy S dp p hms hml kx P (places p) hx p.mems.length 0 999999999999999999999999999999 q (by omega) (by omega) hq (by simp[ZT];omega) (by rw[hQ];rfl)
  have e0:ZT (p.mems.take 0)=0:=rfl
  rw[e0] at next
  by_cases h0:q.length=0
  ·rw [C3 h0] at t3
   rw[C2 h0]
   simp only[C3 h0,C2 h0] at next
   simp only[eG,go_sem,Z2 S,Z1 S,zN0,zN1,zN2,zN3,zN4,zI0,zI1,zI2,zI3,reduceCtorEq,FV S,t1,t3]
   rw[ZU,Z6 (on S _ _ [1,3,5,6] (by decide) rfl) rfl _ _ _ _ _ _ _ _ _ rfl]
   simp only[eG,go_sem,Z2 S,Z1 S,zN0,zN1,zN2,zN3,zN4,zI0,zI1,zI2,zI3,reduceCtorEq,FV S,t1,t3]
   refine next _ ?_
   intro T q' t3 hq' hl' hQ'
   by_cases h1:q'.length=0
   ·rw [C3 h1] at t3
    rw[C2 h1]
    simp only[eG,go_sem,Z2 S,Z1 S,zN0,zN1,zN2,zN3,zN4,zI0,zI1,zI2,zI3,reduceCtorEq,FV S,t3]
    have e:q'=[]:=List.length_eq_zero_iff.1 h1
    subst e
    exact fin [] hq' hl' hQ'
   ·rw [Yk h1] at t3
    rw[Yj h1]
    have hne:q'≠[]:=fun e=>h1 (by rw[e];rfl)
    have hd:deep [.cells ((rC q').map .d) 0 false] 8 (.sref 0 0 0 q'.length 3 none)=some (.lst (rC q') q'.length none,[0]):=Ck q' hne _ rfl 6 3 none rfl
    simp only[eG,go_sem,Z2 S,Z1 S,zN0,zN1,zN2,zN3,zN4,zI0,zI1,zI2,zI3,reduceCtorEq,FV S,t3,hd]
    exact fin q' hq' hl' hQ'
  ·rw [Yk h0] at t3
   rw[Yj h0]
   simp only[Yk h0,Yj h0] at next
   simp only[eG,go_sem,Z2 S,Z1 S,zN0,zN1,zN2,zN3,zN4,zI0,zI1,zI2,zI3,reduceCtorEq,FV S,t1,t3]
   rw[ZU,Z6 (on S _ _ [1,3,5,6] (by decide) rfl) rfl _ _ _ _ _ _ _ _ _ rfl]
   simp only[eG,go_sem,Z2 S,Z1 S,zN0,zN1,zN2,zN3,zN4,zI0,zI1,zI2,zI3,reduceCtorEq,FV S,t1,t3]
   refine next _ ?_
   intro T q' t3 hq' hl' hQ'
   by_cases h1:q'.length=0
   ·rw [C3 h1] at t3
    rw[C2 h1]
    simp only[eG,go_sem,Z2 S,Z1 S,zN0,zN1,zN2,zN3,zN4,zI0,zI1,zI2,zI3,reduceCtorEq,FV S,t3]
    have e:q'=[]:=List.length_eq_zero_iff.1 h1
    subst e
    exact fin [] hq' hl' hQ'
   ·rw [Yk h1] at t3
    rw[Yj h1]
    have hne:q'≠[]:=fun e=>h1 (by rw[e];rfl)
    have hd:deep [.cells ((rC q').map .d) 0 false] 8 (.sref 0 0 0 q'.length 3 none)=some (.lst (rC q') q'.length none,[0]):=Ck q' hne _ rfl 6 3 none rfl
    simp only[eG,go_sem,Z2 S,Z1 S,zN0,zN1,zN2,zN3,zN4,zI0,zI1,zI2,zI3,reduceCtorEq,FV S,t3,hd]
    exact fin q' hq' hl' hQ'
 rw[hP] at key
 exact key
def Pj:Blk:=.cells [zi,zi,zi,zi,zn,zn,zi] 0 false
def Pk (rg:Regs)(n:Nat):Blk:=.cells [.d (vi rg.r0),.d (vi rg.r1),.d (vi rg.r2),.d (vi rg.r3),.sref 3 0 0 n 1 (some n),zn,zi] 0 false
theorem Z9m (dp:Nat)(p:Prog)(q:List Place)(n:Nat)(hq:Dq n q)(hql:q.length<=20000)(l:List Int)(hll:l.length=q.length)(kx:Nat->K)(P:Option DV->Prop)
  (hx:∀ T rg mem,ZG .bot T 4=.ref 1 0 0->ZG .bot T 7=.ref 2 0 0->(mem:List Int).length=n->(∀ x ∈ mem,0<=x/\x<65537)->((0<=rg.r0/\0<=rg.r1/\0<=rg.r2/\0<=rg.r3)/\(rg.r0<65537/\rg.r1<65537/\rg.r2<65537/\rg.r3<65537))->P (Zz (kx 0 (mk .bot 58 T) [.cells ((YH p).map .d) 0 false,Pj,Pk rg n,.cells ((rC mem).map .d) 0 false]))):
  ∀(m k f:Nat) (rg:Regs) (mem:List Int),k+m=q.length->m<=f->mem.length=n->(∀ x ∈ mem,0<=x/\x<65537)->((0<=rg.r0/\0<=rg.r1/\0<=rg.r2/\0<=rg.r3)/\(rg.r0<65537/\rg.r1<65537/\rg.r2<65537/\rg.r3<65537))->
  P (Zz (HA (Zj E 28) (Z5 E fn (dp+3)) (Z9 14 HA (Zj E 28) (Z5 E fn (dp+3)) kx (YD 0 [.cell 4 true 7,.tmp 5]) f) kx (YD 0 [.cell 4 true 7,.tmp 5]) (mk .bot 58 [(1,.d (rD l)),(2,.ref 0 0 0),(4,.ref 1 0 0),(6,.d (rD q)),(7,.ref 2 0 0),(8,aI k)]) [.cells ((YH p).map .d) 0 false,Pj,Pk rg n,.cells ((rC mem).map .d) 0 false])):=by
 intro m
 induction m with
 | zero=>
  intro k f rg mem hk _ hm hv hr
  have hkq:¬(k:Int)<q.length:=by omega
  generalize Z9 14 HA _ _ kx _ f=KK
  first | (conv=>lhs;rw[HA]) | rw[HA]
  simp only[eG,go_sem,Z2 S,Z1 S,zN0,zN1,zN2,zN3,zN4,zI0,zI1,zI2,zI3,reduceCtorEq,GS S,hkq]
  exact hx _ rg mem rfl rfl hm hv hr
 | succ m ih=>
  intro k f rg mem hk hf hm hv hr
  obtain⟨x,hxq⟩:=QB (show k<q.length by omega)
  obtain⟨y,hyl⟩:=QB (show k<l.length by omega)
  obtain⟨f,rfl⟩:∃ g,f=g+1:=⟨f-1,by omega⟩
  have hkq:(k:Int)<q.length:=by omega
  have hx1:=hq x (List.mem_of_getElem? hxq)
  have hy0:=Md.EW p.w y
  have next:=fun rg' mem' h1 h2 h3=>ih (k+1) f rg' mem' (by omega) (by omega) h1 h2 h3
  generalize hK:Z9 14 HA _ _ kx _ (f+1)=KK
  first | (conv=>lhs;rw[HA]) | rw[HA]
  unfold Pj Pk
  unfold Pj Pk at next
  cases hreg:x.reg with
  | true=>
   obtain⟨a0,a1⟩:=hx1.1 hreg
   have hst:∀(A:List Blk) (v:Int) (m s q:AV),storeAt A 2 0 (x.n.toNat*1) [.d (vi v)] 1 (some (.cells [.d (vi rg.r0),.d (vi rg.r1),.d (vi rg.r2),.d (vi rg.r3),m,s,q] 0 false))=some (A.set 2 (.cells [.d (vi (Md.AD rg x.n v).r0),.d (vi (Md.AD rg x.n v).r1),.d (vi (Md.AD rg x.n v).r2),.d (vi (Md.AD rg x.n v).r3),m,s,q] 0 false)):=fun A v m s q=>by
    have d4:x.n=0∨x.n=1∨x.n=2∨x.n=3:=by omega
    rcases d4 with d | d | d | d<;>rw[d]<;>rfl
   simp only[eG,go_sem,Z2 S,Z1 S,zN0,zN1,zN2,zN3,zN4,zI0,zI1,zI2,zI3,reduceCtorEq,GS S,hkq,ZF hyl,ZF hxq,J5 S,hreg,a0,a1,hst,Int.cast_ofNat_Int,true_and,and_self,if_true,Nat.zero_add,wi k (by omega)]
   rw[<-hK,Z6 (on S _ _ [1,2,4,6,7,8] (by decide) rfl) rfl _ _ _ _ _ _ _ _ _ rfl]
   simp only[eG,go_sem,Z2 S,Z1 S,zN0,zN1,zN2,zN3,zN4,zI0,zI1,zI2,zI3,reduceCtorEq,GS S]
   exact next (Md.AD rg x.n (Md.ZR p.w y)) mem hm hv ⟨Md.Z0i hr.1 x.n hy0,Z0j hr.2 x.n (VD p.w y)⟩
  | false=>
   obtain⟨a0,a1⟩:=hx1.2 hreg
   have a2:x.n.toNat<mem.length:=by omega
   have hst:∀(A:List Blk) (j:Nat) (v:Int),storeAt A j 0 (x.n.toNat*1) [.d (vi v)] 1 (some (.cells ((rC mem).map .d) 0 false))=some (A.set j (.cells ((rC (mem.set x.n.toNat v)).map .d) 0 false)):=fun A j v=>
    MX (o:=0) (e':=v) [vi v] (List.getElem?_eq_getElem a2) rfl rfl rfl rfl (by show 0+1<=1;decide) 1 rfl _ rfl
   simp only[eG,go_sem,Z2 S,Z1 S,zN0,zN1,zN2,zN3,zN4,zI0,zI1,zI2,zI3,reduceCtorEq,GS S,hkq,ZF hyl,ZF hxq,J5 S,hreg,a0,a1,hst,Int.cast_ofNat_Int,true_and,and_self,if_true,Nat.zero_add,wi k (by omega)]
   rw[<-hK,Z6 (on S _ _ [1,2,4,6,7,8] (by decide) rfl) rfl _ _ _ _ _ _ _ _ _ rfl]
   simp only[eG,go_sem,Z2 S,Z1 S,zN0,zN1,zN2,zN3,zN4,zI0,zI1,zI2,zI3,reduceCtorEq,GS S]
   exact next rg (mem.set x.n.toNat (Md.ZR p.w y)) (by rw[List.length_set];exact hm) (fun z hz=>by
    rcases List.mem_or_eq_of_mem_set hz with hz | rfl
    ·exact hv z hz
    ·exact⟨hy0,VD p.w y⟩) hr
theorem Z0m (dp:Nat)(p:Prog)(hms:∀ m ∈ p.mems,0<=m.n/\m.n<=16)(hml:p.mems.length<1000)(q:List Place)(hsq:Z7 E fn (dp+3) 27 [ZP p] (rD q))(hq:Dq (ZT p.mems) q)(hql:q.length<=20000)(l:List Int)(hll:l.length=q.length):
  ∃ s:State,Z7 E fn (dp+4) 28 [ZP p,rD l] (.tup [JD s,vb true])/\SOk (ZT p.mems) s:=by
 have hcl:=MC p.mems
 obtain⟨n,hn⟩:=Int.eq_ofNat_of_zero_le hcl.1
 have hn1:n<=100000:=by omega
 rw[hn] at hq ⊢
 obtain⟨P,hP⟩:∃ P:Option DV->Prop,P=fun o=>∃ s:State,o=some (.tup [JD s,vb true])/\SOk n s:=⟨_,rfl⟩
 have fin:∀ s:State,SOk n s->P (some (.tup [JD s,vb true])):=fun s h=>by rw[hP];exact⟨s,rfl,h⟩
 have cP:=fun(A:List Blk) (nb:Nat)=>Z7.deep hsq (np S 27 (by decide)) A nb
 simp only[ZP,YH] at cP
 have hml':p.mems.length<1073741824:=by omega
 have cC:=fun(A:List Blk) (nb:Nat) (us:List Nat)=>Z7.flat (Zbg S (dp+2) p hml' hms) (np S 52 (by decide)) rfl A nb us
 simp only[ZP,YH,hn] at cC
 have key:P (Zz (Z5 E fn (dp+4) 28 [.d (ZP p),.d (rD l)] [])):=by
  clear hP
  show P (Zz (Z5 E fn (dp+3+1) 28 [.d (ZP p),.d (rD l)] []))
  rw[Yx,S.Z4z,Yw,Z8k,Yq _ _ _ _ _ _ _ _ rfl]
  simp only[eG,go_sem,Z2 S,Z1 S,zN0,zN1,zN2,zN3,zN4,zI0,zI1,zI2,zI3,reduceCtorEq,GS S,cP,hll,cC,Z24,Z2g n _ hn1,ne_eq,not_true_eq_false]
  rw[ZU,Z6 (on S _ _ [1,2,4,6,7,8] (by decide) rfl) rfl _ _ _ _ _ _ _ _ _ rfl]
  simp only[eG,go_sem,Z2 S,Z1 S,zN0,zN1,zN2,zN3,zN4,zI0,zI1,zI2,zI3,reduceCtorEq,GS S]
  refine Z9m S dp p q n hq hql l hll _ P ?_ q.length 0 _ ⟨0,0,0,0⟩ (List.replicate n 0) (by omega) (by omega) (by simp) (fun x hx=>by rw[List.eq_of_mem_replicate hx];decide) (by decide)
  intro T rg mem t4 t7 hm hv hr
  unfold Pj Pk
  have hl1:n*1<=((rC mem).map AV.d).length:=by rw[List.length_map,QH,hm];exact Nat.le_refl _
  have ht1:∀(A:List Blk) (m:Nat),Y8 (deep A (m+1)) (((rC mem).map AV.d).take (n*1))=some (rC mem,[]):=fun A m=>by
   rw[List.take_of_length_le (by rw[List.length_map,QH,hm];exact Nat.le_refl _),FY]
  by_cases n0:n=0
  ·have e : mem = [] := List.length_eq_zero_iff.1 (by omega)
   subst e
   simp only[eG,go_sem,Z2 S,Z1 S,zN0,zN1,zN2,zN3,zN4,zI0,zI1,zI2,zI3,reduceCtorEq,GS S,t4,t7,YJ,n0]
   exact fin ⟨rg,[],[],0⟩ ⟨by simp[n0],fun x h=>(hv x h).1,hr.1,rfl,rfl,fun x h=>(hv x h).2,hr.2⟩
  ·simp only [eG, go_sem, Z2 S, Z1 S, zN0, zN1, zN2, zN3, zN4, zI0, zI1, zI2, zI3, reduceCtorEq, GS S, t4, t7, YJ, n0, hl1, ht1, Option.bind_some, Option.map_some]
   have hf:DV.lst (rC mem) n none=rD mem:=by unfold rD;rw[hm]
   rw[hf]
   exact fin ⟨rg,mem,[],0⟩ ⟨by simp[hm],fun x h=>(hv x h).1,hr.1,rfl,rfl,fun x h=>(hv x h).2,hr.2⟩
 rw[hP] at key
 obtain⟨s,h1,h2⟩:=key
 exact⟨s,h1,h2⟩
end
theorem WD (ps:List (Opd×Opd))(k:K)(tm:List AV)(A:List Blk):Gj ps k tm A=bif BR tm ps then k tm A else none:=id rfl
theorem WB (tm:List AV)(p:Opd×Opd)(l:List (Opd×Opd)):BR tm (p::l)=(FN (look tm p.1) (look tm p.2)&&BR tm l):=id rfl
theorem WC (tm:List AV):BR tm []=true:=id rfl
theorem Wv (i v o j w q:Nat):FN (.ref i v o) (.ref j w q)= !Nat.beq i j:=id rfl
theorem U8 {l:List Int}{k:Nat}(h:k<l.length)(i v:Nat)(A:List Blk)(n:Int):storeAt A i v (k*1) [.d (vi n)] 1 (some (.cells ((rC l).map .d) v false))=some (A.set i (.cells ((rC (l.set k n)).map .d) v false)):=
 MX (o:=0) (e':=n) [vi n] (List.getElem?_eq_getElem h) rfl rfl rfl rfl (by show 0+1<=1;decide) 1 rfl _ rfl
variable {E:Env} {fn:FuncId->Option (Env->cT->cT)}
section
variable (S:Sur E fn)
include S
theorem D3:E.lives 9 1=none/\E.lives 9 17=none/\E.lives 9 21=none:=⟨off S 9 1 (by decide) rfl,off S 9 17 (by decide) rfl,off S 9 21 (by decide) rfl⟩
theorem Zeu (dp:Nat)(p:Prog)(q:List Place)(hql:q.length<=20000)(l:List Int)(how:Int)(kx:Nat->K)(P:Option DV->Prop)
  (hx : ∀ T x y, ZG .bot T 3 = .ref 0 0 0 -> ZG .bot T 6 = .ref 1 0 0 -> ZG .bot T 7 = .ref 2 0 0 -> ZG .bot T 9 = .sref 3 0 0 q.length 1 (some q.length) -> ZG .bot T 10 = .sref 4 0 0 q.length 1 (some q.length) -> (x : List Int).length = q.length -> (y : List Int).length = q.length ->
   P (Zz (kx 0 (mk .bot 80 T) [.cells ((YH p).map .d) 0 false,.cells [zi,zi,zi,zi,zn,zn,zi] 0 false,.cells [zi,zi,zi,zi,zn,zn,zi] 0 false,.cells ((rC x).map .d) 0 false,.cells ((rC y).map .d) 0 false]))):
  ∀(m k f:Nat) (x y:List Int),k+m=q.length->m<=f->x.length=q.length->y.length=q.length->
  P (Zz (HB (Zj E 9) (Z5 E fn dp) (Z9 10 HB (Zj E 9) (Z5 E fn dp) kx (YD 0 [.cell 6 true 7,.cell 7 true 7]) f) kx (YD 0 [.cell 6 true 7,.cell 7 true 7]) (mk .bot 80 [(1,.d (rD l)),(2,aI how),(3,.ref 0 0 0),(6,.ref 1 0 0),(7,.ref 2 0 0),(8,.d (rD q)),(9,.sref 3 0 0 q.length 1 (some q.length)),(10,.sref 4 0 0 q.length 1 (some q.length)),(25,aI q.length),(26,aI k)])
   [.cells ((YH p).map .d) 0 false,.cells [zi,zi,zi,zi,zn,zn,zi] 0 false,.cells [zi,zi,zi,zi,zn,zn,zi] 0 false,.cells ((rC x).map .d) 0 false,.cells ((rC y).map .d) 0 false])):=by
 intro m
 induction m with
 | zero=>
  intro k f x y hk _ hxl hyl
  have hkq:¬(k:Int)<q.length:=by omega
  generalize Z9 10 HB _ _ kx _ f=KK
  first | (conv=>lhs;rw[HB]) | rw[HB]
  simp only[eG,go_sem,Z2 S,Z1 S,zN0,zN1,zN2,zN3,zN4,zI0,zI1,zI2,zI3,reduceCtorEq,D3 S,hkq]
  exact hx _ x y rfl rfl rfl rfl rfl hxl hyl
 | succ m ih=>
  intro k f x y hk hf hxl hyl
  obtain⟨z,hzq⟩:=QB (show k<q.length by omega)
  obtain⟨f,rfl⟩:∃ g,f=g+1:=⟨f-1,by omega⟩
  have hkq:(k:Int)<q.length:=by omega
  have hkx:k<x.length:=by omega
  have hky:k<y.length:=by omega
  have next:=fun x' y' h1 h2=>ih (k+1) f x' y' (by omega) (by omega) h1 h2
  generalize hK:Z9 10 HB _ _ kx _ (f+1)=KK
  first | (conv=>lhs;rw[HB]) | rw[HB]
  by_cases hl:(k:Int)<l.length
  ·obtain ⟨v, hvl⟩ := QB (show k < l.length by omega)
   cases hsec:z.secret with
   | true=>
    simp only[eG,go_sem,Z2 S,Z1 S,zN0,zN1,zN2,zN3,zN4,zI0,zI1,zI2,zI3,reduceCtorEq,D3 S,hkq,hl,ZF hvl,ZF hzq,hsec,U8,hkx,hky,List.length_set,Int.natCast_nonneg,Int.toNat_natCast,Int.ofNat_lt,Nat.zero_add,true_and,and_self,and_true,if_true,wi k (by omega)]
    rw[<-hK,Z6 (on S _ _ [1,2,3,6,7,8,9,10,25,26] (by decide) rfl) rfl _ _ _ _ _ _ _ _ _ rfl]
    simp only[eG,go_sem,Z2 S,Z1 S,zN0,zN1,zN2,zN3,zN4,zI0,zI1,zI2,zI3,reduceCtorEq,D3 S]
    exact next _ _ (by rw[List.length_set];exact hxl) (by rw[List.length_set,List.length_set];exact hyl)
   | false=>
    by_cases h7:Md.Y9 how 7=0
    ·simp only [eG, go_sem, Z2 S, Z1 S, zN0, zN1, zN2, zN3, zN4, zI0, zI1, zI2, zI3, reduceCtorEq, D3 S, hkq, hl, ZF hvl, ZF hzq, hsec, YZ, h7, U8, hkx, hky, List.length_set, Int.natCast_nonneg, Int.toNat_natCast, Int.ofNat_lt, Nat.zero_add, true_and, and_self, and_true, if_true, wi k (by omega)]
     rw[<-hK,Z6 (on S _ _ [1,2,3,6,7,8,9,10,25,26] (by decide) rfl) rfl _ _ _ _ _ _ _ _ _ rfl]
     simp only[eG,go_sem,Z2 S,Z1 S,zN0,zN1,zN2,zN3,zN4,zI0,zI1,zI2,zI3,reduceCtorEq,D3 S]
     exact next _ _ (by rw[List.length_set];exact hxl) (by rw[List.length_set,List.length_set];exact hyl)
    ·simp only [eG, go_sem, Z2 S, Z1 S, zN0, zN1, zN2, zN3, zN4, zI0, zI1, zI2, zI3, reduceCtorEq, D3 S, hkq, hl, ZF hvl, ZF hzq, hsec, YZ, h7, U8, hkx, hky, List.length_set, Int.natCast_nonneg, Int.toNat_natCast, Int.ofNat_lt, Nat.zero_add, true_and, and_self, and_true, if_true, wi k (by omega)]
     rw[<-hK,Z6 (on S _ _ [1,2,3,6,7,8,9,10,25,26] (by decide) rfl) rfl _ _ _ _ _ _ _ _ _ rfl]
     simp only[eG,go_sem,Z2 S,Z1 S,zN0,zN1,zN2,zN3,zN4,zI0,zI1,zI2,zI3,reduceCtorEq,D3 S]
     exact next _ _ (by rw[List.length_set];exact hxl) (by rw[List.length_set];exact hyl)
  ·simp only [eG, go_sem, Z2 S, Z1 S, zN0, zN1, zN2, zN3, zN4, zI0, zI1, zI2, zI3, reduceCtorEq, D3 S, hkq, hl, wi k (by omega)]
   rw[<-hK,Z6 (on S _ _ [1,2,3,6,7,8,9,10,25,26] (by decide) rfl) rfl _ _ _ _ _ _ _ _ _ rfl]
   simp only[eG,go_sem,Z2 S,Z1 S,zN0,zN1,zN2,zN3,zN4,zI0,zI1,zI2,zI3,reduceCtorEq,D3 S]
   exact next x y hxl hyl
theorem Za6 (dp:Nat)(p:Prog)(hms:∀ m ∈ p.mems,0<=m.n/\m.n<=16)(hml:p.mems.length<1000)(l:List Int)(how:Int):
  ∃ s s':State,Z7 E fn (dp+5) 9 [ZP p,rD l,vi how] (.tup [JD s,JD s'])/\SOk (ZT p.mems) s/\SOk (ZT p.mems) s':=by
 obtain⟨hq,hqo,hql⟩:=Z0n S (dp+3) p hms hml
 obtain⟨hq',_,_⟩:=Z0n S (dp+2) p hms hml
 generalize hQ:places p=q at *
 obtain⟨P,hP⟩:∃ P:Option DV->Prop,P=fun o=>∃ s s':State,o=some (.tup [JD s,JD s'])/\SOk (ZT p.mems) s/\SOk (ZT p.mems) s':=⟨_,rfl⟩
 have fin:∀ s s':State,SOk (ZT p.mems) s->SOk (ZT p.mems) s'->P (some (.tup [JD s,JD s'])):=fun s s' h h'=>by rw[hP];exact⟨s,s',rfl,h,h'⟩
 have cP:=fun(A:List Blk) (nb:Nat)=>Z7.deep hq (np S 27 (by decide)) A nb
 simp only[ZP,YH] at cP
 have key:P (Zz (Z5 E fn (dp+5) 9 [.d (ZP p),.d (rD l),aI how] [])):=by
  clear hP
  show P (Zz (Z5 E fn (dp+4+1) 9 [.d (ZP p),.d (rD l),aI how] []))
  rw[Yx,S.Z42,Yw,Z7n,Yq _ _ _ _ _ _ _ _ rfl]
  have hmk:=fun nb=>Z2g q.length nb (show q.length<=100000 by omega)
  simp only[eG,go_sem,Z2 S,Z1 S,zN0,zN1,zN2,zN3,zN4,zI0,zI1,zI2,zI3,reduceCtorEq,D3 S,cP,Z24,hmk]
  rw[ZU,Z6 (on S _ _ [1,2,3,6,7,8,9,10,25,26] (by decide) rfl) rfl _ _ _ _ _ _ _ _ _ rfl]
  simp only[eG,go_sem,Z2 S,Z1 S,zN0,zN1,zN2,zN3,zN4,zI0,zI1,zI2,zI3,reduceCtorEq,D3 S]
  refine Zeu S (dp+4) p q hql l how _ P ?_ q.length 0 _ (List.replicate q.length 0) (List.replicate q.length 0) (by omega) (by omega) (by simp) (by simp)
  intro T x y t3 t6 t7 t9 t10 hxl hyl
  obtain⟨s1,h1,o1⟩:=Z0m S dp p hms hml q hq' hqo hql x hxl
  obtain⟨s2,h2,o2⟩:=Z0m S dp p hms hml q hq' hqo hql y hyl
  have hlx:q.length*1<=((rC x).map AV.d).length:=by rw[List.length_map,QH,hxl];exact Nat.le_refl _
  have hly:q.length*1<=((rC y).map AV.d).length:=by rw[List.length_map,QH,hyl];exact Nat.le_refl _
  have htx:∀(A:List Blk) (m:Nat),Y8 (deep A (m+1)) (((rC x).map AV.d).take (q.length*1))=some (rC x,[]):=fun A m=>by
   rw[List.take_of_length_le (by rw[List.length_map,QH,hxl];exact Nat.le_refl _),FY]
  have hty:∀(A:List Blk) (m:Nat),Y8 (deep A (m+1)) (((rC y).map AV.d).take (q.length*1))=some (rC y,[]):=fun A m=>by
   rw[List.take_of_length_le (by rw[List.length_map,QH,hyl];exact Nat.le_refl _),FY]
  have hfx:DV.lst (rC x) q.length none=rD x:=by unfold rD;rw[hxl]
  have hfy:DV.lst (rC y) q.length none=rD y:=by unfold rD;rw[hyl]
  have hb:=np S 28 (by decide)
  have done:P (some (.tup [JD s1,JD s2])):=fin s1 s2 o1 o2
  simp only[JD,P8] at done h1 h2
  by_cases n0:q.length=0
  ·have ex : x = [] := List.length_eq_zero_iff.1 (by omega)
   have ey:y=[]:=List.length_eq_zero_iff.1 (by omega)
   subst ex ey
   have c1:=fun(A:List Blk) (nb:Nat)=>Z7.deep h1 hb A nb
   have c2:=fun(A:List Blk) (nb:Nat)=>Z7.deep h2 hb A nb
   simp only[ZP,YH,Z98] at c1 c2
   have d1:P (some (.tup [JD s1,JD s1])):=fin s1 s1 o1 o1
   simp only[JD,P8] at d1
   simp only[eG,go_sem,Z2 S,Z1 S,zN0,zN1,zN2,zN3,zN4,zI0,zI1,zI2,zI3,reduceCtorEq,D3 S,hfx,hfy,htx,hty,hlx,hly,YJ,Option.bind_some,Option.map_some,WD,WB,WC,Wv,show Nat.beq 1 6=false from rfl,Bool.not_false,t3,t6,t7,t9,t10,n0,c1,c2]
   exact d1
  ·by_cases N0 : ZT p.mems = 0
   ·have m1 : s1.mem = [] := List.length_eq_zero_iff.1 (by have := o1.mem; omega)
    have m2:s2.mem=[]:=List.length_eq_zero_iff.1 (by have:=o2.mem;omega)
    rw[m1,o1.stk] at h1 done
    rw[m2,o2.stk] at h2 done
    have c1:=fun(A:List Blk) (nb:Nat) (us:List Nat)=>Z7.flat h1 hb rfl A nb us
    have c2:=fun(A:List Blk) (nb:Nat) (us:List Nat)=>Z7.flat h2 hb rfl A nb us
    simp only[ZP,YH] at c1 c2
    simp only[eG,go_sem,Z2 S,Z1 S,zN0,zN1,zN2,zN3,zN4,zI0,zI1,zI2,zI3,reduceCtorEq,D3 S,hfx,hfy,htx,hty,hlx,hly,YJ,Option.bind_some,Option.map_some,WD,WB,WC,Wv,show Nat.beq 1 6=false from rfl,Bool.not_false,t3,t6,t7,t9,t10,n0,c1,c2]
    exact done
   ·have f1:DV.flat 8 (.tup [.agg [vi s1.regs.r0,vi s1.regs.r1,vi s1.regs.r2,vi s1.regs.r3,rD s1.mem,rD s1.stack,vi s1.pc],vb true])=false:=by
     cases hm:s1.mem with
     | nil=>have:=o1.mem;rw[hm] at this;exact absurd this.symm N0
     | cons a l=>rfl
    have f2:DV.flat 8 (.tup [.agg [vi s2.regs.r0,vi s2.regs.r1,vi s2.regs.r2,vi s2.regs.r3,rD s2.mem,rD s2.stack,vi s2.pc],vb true])=false:=by
     cases hm:s2.mem with
     | nil=>have:=o2.mem;rw[hm] at this;exact absurd this.symm N0
     | cons a l=>rfl
    have c1:=fun(A:List Blk) (nb i:Nat) (us:List Nat)=>Z7.used h1 hb f1 A nb i us
    have c2:=fun(A:List Blk) (nb i:Nat) (us:List Nat)=>Z7.used h2 hb f2 A nb i us
    simp only[ZP,YH] at c1 c2
    simp only[eG,go_sem,Z2 S,Z1 S,zN0,zN1,zN2,zN3,zN4,zI0,zI1,zI2,zI3,reduceCtorEq,D3 S,hfx,hfy,htx,hty,hlx,hly,YJ,Option.bind_some,Option.map_some,WD,WB,WC,Wv,show Nat.beq 1 6=false from rfl,Bool.not_false,t3,t6,t7,t9,t10,n0,c1,c2]
    exact done
 rw[hP] at key
 obtain⟨s,s',h1,h2,h3⟩:=key
 exact⟨s,s',h1,h2,h3⟩
end
theorem Ze7 (l:List Int):∀ m ∈ (Md.make l).mems,0<=m.n/\m.n<=16:=by
 intro m hm
 have hm:m ∈ Md.Qv l (Md.Z8 l):=hm
 have h1:∀ m ∈ Md.JG l (Md.Z8 l),0<=m.n/\m.n<=16:=by
  intro m hm
  unfold Md.JG at hm
  split at hm
  ·simp only [List.mem_singleton] at hm
   subst hm
   split<;>simp
  ·simp at hm
 unfold Md.Qv at hm
 split at hm
 ·rcases List.mem_append.1 hm with hm | hm
  ·exact h1 m hm
  ·simp only [List.mem_singleton] at hm
   subst hm;simp
 ·exact h1 m hm
theorem Ze8 (l:List Int):(Md.make l).mems.length<1000:=by
 show(Md.Qv l (Md.Z8 l)).length<1000
 have h1:(Md.JG l (Md.Z8 l)).length<=1:=by unfold Md.JG;split<;>simp
 unfold Md.Qv
 split
 ·simp;omega
 ·omega
theorem Ze9 (l:List Int):(Md.make l).ins.length<1000:=by
 show((List.range (Md.nM l)).map _).length<1000
 obtain⟨r,h1,h2⟩:=Md.Mz (Md.ZJ (Md.kM l 0) 12)
 rw[List.length_map,List.length_range]
 unfold Md.nM
 rw[h2,Int.toNat_natCast];omega
theorem Ze6 (l:List Int):Md.J2 (Md.make l).w=true:=by
 obtain⟨r,h1,h2⟩:=Md.Z3o (Md.kM l 0)
 show Md.J2 (Md.Y9 (Md.kM l 0) 1+1)=true
 rw[h2];exact Md.V3.2 ⟨by omega,by omega⟩
end Go.Aug.Mc
