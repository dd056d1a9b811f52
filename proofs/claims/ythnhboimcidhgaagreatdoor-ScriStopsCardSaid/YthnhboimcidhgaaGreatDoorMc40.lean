import Derived.Test.YthnhboimcidhgaaGreatDoorBo2
import Derived.Test.YthnhboimcidhgaaGreatDoorMc6
import Derived.Test.YthnhboimcidhgaaGreatDoorMl4
namespace Go.Aug.Mc
open Go Go.Aug
open Nat renaming reduceLT -> zN0, reduceEqDiff -> zN1, reduceAdd -> zN2, reduceMul -> zN3, reduceLeDiff -> zN4
open Int renaming reduceEq -> zI0, reduceLT -> zI1, reduceLE -> zI2, reduceNeg -> zI3
set_option linter.unusedSimpArgs false
set_option linter.unusedVariables false
set_option maxHeartbeats 40000000
set_option maxRecDepth 200000
def Zq0 (n:Int)(q:List Place):Prop:=∀ x ∈ q,(x.reg=true->0<=x.n/\x.n<4)/\(x.reg=false->0<=x.n/\x.n<n)
theorem Zq0.app {n:Int}{q:List Place}(h:Zq0 n q){x:Place}(h1:x.reg=true->0<=x.n/\x.n<4)(h2:x.reg=false->0<=x.n/\x.n<n):Zq0 n (q++[x]):=by
 intro y hy
 rcases List.mem_append.1 hy with hy | hy
 ·exact h y hy
 ·simp at hy;subst hy;exact⟨h1,h2⟩
def plR (p:Prog):Nat->Nat->List Place->List Place
 | 0,_,q=>q
 | m+1,k,q=>plR p m (k+1) (if Md.getR p.regs k=0 then q else q++[⟨true,(k:Int),decide (Md.getR p.regs k=2)⟩])
def plC (s:Bool):Nat->Int->List Place->List Place
 | 0,_,q=>q
 | m+1,a,q=>plC s m (a+1) (q++[⟨false,a,s⟩])
def plM:List MemT->Int->List Place->List Place
 | [],_,q=>q
 | e::l,a,q=>plM l (a+e.n) (plC e.secret e.n.toNat a q)
def places (p:Prog):List Place:=plM p.mems 0 (plR p 4 0 [])
theorem Zo8 (l:List MemT)(i:Nat):Z5 (l.take i)<=Z5 l:=by
 have h:Z5 l=Z5 (l.take i)+Z5 (l.drop i):=by
  unfold Z5
  rw[<-List.sum_append,<-List.map_append,List.take_append_drop]
 have:=(Z34 (l.drop i)).1
 omega
theorem Z74 {A:List Blk}{bytes j v:Nat}{out:List Place}{a b:Bool}{n:Int}(hA:A[j]? =some (.cells ((rC out).map .d) v false))(h1:(out.length+1)*bytes<=Zf)(h2:out.length+1<=Zf):
  Qs A 3 bytes (.sref j v 0 out.length 3 none) [.d (vb a),.d (vi n),.d (vb b)] 1=some (.turn j (.cells ((rC (out++[⟨a,n,b⟩])).map .d) (v+1) false) (.sref j (v+1) 0 (out.length+1) 3 none)):=
 Z89 (x:=(⟨a,n,b⟩:Place)) hA rfl (by decide) rfl h1 h2
theorem nc3 (A:List Blk)(x y z:DV)(k:Option Nat):Z0g A false 3 (.d (.lst [x,y,z] 1 k))=some ([.d x,.d y,.d z],1):=rfl
theorem Zht {α:Type}(o:List α)(x:α):(o++[x]).length≠0:=by simp
theorem Z3b {α:Type} [Cl α] {l:List α}(h:l.length=0)(i:Nat):Z3m i l=.d (.lst [] 0 (some 0)):=by rw[List.length_eq_zero_iff.1 h];rfl
theorem Z3a {α:Type} [Cl α] {l:List α}(h:l.length=0):Z30 l=[]:=by rw[List.length_eq_zero_iff.1 h];rfl
variable {E:Env} {fn:FuncId->Option (Env->cT->cT)}
section
variable (S:Sur E fn)
include S
theorem Jj:E.lives 41 1=none/\E.lives 41 15=none:=⟨off S 41 1 (by decide) rfl,off S 41 15 (by decide) rfl⟩
theorem pl1 (dp:Nat)(N:Int)(p:Prog)(kx:Nat->K)(P:Option DV->Prop)(Q:List Place)
  (hx:∀ T q,Z01 .bot T 1=.ref 0 0 0->Z01 .bot T 3=Z3m 1 (q:List Place)->Zq0 N q->q.length<=4->q=Q->P (Zh (kx 0 (mk .bot 58 T) ([.cells ((Yd p).map .d) 0 false]++Z30 q)))):
  ∀(m k f:Nat) (q:List Place),k+m=4->m<=f->Zq0 N q->q.length<=k->plR p m k q=Q->
  P (Zh (Js (inn E 41) (evC E fn dp) (Zi 8 Js (inn E 41) (evC E fn dp) kx (Z0u 0 [.tmp 2]) f) kx (Z0u 0 [.tmp 2]) (mk .bot 58 [(1,.ref 0 0 0),(3,Z3m 1 q),(4,aI k)]) ([.cells ((Yd p).map .d) 0 false]++Z30 q))):=by
 intro m
 induction m with
 | zero=>
  intro k f q hk _ hq hl hQ
  obtain rfl:k=4:=by omega
  generalize Zi 8 Js _ _ kx _ f=KK
  first | (conv=>lhs;rw[Js]) | rw[Js]
  by_cases h0:q.length=0
  ·rw [Z3b h0, Z3a h0]
   have:=fun T a b=>hx T q a (by rw[Z3b h0];exact b) hq (by omega) hQ
   rw[Z3a h0] at this
   simp only[eG,go_sem,thq S,nbr S,zN0,zN1,zN2,zN3,zN4,zI0,zI1,zI2,zI3,reduceCtorEq,Jj S,Int.cast_ofNat_Int]
   exact this _ rfl rfl
  ·rw [Za h0, Z9 h0]
   have:=fun T a b=>hx T q a (by rw[Za h0];exact b) hq (by omega) hQ
   rw[Z9 h0] at this
   simp only[eG,go_sem,thq S,nbr S,zN0,zN1,zN2,zN3,zN4,zI0,zI1,zI2,zI3,reduceCtorEq,Jj S,Int.cast_ofNat_Int]
   exact this _ rfl rfl
 | succ m ih=>
  intro k f q hk hf hq hl hQ
  obtain⟨f,rfl⟩:∃ g,f=g+1:=⟨f-1,by omega⟩
  generalize hK:Zi 8 Js _ _ kx _ (f+1)=KK
  first | (conv=>lhs;rw[Js]) | rw[Js]
  have lim:Zf=1099511627776:=rfl
  have k1:(q.length+1)*24<=Zf:=by omega
  have k2:q.length+1<=Zf:=by omega
  have skip:=fun(h:Md.getR p.regs k=0)=>ih (k+1) f q (by omega) (by omega) hq (by omega) (by rw[<-hQ,plR,if_pos h])
  have put:=fun(h:¬Md.getR p.regs k=0)=>ih (k+1) f (q++[⟨true,(k:Int),decide (Md.getR p.regs k=2)⟩]) (by omega) (by omega) (hq.app (fun _=>by constructor<;>(show _;simp only;omega)) (fun h=>by cases h)) (by simp;omega) (by rw[<-hQ,plR,if_neg h])
  simp only[Za (Zht _ _),Z9 (Zht _ _),List.length_append,List.length_singleton] at put
  have hk4:k=0∨k=1∨k=2∨k=3:=by omega
  have hk5:(k:Int)<4:=by omega
  have hld:Jw false 1 ([AV.d (vi p.w),AV.d (vi p.window),AV.d (vi p.fuel),AV.d (vi p.regs.r0),AV.d (vi p.regs.r1),AV.d (vi p.regs.r2),AV.d (vi p.regs.r3),AV.d (rD p.mems),AV.d (rD p.labels),AV.d (rD p.ins)].drop (3+k*1))=some (.d (vi (Md.getR p.regs k))):=by
   rcases hk4 with rfl | rfl | rfl | rfl<;>rfl
  clear hQ
  generalize Md.getR p.regs k=r at hld skip put
  by_cases h0:q.length=0
  ·have hq0 : q = [] := List.length_eq_zero_iff.1 h0
   subst hq0
   simp only[Zz,Zy,List.append_nil] at skip ⊢
   by_cases hr:r=0
   ·simp only [eG, go_sem, thq S, nbr S, zN0, zN1, zN2, zN3, zN4, zI0, zI1, zI2, zI3, reduceCtorEq, Jj S, Jd, Je, Zj, Z7, Zl, nc3, Z74, Option.map_some, Nat.zero_add, Nat.one_mul, Nat.zero_mul, and_self, true_and, and_true, show (0 : Nat) < 1 by decide, show (1 : Nat) * 24 <= Zf by decide, show (24 : Nat) <= Zf by decide, show (1 : Nat) <= Zf by decide, Int.cast_ofNat_Int, Int.reduceToNat, Int.toNat_zero, Int.reduceMul, hld, eq_true hr, hk5, Int.natCast_nonneg, Int.toNat_natCast, wi k (by omega)]
    rw[<-hK,Z1 (on S _ _ [1,3,4] (by decide) rfl) rfl _ _ _ _ _ _ _ _ _ rfl]
    simp only[eG,go_sem,thq S,nbr S,zN0,zN1,zN2,zN3,zN4,zI0,zI1,zI2,zI3,reduceCtorEq,Jj S]
    exact skip hr
   ·simp only [eG, go_sem, thq S, nbr S, zN0, zN1, zN2, zN3, zN4, zI0, zI1, zI2, zI3, reduceCtorEq, Jj S, Jd, Je, Zj, Z7, Zl, nc3, Z74, Option.map_some, Nat.zero_add, Nat.one_mul, Nat.zero_mul, and_self, true_and, and_true, show (0 : Nat) < 1 by decide, show (1 : Nat) * 24 <= Zf by decide, show (24 : Nat) <= Zf by decide, show (1 : Nat) <= Zf by decide, Int.cast_ofNat_Int, Int.reduceToNat, Int.toNat_zero, Int.reduceMul, hld, hr, hk5, Int.natCast_nonneg, Int.toNat_natCast, wi k (by omega)]
    rw[<-hK,Z1 (on S _ _ [1,3,4] (by decide) rfl) rfl _ _ _ _ _ _ _ _ _ rfl]
    simp only[eG,go_sem,thq S,nbr S,zN0,zN1,zN2,zN3,zN4,zI0,zI1,zI2,zI3,reduceCtorEq,Jj S]
    exact put hr
  ·simp only [Za h0, Z9 h0] at skip ⊢
   by_cases hr:r=0
   ·simp only [eG, go_sem, thq S, nbr S, zN0, zN1, zN2, zN3, zN4, zI0, zI1, zI2, zI3, reduceCtorEq, Jj S, Jd, Je, Zj, Z7, Zl, nc3, Z74, Option.map_some, Nat.zero_add, Nat.one_mul, Nat.zero_mul, and_self, true_and, and_true, show (0 : Nat) < 1 by decide, show (1 : Nat) * 24 <= Zf by decide, show (24 : Nat) <= Zf by decide, show (1 : Nat) <= Zf by decide, Int.cast_ofNat_Int, Int.reduceToNat, Int.toNat_zero, Int.reduceMul, hld, eq_true hr, hk5, Int.natCast_nonneg, Int.toNat_natCast, wi k (by omega)]
    rw[<-hK,Z1 (on S _ _ [1,3,4] (by decide) rfl) rfl _ _ _ _ _ _ _ _ _ rfl]
    simp only[eG,go_sem,thq S,nbr S,zN0,zN1,zN2,zN3,zN4,zI0,zI1,zI2,zI3,reduceCtorEq,Jj S]
    exact skip hr
   ·simp only [eG, go_sem, thq S, nbr S, zN0, zN1, zN2, zN3, zN4, zI0, zI1, zI2, zI3, reduceCtorEq, Jj S, Jd, Je, Zj, Z7, Zl, nc3, Z74, Option.map_some, Nat.zero_add, Nat.one_mul, Nat.zero_mul, and_self, true_and, and_true, show (0 : Nat) < 1 by decide, show (1 : Nat) * 24 <= Zf by decide, show (24 : Nat) <= Zf by decide, show (1 : Nat) <= Zf by decide, Int.cast_ofNat_Int, Int.reduceToNat, Int.toNat_zero, Int.reduceMul, hld, hr, hk5, Int.natCast_nonneg, Int.toNat_natCast, wi k (by omega), k1, k2]
    rw[<-hK,Z1 (on S _ _ [1,3,4] (by decide) rfl) rfl _ _ _ _ _ _ _ _ _ rfl]
    simp only[eG,go_sem,thq S,nbr S,zN0,zN1,zN2,zN3,zN4,zI0,zI1,zI2,zI3,reduceCtorEq,Jj S]
    exact put hr
theorem pl3 (dp:Nat)(p:Prog)(hms:∀ m ∈ p.mems,0<=m.n/\m.n<=16)(hml:p.mems.length<1000)(i:Nat)(e:MemT)(he:p.mems[i]? =some e)(kx:Nat->K)(P:Option DV->Prop)(Q:List Place)
  (hx:∀ T q,Z01 .bot T 1=.ref 0 0 0->Z01 .bot T 3=Z3m 1 (q:List Place)->Z01 .bot T 5=aI (Z5 (p.mems.take (i+1)))->Z01 .bot T 6=aI i->Zq0 (Z5 p.mems) q->(q.length:Int)<=4+Z5 (p.mems.take (i+1))->q=Q->P (Zh (kx 4 (mk .bot 58 T) ([.cells ((Yd p).map .d) 0 false]++Z30 q)))):
  ∀(m k f:Nat) (q:List Place),((k+m:Nat):Int)=e.n->m<=f->Zq0 (Z5 p.mems) q->(q.length:Int)<=4+Z5 (p.mems.take i)+k->plC e.secret m (Z5 (p.mems.take i)+k) q=Q->
  P (Zh (J9 (inn E 41) (evC E fn dp) (Zi 26 J9 (inn E 41) (evC E fn dp) kx (Z0u 0 [.tmp 2]) f) kx (Z0u 0 [.tmp 2]) (mk .bot 58 [(1,.ref 0 0 0),(3,Z3m 1 q),(5,aI (Z5 (p.mems.take i)+k)),(6,aI i),(7,aI k)]) ([.cells ((Yd p).map .d) 0 false]++Z30 q))):=by
 have hen:=hms e (List.mem_of_getElem? he)
 have hS:Z5 (p.mems.take (i+1))=Z5 (p.mems.take i)+e.n:=by rw[Z58 he,Int.max_eq_left hen.1,Int.min_eq_left hen.2]
 have hS0:=Z34 (p.mems.take i)
 have hSl:(p.mems.take i).length<=p.mems.length:=by simp;omega
 have hSm:=Zo8 p.mems (i+1)
 have lim:Zf=1099511627776:=rfl
 intro m
 induction m with
 | zero=>
  intro k f q hk _ hq hl hQ
  have hkn:¬(k:Int)<e.n:=by omega
  have hat:Z5 (p.mems.take i)+(k:Int)=Z5 (p.mems.take (i+1)):=by omega
  rw[hat]
  generalize Zi 26 J9 _ _ kx _ f=KK
  first | (conv=>lhs;rw[J9]) | rw[J9]
  by_cases h0:q.length=0
  ·have := fun T a b c d => hx T q a (by rw [Z3b h0]; exact b) c d hq (by omega) hQ
   rw[Z3a h0] at this
   rw[Z3b h0,Z3a h0]
   simp only[eG,go_sem,thq S,nbr S,zN0,zN1,zN2,zN3,zN4,zI0,zI1,zI2,zI3,reduceCtorEq,Jj S,Q4 he,hkn]
   exact this _ rfl rfl rfl rfl
  ·have := fun T a b c d => hx T q a (by rw [Za h0]; exact b) c d hq (by omega) hQ
   rw[Z9 h0] at this
   rw[Za h0,Z9 h0]
   simp only[eG,go_sem,thq S,nbr S,zN0,zN1,zN2,zN3,zN4,zI0,zI1,zI2,zI3,reduceCtorEq,Jj S,Q4 he,hkn]
   exact this _ rfl rfl rfl rfl
 | succ m ih=>
  intro k f q hk hf hq hl hQ
  obtain⟨f,rfl⟩:∃ g,f=g+1:=⟨f-1,by omega⟩
  have hkn:(k:Int)<e.n:=by omega
  generalize hK:Zi 26 J9 _ _ kx _ (f+1)=KK
  first | (conv=>lhs;rw[J9]) | rw[J9]
  have k1:(q.length+1)*24<=Zf:=by omega
  have k2:q.length+1<=Zf:=by omega
  have wat:IntKind.i64.wrap (Z5 (p.mems.take i)+(k:Int)+1)=Z5 (p.mems.take i)+((k+1:Nat):Int):=by rw[Zt (by omega) (by omega)];omega
  have put:=ih (k+1) f (q++[⟨false,Z5 (p.mems.take i)+(k:Int),e.secret⟩]) (by omega) (by omega) (hq.app (fun h=>by cases h) (fun _=>by constructor<;>(show _;simp only;omega))) (by simp;omega) (by rw[<-hQ,plC];congr 1;omega)
  simp only[Za (Zht _ _),Z9 (Zht _ _)] at put
  rw[List.length_append,List.length_singleton] at put
  by_cases h0:q.length=0
  ·have hq0 : q = [] := List.length_eq_zero_iff.1 h0
   subst hq0
   rw[Zz,Zy,List.append_nil]
   simp only[eG,go_sem,thq S,nbr S,zN0,zN1,zN2,zN3,zN4,zI0,zI1,zI2,zI3,reduceCtorEq,Jj S,Jd,Je,Zj,Z7,Zl,nc3,Z74,Option.map_some,Nat.zero_add,Nat.one_mul,Nat.zero_mul,and_self,true_and,and_true,show(0:Nat)<1 by decide,show(1:Nat)*24<=Zf by decide,show(24:Nat)<=Zf by decide,show(1:Nat)<=Zf by decide,Int.cast_ofNat_Int,Int.reduceToNat,Int.toNat_zero,Int.reduceMul,Q4 he,hkn,wi k (by omega),wat]
   rw[<-hK,Z1 (on S _ _ [1,3,5,6,7] (by decide) rfl) rfl _ _ _ _ _ _ _ _ _ rfl]
   simp only[eG,go_sem,thq S,nbr S,zN0,zN1,zN2,zN3,zN4,zI0,zI1,zI2,zI3,reduceCtorEq,Jj S]
   exact put
  ·rw [Za h0, Z9 h0]
   simp only[eG,go_sem,thq S,nbr S,zN0,zN1,zN2,zN3,zN4,zI0,zI1,zI2,zI3,reduceCtorEq,Jj S,Jd,Je,Zj,Z7,Zl,nc3,Z74,Option.map_some,Nat.zero_add,Nat.one_mul,Nat.zero_mul,and_self,true_and,and_true,show(0:Nat)<1 by decide,show(1:Nat)*24<=Zf by decide,show(24:Nat)<=Zf by decide,show(1:Nat)<=Zf by decide,Int.cast_ofNat_Int,Int.reduceToNat,Int.toNat_zero,Int.reduceMul,Q4 he,hkn,wi k (by omega),wat,k1,k2]
   rw[<-hK,Z1 (on S _ _ [1,3,5,6,7] (by decide) rfl) rfl _ _ _ _ _ _ _ _ _ rfl]
   simp only[eG,go_sem,thq S,nbr S,zN0,zN1,zN2,zN3,zN4,zI0,zI1,zI2,zI3,reduceCtorEq,Jj S]
   exact put
theorem pl2 (dp:Nat)(p:Prog)(hms:∀ m ∈ p.mems,0<=m.n/\m.n<=16)(hml:p.mems.length<1000)(kx:Nat->K)(P:Option DV->Prop)(Q:List Place)
  (hx:∀ T q,Z01 .bot T 3=Z3m 1 (q:List Place)->Zq0 (Z5 p.mems) q->q.length<=20000->q=Q->P (Zh (kx 2 (mk .bot 58 T) ([.cells ((Yd p).map .d) 0 false]++Z30 q)))):
  ∀(m i f:Nat) (q:List Place),i+m=p.mems.length->m<=f->Zq0 (Z5 p.mems) q->(q.length:Int)<=4+Z5 (p.mems.take i)->plM (p.mems.drop i) (Z5 (p.mems.take i)) q=Q->
  P (Zh (Ja (inn E 41) (evC E fn dp) (Zi 20 Ja (inn E 41) (evC E fn dp) kx (Z0u 0 [.tmp 2]) f) kx (Z0u 0 [.tmp 2]) (mk .bot 58 [(1,.ref 0 0 0),(3,Z3m 1 q),(5,aI (Z5 (p.mems.take i))),(6,aI i)]) ([.cells ((Yd p).map .d) 0 false]++Z30 q))):=by
 intro m
 induction m with
 | zero=>
  intro i f q hk _ hq hl hQ
  rw[List.drop_of_length_le (by omega)] at hQ
  have hb:=Z34 (p.mems.take i)
  have hbl:(p.mems.take i).length<=p.mems.length:=by simp;omega
  have hin:¬(i:Int)<p.mems.length:=by omega
  generalize Zi 20 Ja _ _ kx _ f=KK
  first | (conv=>lhs;rw[Ja]) | rw[Ja]
  by_cases h0:q.length=0
  ·have := fun T b => hx T q (by rw [Z3b h0]; exact b) hq (by omega) hQ
   rw[Z3a h0] at this
   rw[Z3b h0,Z3a h0]
   simp only[eG,go_sem,thq S,nbr S,zN0,zN1,zN2,zN3,zN4,zI0,zI1,zI2,zI3,reduceCtorEq,Jj S,hin]
   exact this _ rfl
  ·have := fun T b => hx T q (by rw [Za h0]; exact b) hq (by omega) hQ
   rw[Z9 h0] at this
   rw[Za h0,Z9 h0]
   simp only[eG,go_sem,thq S,nbr S,zN0,zN1,zN2,zN3,zN4,zI0,zI1,zI2,zI3,reduceCtorEq,Jj S,hin]
   exact this _ rfl
 | succ m ih=>
  intro i f q hk hf hq hl hQ
  obtain⟨e,he⟩:=Yz (show i<p.mems.length by omega)
  obtain⟨f,rfl⟩:∃ g,f=g+1:=⟨f-1,by omega⟩
  have hin:(i:Int)<p.mems.length:=by omega
  have hen:=hms e (List.mem_of_getElem? he)
  generalize hK:Zi 20 Ja _ _ kx _ (f+1)=KK
  first | (conv=>lhs;rw[Ja]) | rw[Ja]
  have hS:Z5 (p.mems.take (i+1))=Z5 (p.mems.take i)+e.n:=by rw[Z58 he,Int.max_eq_left hen.1,Int.min_eq_left hen.2]
  have hQ':plM (p.mems.drop (i+1)) (Z5 (p.mems.take (i+1))) (plC e.secret e.n.toNat (Z5 (p.mems.take i)) q)=Q:=by rw[<-hQ,Z02 he,plM,hS]
  have inner:=fun(kx':Nat->K) hx'=>pl3 S dp p hms hml i e he kx' P (plC e.secret e.n.toNat (Z5 (p.mems.take i)) q) hx' e.n.toNat 0 999999999999999999999999999999 q (by omega) (by omega) hq (by omega) (by simp)
  by_cases h0:q.length=0
  ·rw [Z3b h0, Z3a h0]
   simp only[Z3b h0,Z3a h0,Int.cast_ofNat_Int,Int.add_zero] at inner
   simp only[eG,go_sem,thq S,nbr S,zN0,zN1,zN2,zN3,zN4,zI0,zI1,zI2,zI3,reduceCtorEq,Jj S,hin]
   rw[Y2,Z1 (on S _ _ [1,3,5,6,7] (by decide) rfl) rfl _ _ _ _ _ _ _ _ _ rfl]
   simp only[eG,go_sem,thq S,nbr S,zN0,zN1,zN2,zN3,zN4,zI0,zI1,zI2,zI3,reduceCtorEq,Jj S]
   refine inner _ ?_
   intro T q' t1 t3 t5 t6 hq' hl' hQq
   have next:=ih (i+1) f q' (by omega) (by omega) hq' hl' (by rw[hQq];exact hQ')
   by_cases h1:q'.length=0
   ·rw [Z3b h1] at t3
    rw[Z3a h1]
    rw[Z3b h1,Z3a h1] at next
    simp only[eG,go_sem,thq S,nbr S,zN0,zN1,zN2,zN3,zN4,zI0,zI1,zI2,zI3,reduceCtorEq,Jj S,t1,t3,t5,t6,wi i (by omega)]
    rw[<-hK,Z1 (on S _ _ [1,3,5,6] (by decide) rfl) rfl _ _ _ _ _ _ _ _ _ rfl]
    simp only[eG,go_sem,thq S,nbr S,zN0,zN1,zN2,zN3,zN4,zI0,zI1,zI2,zI3,reduceCtorEq,Jj S,t1,t3,t5,t6]
    exact next
   ·rw [Za h1] at t3
    rw[Z9 h1]
    rw[Za h1,Z9 h1] at next
    simp only[eG,go_sem,thq S,nbr S,zN0,zN1,zN2,zN3,zN4,zI0,zI1,zI2,zI3,reduceCtorEq,Jj S,t1,t3,t5,t6,wi i (by omega)]
    rw[<-hK,Z1 (on S _ _ [1,3,5,6] (by decide) rfl) rfl _ _ _ _ _ _ _ _ _ rfl]
    simp only[eG,go_sem,thq S,nbr S,zN0,zN1,zN2,zN3,zN4,zI0,zI1,zI2,zI3,reduceCtorEq,Jj S,t1,t3,t5,t6]
    exact next
  ·rw [Za h0, Z9 h0]
   simp only[Za h0,Z9 h0,Int.cast_ofNat_Int,Int.add_zero] at inner
   simp only[eG,go_sem,thq S,nbr S,zN0,zN1,zN2,zN3,zN4,zI0,zI1,zI2,zI3,reduceCtorEq,Jj S,hin]
   rw[Y2,Z1 (on S _ _ [1,3,5,6,7] (by decide) rfl) rfl _ _ _ _ _ _ _ _ _ rfl]
   simp only[eG,go_sem,thq S,nbr S,zN0,zN1,zN2,zN3,zN4,zI0,zI1,zI2,zI3,reduceCtorEq,Jj S]
   refine inner _ ?_
   intro T q' t1 t3 t5 t6 hq' hl' hQq
   have next:=ih (i+1) f q' (by omega) (by omega) hq' hl' (by rw[hQq];exact hQ')
   by_cases h1:q'.length=0
   ·rw [Z3b h1] at t3
    rw[Z3a h1]
    rw[Z3b h1,Z3a h1] at next
    simp only[eG,go_sem,thq S,nbr S,zN0,zN1,zN2,zN3,zN4,zI0,zI1,zI2,zI3,reduceCtorEq,Jj S,t1,t3,t5,t6,wi i (by omega)]
    rw[<-hK,Z1 (on S _ _ [1,3,5,6] (by decide) rfl) rfl _ _ _ _ _ _ _ _ _ rfl]
    simp only[eG,go_sem,thq S,nbr S,zN0,zN1,zN2,zN3,zN4,zI0,zI1,zI2,zI3,reduceCtorEq,Jj S,t1,t3,t5,t6]
    exact next
   ·rw [Za h1] at t3
    rw[Z9 h1]
    rw[Za h1,Z9 h1] at next
    simp only[eG,go_sem,thq S,nbr S,zN0,zN1,zN2,zN3,zN4,zI0,zI1,zI2,zI3,reduceCtorEq,Jj S,t1,t3,t5,t6,wi i (by omega)]
    rw[<-hK,Z1 (on S _ _ [1,3,5,6] (by decide) rfl) rfl _ _ _ _ _ _ _ _ _ rfl]
    simp only[eG,go_sem,thq S,nbr S,zN0,zN1,zN2,zN3,zN4,zI0,zI1,zI2,zI3,reduceCtorEq,Jj S,t1,t3,t5,t6]
    exact next
end
theorem Zv0 (n:Nat):rep [zi] n=(rC (List.replicate n (0:Int))).map .d:=by
 induction n with
 | zero=>rfl
 | succ n ih=>show zi::rep [zi] n=_;rw[ih];rfl
theorem Y7a (n nb:Nat)(h:n<=100000):Zvo [zi] 1 8 nb (aI n) (aI n)=some (.made (.sref nb 0 0 n 1 (some n)) [.cells ((rC (List.replicate n (0:Int))).map .d) 0 false]):=by
 have lim:Zf=1099511627776:=rfl
 show(if(0:Int)<=n/\(n:Int)<=n/\8*(n:Int)<=Zf/\(n:Int)<=Zf then some (Done.made (.sref nb 0 0 (n:Int).toNat 1 (some (n:Int).toNat)) [.cells (rep [zi] (n:Int).toNat) 0 false]) else none)=_
 rw[if_pos (by omega),Int.toNat_natCast,Zv0]
theorem Zx4 (E:Env)(call:cT)(tm:List AV)(A:List Blk)(nb:Nat)(z:List AV)(s bytes:Nat)(l c:Opd):Znk z s bytes l c E call tm A nb=Zvo z s bytes nb (look tm l) (look tm c):=id rfl
structure SOk (N:Int) (s:State):Prop where
 mem:(s.mem.length:Int)=N
 mv:∀ x ∈ s.mem,0<=x
 rg:0<=s.regs.r0/\0<=s.regs.r1/\0<=s.regs.r2/\0<=s.regs.r3
 stk:s.stack=[]
 pc:s.pc=0
variable {E:Env} {fn:FuncId->Option (Env->cT->cT)}
section
variable (S:Sur E fn)
include S
theorem Z79:E.lives 41 1=none/\E.lives 41 15=none:=⟨off S 41 1 (by decide) rfl,off S 41 15 (by decide) rfl⟩
theorem Z8w:E.lives 42 1=none/\E.lives 42 9=none/\E.lives 42 23=none:=⟨off S 42 1 (by decide) rfl,off S 42 9 (by decide) rfl,off S 42 23 (by decide) rfl⟩
theorem Zc8 (dp:Nat)(p:Prog)(hms:∀ m ∈ p.mems,0<=m.n/\m.n<=16)(hml:p.mems.length<1000):Zk E fn (dp+1) 41 [Zn p] (rD (places p))/\Zq0 (Z5 p.mems) (places p)/\(places p).length<=20000:=by
 obtain⟨P,hP⟩:∃ P:Option DV->Prop,P=fun o=>o=some (rD (places p))/\Zq0 (Z5 p.mems) (places p)/\(places p).length<=20000:=⟨_,rfl⟩
 have fin:∀ q:List Place,Zq0 (Z5 p.mems) q->q.length<=20000->q=places p->P (some (rD q)):=fun q h1 h2 h3=>by subst h3;rw[hP];exact⟨rfl,h1,h2⟩
 have key:P (Zh (evC E fn (dp+1) 41 [.d (Zn p)] [])):=by
  clear hP
  rw[Z2,S.Zdi,Z3,Zec,Z6 _ _ _ _ _ _ _ _ rfl]
  simp only[eG,go_sem,thq S,nbr S,zN0,zN1,zN2,zN3,zN4,zI0,zI1,zI2,zI3,reduceCtorEq,Z79 S]
  rw[Y2,Z1 (on S _ _ [1,3,4] (by decide) rfl) rfl _ _ _ _ _ _ _ _ _ rfl]
  simp only[eG,go_sem,thq S,nbr S,zN0,zN1,zN2,zN3,zN4,zI0,zI1,zI2,zI3,reduceCtorEq,Z79 S]
  refine pl1 S dp (Z5 p.mems) p _ P (plR p 4 0 []) ?_ 4 0 _ [] (by omega) (by omega) (by intro x hx;cases hx) (by simp) rfl
  intro T q t1 t3 hq hl hQ
  have next:=fun(kx:Nat->K) hx=>pl2 S dp p hms hml kx P (places p) hx p.mems.length 0 999999999999999999999999999999 q (by omega) (by omega) hq (by simp[Z5];omega) (by rw[hQ];rfl)
  have e0:Z5 (p.mems.take 0)=0:=rfl
  rw[e0] at next
  by_cases h0:q.length=0
  ·rw [Z3b h0] at t3
   rw[Z3a h0]
   simp only[Z3b h0,Z3a h0] at next
   simp only[eG,go_sem,thq S,nbr S,zN0,zN1,zN2,zN3,zN4,zI0,zI1,zI2,zI3,reduceCtorEq,Z79 S,t1,t3]
   rw[Y2,Z1 (on S _ _ [1,3,5,6] (by decide) rfl) rfl _ _ _ _ _ _ _ _ _ rfl]
   simp only[eG,go_sem,thq S,nbr S,zN0,zN1,zN2,zN3,zN4,zI0,zI1,zI2,zI3,reduceCtorEq,Z79 S,t1,t3]
   refine next _ ?_
   intro T q' t3 hq' hl' hQ'
   by_cases h1:q'.length=0
   ·rw [Z3b h1] at t3
    rw[Z3a h1]
    simp only[eG,go_sem,thq S,nbr S,zN0,zN1,zN2,zN3,zN4,zI0,zI1,zI2,zI3,reduceCtorEq,Z79 S,t3]
    have e:q'=[]:=List.length_eq_zero_iff.1 h1
    subst e
    exact fin [] hq' hl' hQ'
   ·rw [Za h1] at t3
    rw[Z9 h1]
    have hne:q'≠[]:=fun e=>h1 (by rw[e];rfl)
    have hd:deep [.cells ((rC q').map .d) 0 false] 8 (.sref 0 0 0 q'.length 3 none)=some (.lst (rC q') q'.length none,[0]):=Y8 q' hne _ rfl 6 3 none rfl
    simp only[eG,go_sem,thq S,nbr S,zN0,zN1,zN2,zN3,zN4,zI0,zI1,zI2,zI3,reduceCtorEq,Z79 S,t3,hd]
    exact fin q' hq' hl' hQ'
  ·rw [Za h0] at t3
   rw[Z9 h0]
   simp only[Za h0,Z9 h0] at next
   simp only[eG,go_sem,thq S,nbr S,zN0,zN1,zN2,zN3,zN4,zI0,zI1,zI2,zI3,reduceCtorEq,Z79 S,t1,t3]
   rw[Y2,Z1 (on S _ _ [1,3,5,6] (by decide) rfl) rfl _ _ _ _ _ _ _ _ _ rfl]
   simp only[eG,go_sem,thq S,nbr S,zN0,zN1,zN2,zN3,zN4,zI0,zI1,zI2,zI3,reduceCtorEq,Z79 S,t1,t3]
   refine next _ ?_
   intro T q' t3 hq' hl' hQ'
   by_cases h1:q'.length=0
   ·rw [Z3b h1] at t3
    rw[Z3a h1]
    simp only[eG,go_sem,thq S,nbr S,zN0,zN1,zN2,zN3,zN4,zI0,zI1,zI2,zI3,reduceCtorEq,Z79 S,t3]
    have e:q'=[]:=List.length_eq_zero_iff.1 h1
    subst e
    exact fin [] hq' hl' hQ'
   ·rw [Za h1] at t3
    rw[Z9 h1]
    have hne:q'≠[]:=fun e=>h1 (by rw[e];rfl)
    have hd:deep [.cells ((rC q').map .d) 0 false] 8 (.sref 0 0 0 q'.length 3 none)=some (.lst (rC q') q'.length none,[0]):=Y8 q' hne _ rfl 6 3 none rfl
    simp only[eG,go_sem,thq S,nbr S,zN0,zN1,zN2,zN3,zN4,zI0,zI1,zI2,zI3,reduceCtorEq,Z79 S,t3,hd]
    exact fin q' hq' hl' hQ'
 rw[hP] at key
 exact key
def Y0w:Blk:=.cells [zi,zi,zi,zi,zn,zn,zi] 0 false
def Y0x (rg:Regs)(n:Nat):Blk:=.cells [.d (vi rg.r0),.d (vi rg.r1),.d (vi rg.r2),.d (vi rg.r3),.sref 3 0 0 n 1 (some n),zn,zi] 0 false
theorem Zxz (dp:Nat)(p:Prog)(q:List Place)(n:Nat)(hq:Zq0 n q)(hql:q.length<=20000)(l:List Int)(hll:l.length=q.length)(kx:Nat->K)(P:Option DV->Prop)
  (hx:∀ T rg mem,Z01 .bot T 4=.ref 1 0 0->Z01 .bot T 7=.ref 2 0 0->(mem:List Int).length=n->(∀ x ∈ mem,0<=x)->(0<=rg.r0/\0<=rg.r1/\0<=rg.r2/\0<=rg.r3)->P (Zh (kx 0 (mk .bot 58 T) [.cells ((Yd p).map .d) 0 false,Y0w,Y0x rg n,.cells ((rC mem).map .d) 0 false]))):
  ∀(m k f:Nat) (rg:Regs) (mem:List Int),k+m=q.length->m<=f->mem.length=n->(∀ x ∈ mem,0<=x)->(0<=rg.r0/\0<=rg.r1/\0<=rg.r2/\0<=rg.r3)->
  P (Zh (Jt (inn E 42) (evC E fn (dp+3)) (Zi 14 Jt (inn E 42) (evC E fn (dp+3)) kx (Z0u 0 [.cell 4 true 7,.tmp 5]) f) kx (Z0u 0 [.cell 4 true 7,.tmp 5]) (mk .bot 58 [(1,.d (rD l)),(2,.ref 0 0 0),(4,.ref 1 0 0),(6,.d (rD q)),(7,.ref 2 0 0),(8,aI k)]) [.cells ((Yd p).map .d) 0 false,Y0w,Y0x rg n,.cells ((rC mem).map .d) 0 false])):=by
 intro m
 induction m with
 | zero=>
  intro k f rg mem hk _ hm hv hr
  have hkq:¬(k:Int)<q.length:=by omega
  generalize Zi 14 Jt _ _ kx _ f=KK
  first | (conv=>lhs;rw[Jt]) | rw[Jt]
  simp only[eG,go_sem,thq S,nbr S,zN0,zN1,zN2,zN3,zN4,zI0,zI1,zI2,zI3,reduceCtorEq,Z8w S,hkq]
  exact hx _ rg mem rfl rfl hm hv hr
 | succ m ih=>
  intro k f rg mem hk hf hm hv hr
  obtain⟨x,hxq⟩:=Yz (show k<q.length by omega)
  obtain⟨y,hyl⟩:=Yz (show k<l.length by omega)
  obtain⟨f,rfl⟩:∃ g,f=g+1:=⟨f-1,by omega⟩
  have hkq:(k:Int)<q.length:=by omega
  have hx1:=hq x (List.mem_of_getElem? hxq)
  have hy0:=Md.mask_nn p.w y
  have next:=fun rg' mem' h1 h2 h3=>ih (k+1) f rg' mem' (by omega) (by omega) h1 h2 h3
  generalize hK:Zi 14 Jt _ _ kx _ (f+1)=KK
  first | (conv=>lhs;rw[Jt]) | rw[Jt]
  unfold Y0w Y0x
  unfold Y0w Y0x at next
  cases hreg:x.reg with
  | true=>
   obtain⟨a0,a1⟩:=hx1.1 hreg
   have hst:∀(A:List Blk) (v:Int) (m s q:AV),storeAt A 2 0 (x.n.toNat*1) [.d (vi v)] 1 (some (.cells [.d (vi rg.r0),.d (vi rg.r1),.d (vi rg.r2),.d (vi rg.r3),m,s,q] 0 false))=some (A.set 2 (.cells [.d (vi (Md.setR rg x.n v).r0),.d (vi (Md.setR rg x.n v).r1),.d (vi (Md.setR rg x.n v).r2),.d (vi (Md.setR rg x.n v).r3),m,s,q] 0 false)):=fun A v m s q=>by
    have d4:x.n=0∨x.n=1∨x.n=2∨x.n=3:=by omega
    rcases d4 with d | d | d | d<;>rw[d]<;>rfl
   simp only[eG,go_sem,thq S,nbr S,zN0,zN1,zN2,zN3,zN4,zI0,zI1,zI2,zI3,reduceCtorEq,Z8w S,hkq,Q4 hyl,Q4 hxq,Y7 S,hreg,a0,a1,hst,Int.cast_ofNat_Int,true_and,and_self,if_true,Nat.zero_add,wi k (by omega)]
   rw[<-hK,Z1 (on S _ _ [1,2,4,6,7,8] (by decide) rfl) rfl _ _ _ _ _ _ _ _ _ rfl]
   simp only[eG,go_sem,thq S,nbr S,zN0,zN1,zN2,zN3,zN4,zI0,zI1,zI2,zI3,reduceCtorEq,Z8w S]
   exact next (Md.setR rg x.n (Md.mask p.w y)) mem hm hv (Md.setR_nn hr x.n hy0)
  | false=>
   obtain⟨a0,a1⟩:=hx1.2 hreg
   have a2:x.n.toNat<mem.length:=by omega
   have hst:∀(A:List Blk) (j:Nat) (v:Int),storeAt A j 0 (x.n.toNat*1) [.d (vi v)] 1 (some (.cells ((rC mem).map .d) 0 false))=some (A.set j (.cells ((rC (mem.set x.n.toNat v)).map .d) 0 false)):=fun A j v=>
    Zc7 (o:=0) (e':=v) [vi v] (List.getElem?_eq_getElem a2) rfl rfl rfl rfl (by show 0+1<=1;decide) 1 rfl _ rfl
   simp only[eG,go_sem,thq S,nbr S,zN0,zN1,zN2,zN3,zN4,zI0,zI1,zI2,zI3,reduceCtorEq,Z8w S,hkq,Q4 hyl,Q4 hxq,Y7 S,hreg,a0,a1,hst,Int.cast_ofNat_Int,true_and,and_self,if_true,Nat.zero_add,wi k (by omega)]
   rw[<-hK,Z1 (on S _ _ [1,2,4,6,7,8] (by decide) rfl) rfl _ _ _ _ _ _ _ _ _ rfl]
   simp only[eG,go_sem,thq S,nbr S,zN0,zN1,zN2,zN3,zN4,zI0,zI1,zI2,zI3,reduceCtorEq,Z8w S]
   exact next rg (mem.set x.n.toNat (Md.mask p.w y)) (by rw[List.length_set];exact hm) (fun z hz=>by
    rcases List.mem_or_eq_of_mem_set hz with hz | rfl
    ·exact hv z hz
    ·exact hy0) hr
theorem Zfd (dp:Nat)(p:Prog)(hms:∀ m ∈ p.mems,0<=m.n/\m.n<=16)(hml:p.mems.length<1000)(q:List Place)(hsq:Zk E fn (dp+3) 41 [Zn p] (rD q))(hq:Zq0 (Z5 p.mems) q)(hql:q.length<=20000)(l:List Int)(hll:l.length=q.length):
  ∃ s:State,Zk E fn (dp+4) 42 [Zn p,rD l] (.tup [Z0y s,vb true])/\SOk (Z5 p.mems) s:=by
 have hcl:=Z34 p.mems
 obtain⟨n,hn⟩:=Int.eq_ofNat_of_zero_le hcl.1
 have hn1:n<=100000:=by omega
 rw[hn] at hq ⊢
 obtain⟨P,hP⟩:∃ P:Option DV->Prop,P=fun o=>∃ s:State,o=some (.tup [Z0y s,vb true])/\SOk n s:=⟨_,rfl⟩
 have fin:∀ s:State,SOk n s->P (some (.tup [Z0y s,vb true])):=fun s h=>by rw[hP];exact⟨s,rfl,h⟩
 have cP:=fun(A:List Blk) (nb:Nat)=>Zk.deep hsq (np S 41 (by decide)) A nb
 simp only[Zn,Yd] at cP
 have hml':p.mems.length<1073741824:=by omega
 have cC:=fun(A:List Blk) (nb:Nat) (us:List Nat)=>Zk.flat (Zjo S (dp+2) p hml' hms) (np S 74 (by decide)) rfl A nb us
 simp only[Zn,Yd,hn] at cC
 have key:P (Zh (evC E fn (dp+4) 42 [.d (Zn p),.d (rD l)] [])):=by
  clear hP
  show P (Zh (evC E fn (dp+3+1) 42 [.d (Zn p),.d (rD l)] []))
  rw[Z2,S.Zg3,Z3,Zgw,Z6 _ _ _ _ _ _ _ _ rfl]
  simp only[eG,go_sem,thq S,nbr S,zN0,zN1,zN2,zN3,zN4,zI0,zI1,zI2,zI3,reduceCtorEq,Z8w S,cP,hll,cC,Zx4,Y7a n _ hn1,ne_eq,not_true_eq_false]
  rw[Y2,Z1 (on S _ _ [1,2,4,6,7,8] (by decide) rfl) rfl _ _ _ _ _ _ _ _ _ rfl]
  simp only[eG,go_sem,thq S,nbr S,zN0,zN1,zN2,zN3,zN4,zI0,zI1,zI2,zI3,reduceCtorEq,Z8w S]
  refine Zxz S dp p q n hq hql l hll _ P ?_ q.length 0 _ ⟨0,0,0,0⟩ (List.replicate n 0) (by omega) (by omega) (by simp) (fun x hx=>by rw[List.eq_of_mem_replicate hx];exact Int.le_refl _) ⟨Int.le_refl _,Int.le_refl _,Int.le_refl _,Int.le_refl _⟩
  intro T rg mem t4 t7 hm hv hr
  unfold Y0w Y0x
  have hl1:n*1<=((rC mem).map AV.d).length:=by rw[List.length_map,Yc,hm];exact Nat.le_refl _
  have ht1:∀(A:List Blk) (m:Nat),Z2e (deep A (m+1)) (((rC mem).map AV.d).take (n*1))=some (rC mem,[]):=fun A m=>by
   rw[List.take_of_length_le (by rw[List.length_map,Yc,hm];exact Nat.le_refl _),Z52]
  by_cases n0:n=0
  ·have e : mem = [] := List.length_eq_zero_iff.1 (by omega)
   subst e
   simp only[eG,go_sem,thq S,nbr S,zN0,zN1,zN2,zN3,zN4,zI0,zI1,zI2,zI3,reduceCtorEq,Z8w S,t4,t7,Zo,n0]
   exact fin ⟨rg,[],[],0⟩ ⟨by simp[n0],hv,hr,rfl,rfl⟩
  ·simp only [eG, go_sem, thq S, nbr S, zN0, zN1, zN2, zN3, zN4, zI0, zI1, zI2, zI3, reduceCtorEq, Z8w S, t4, t7, Zo, n0, hl1, ht1, Option.bind_some, Option.map_some]
   have hf:DV.lst (rC mem) n none=rD mem:=by unfold rD;rw[hm]
   rw[hf]
   exact fin ⟨rg,mem,[],0⟩ ⟨by simp[hm],hv,hr,rfl,rfl⟩
 rw[hP] at key
 obtain⟨s,h1,h2⟩:=key
 exact⟨s,h1,h2⟩
end
theorem Zts (ps:List (Opd×Opd))(k:K)(tm:List AV)(A:List Blk):Ztp ps k tm A=bif Z2y tm ps then k tm A else none:=id rfl
theorem Zzi (tm:List AV)(p:Opd×Opd)(l:List (Opd×Opd)):Z2y tm (p::l)=(Zej (look tm p.1) (look tm p.2)&&Z2y tm l):=id rfl
theorem Zzj (tm:List AV):Z2y tm []=true:=id rfl
theorem Zzh (i v o j w q:Nat):Zej (.ref i v o) (.ref j w q)= !Nat.beq i j:=id rfl
theorem wrX {l:List Int}{k:Nat}(h:k<l.length)(i v:Nat)(A:List Blk)(n:Int):storeAt A i v (k*1) [.d (vi n)] 1 (some (.cells ((rC l).map .d) v false))=some (A.set i (.cells ((rC (l.set k n)).map .d) v false)):=
 Zc7 (o:=0) (e':=n) [vi n] (List.getElem?_eq_getElem h) rfl rfl rfl rfl (by show 0+1<=1;decide) 1 rfl _ rfl
variable {E:Env} {fn:FuncId->Option (Env->cT->cT)}
section
variable (S:Sur E fn)
include S
theorem Z3y:E.lives 14 1=none/\E.lives 14 17=none/\E.lives 14 21=none:=⟨off S 14 1 (by decide) rfl,off S 14 17 (by decide) rfl,off S 14 21 (by decide) rfl⟩
theorem Znz (dp:Nat)(p:Prog)(q:List Place)(hql:q.length<=20000)(l:List Int)(how:Int)(kx:Nat->K)(P:Option DV->Prop)
  (hx : ∀ T x y, Z01 .bot T 3 = .ref 0 0 0 -> Z01 .bot T 6 = .ref 1 0 0 -> Z01 .bot T 7 = .ref 2 0 0 -> Z01 .bot T 9 = .sref 3 0 0 q.length 1 (some q.length) -> Z01 .bot T 10 = .sref 4 0 0 q.length 1 (some q.length) -> (x : List Int).length = q.length -> (y : List Int).length = q.length ->
   P (Zh (kx 0 (mk .bot 80 T) [.cells ((Yd p).map .d) 0 false,.cells [zi,zi,zi,zi,zn,zn,zi] 0 false,.cells [zi,zi,zi,zi,zn,zn,zi] 0 false,.cells ((rC x).map .d) 0 false,.cells ((rC y).map .d) 0 false]))):
  ∀(m k f:Nat) (x y:List Int),k+m=q.length->m<=f->x.length=q.length->y.length=q.length->
  P (Zh (Jb (inn E 14) (evC E fn dp) (Zi 10 Jb (inn E 14) (evC E fn dp) kx (Z0u 0 [.cell 6 true 7,.cell 7 true 7]) f) kx (Z0u 0 [.cell 6 true 7,.cell 7 true 7]) (mk .bot 80 [(1,.d (rD l)),(2,aI how),(3,.ref 0 0 0),(6,.ref 1 0 0),(7,.ref 2 0 0),(8,.d (rD q)),(9,.sref 3 0 0 q.length 1 (some q.length)),(10,.sref 4 0 0 q.length 1 (some q.length)),(25,aI q.length),(26,aI k)])
   [.cells ((Yd p).map .d) 0 false,.cells [zi,zi,zi,zi,zn,zn,zi] 0 false,.cells [zi,zi,zi,zi,zn,zn,zi] 0 false,.cells ((rC x).map .d) 0 false,.cells ((rC y).map .d) 0 false])):=by
 intro m
 induction m with
 | zero=>
  intro k f x y hk _ hxl hyl
  have hkq:¬(k:Int)<q.length:=by omega
  generalize Zi 10 Jb _ _ kx _ f=KK
  first | (conv=>lhs;rw[Jb]) | rw[Jb]
  simp only[eG,go_sem,thq S,nbr S,zN0,zN1,zN2,zN3,zN4,zI0,zI1,zI2,zI3,reduceCtorEq,Z3y S,hkq]
  exact hx _ x y rfl rfl rfl rfl rfl hxl hyl
 | succ m ih=>
  intro k f x y hk hf hxl hyl
  obtain⟨z,hzq⟩:=Yz (show k<q.length by omega)
  obtain⟨f,rfl⟩:∃ g,f=g+1:=⟨f-1,by omega⟩
  have hkq:(k:Int)<q.length:=by omega
  have hkx:k<x.length:=by omega
  have hky:k<y.length:=by omega
  have next:=fun x' y' h1 h2=>ih (k+1) f x' y' (by omega) (by omega) h1 h2
  generalize hK:Zi 10 Jb _ _ kx _ (f+1)=KK
  first | (conv=>lhs;rw[Jb]) | rw[Jb]
  by_cases hl:(k:Int)<l.length
  ·obtain ⟨v, hvl⟩ := Yz (show k < l.length by omega)
   cases hsec:z.secret with
   | true=>
    simp only[eG,go_sem,thq S,nbr S,zN0,zN1,zN2,zN3,zN4,zI0,zI1,zI2,zI3,reduceCtorEq,Z3y S,hkq,hl,Q4 hvl,Q4 hzq,hsec,wrX,hkx,hky,List.length_set,Int.natCast_nonneg,Int.toNat_natCast,Int.ofNat_lt,Nat.zero_add,true_and,and_self,and_true,if_true,wi k (by omega)]
    rw[<-hK,Z1 (on S _ _ [1,2,3,6,7,8,9,10,25,26] (by decide) rfl) rfl _ _ _ _ _ _ _ _ _ rfl]
    simp only[eG,go_sem,thq S,nbr S,zN0,zN1,zN2,zN3,zN4,zI0,zI1,zI2,zI3,reduceCtorEq,Z3y S]
    exact next _ _ (by rw[List.length_set];exact hxl) (by rw[List.length_set,List.length_set];exact hyl)
   | false=>
    by_cases h7:Md.iand how 7=0
    ·simp only [eG, go_sem, thq S, nbr S, zN0, zN1, zN2, zN3, zN4, zI0, zI1, zI2, zI3, reduceCtorEq, Z3y S, hkq, hl, Q4 hvl, Q4 hzq, hsec, Yy, h7, wrX, hkx, hky, List.length_set, Int.natCast_nonneg, Int.toNat_natCast, Int.ofNat_lt, Nat.zero_add, true_and, and_self, and_true, if_true, wi k (by omega)]
     rw[<-hK,Z1 (on S _ _ [1,2,3,6,7,8,9,10,25,26] (by decide) rfl) rfl _ _ _ _ _ _ _ _ _ rfl]
     simp only[eG,go_sem,thq S,nbr S,zN0,zN1,zN2,zN3,zN4,zI0,zI1,zI2,zI3,reduceCtorEq,Z3y S]
     exact next _ _ (by rw[List.length_set];exact hxl) (by rw[List.length_set,List.length_set];exact hyl)
    ·simp only [eG, go_sem, thq S, nbr S, zN0, zN1, zN2, zN3, zN4, zI0, zI1, zI2, zI3, reduceCtorEq, Z3y S, hkq, hl, Q4 hvl, Q4 hzq, hsec, Yy, h7, wrX, hkx, hky, List.length_set, Int.natCast_nonneg, Int.toNat_natCast, Int.ofNat_lt, Nat.zero_add, true_and, and_self, and_true, if_true, wi k (by omega)]
     rw[<-hK,Z1 (on S _ _ [1,2,3,6,7,8,9,10,25,26] (by decide) rfl) rfl _ _ _ _ _ _ _ _ _ rfl]
     simp only[eG,go_sem,thq S,nbr S,zN0,zN1,zN2,zN3,zN4,zI0,zI1,zI2,zI3,reduceCtorEq,Z3y S]
     exact next _ _ (by rw[List.length_set];exact hxl) (by rw[List.length_set];exact hyl)
  ·simp only [eG, go_sem, thq S, nbr S, zN0, zN1, zN2, zN3, zN4, zI0, zI1, zI2, zI3, reduceCtorEq, Z3y S, hkq, hl, wi k (by omega)]
   rw[<-hK,Z1 (on S _ _ [1,2,3,6,7,8,9,10,25,26] (by decide) rfl) rfl _ _ _ _ _ _ _ _ _ rfl]
   simp only[eG,go_sem,thq S,nbr S,zN0,zN1,zN2,zN3,zN4,zI0,zI1,zI2,zI3,reduceCtorEq,Z3y S]
   exact next x y hxl hyl
theorem Zj8 (dp:Nat)(p:Prog)(hms:∀ m ∈ p.mems,0<=m.n/\m.n<=16)(hml:p.mems.length<1000)(l:List Int)(how:Int):
  ∃ s s':State,Zk E fn (dp+5) 14 [Zn p,rD l,vi how] (.tup [Z0y s,Z0y s'])/\SOk (Z5 p.mems) s/\SOk (Z5 p.mems) s':=by
 obtain⟨hq,hqo,hql⟩:=Zc8 S (dp+3) p hms hml
 obtain⟨hq',_,_⟩:=Zc8 S (dp+2) p hms hml
 generalize hQ:places p=q at *
 obtain⟨P,hP⟩:∃ P:Option DV->Prop,P=fun o=>∃ s s':State,o=some (.tup [Z0y s,Z0y s'])/\SOk (Z5 p.mems) s/\SOk (Z5 p.mems) s':=⟨_,rfl⟩
 have fin:∀ s s':State,SOk (Z5 p.mems) s->SOk (Z5 p.mems) s'->P (some (.tup [Z0y s,Z0y s'])):=fun s s' h h'=>by rw[hP];exact⟨s,s',rfl,h,h'⟩
 have cP:=fun(A:List Blk) (nb:Nat)=>Zk.deep hq (np S 41 (by decide)) A nb
 simp only[Zn,Yd] at cP
 have key:P (Zh (evC E fn (dp+5) 14 [.d (Zn p),.d (rD l),aI how] [])):=by
  clear hP
  show P (Zh (evC E fn (dp+4+1) 14 [.d (Zn p),.d (rD l),aI how] []))
  rw[Z2,S.Zd9,Z3,Ze3,Z6 _ _ _ _ _ _ _ _ rfl]
  have hmk:=fun nb=>Y7a q.length nb (show q.length<=100000 by omega)
  simp only[eG,go_sem,thq S,nbr S,zN0,zN1,zN2,zN3,zN4,zI0,zI1,zI2,zI3,reduceCtorEq,Z3y S,cP,Zx4,hmk]
  rw[Y2,Z1 (on S _ _ [1,2,3,6,7,8,9,10,25,26] (by decide) rfl) rfl _ _ _ _ _ _ _ _ _ rfl]
  simp only[eG,go_sem,thq S,nbr S,zN0,zN1,zN2,zN3,zN4,zI0,zI1,zI2,zI3,reduceCtorEq,Z3y S]
  refine Znz S (dp+4) p q hql l how _ P ?_ q.length 0 _ (List.replicate q.length 0) (List.replicate q.length 0) (by omega) (by omega) (by simp) (by simp)
  intro T x y t3 t6 t7 t9 t10 hxl hyl
  obtain⟨s1,h1,o1⟩:=Zfd S dp p hms hml q hq' hqo hql x hxl
  obtain⟨s2,h2,o2⟩:=Zfd S dp p hms hml q hq' hqo hql y hyl
  have hlx:q.length*1<=((rC x).map AV.d).length:=by rw[List.length_map,Yc,hxl];exact Nat.le_refl _
  have hly:q.length*1<=((rC y).map AV.d).length:=by rw[List.length_map,Yc,hyl];exact Nat.le_refl _
  have htx:∀(A:List Blk) (m:Nat),Z2e (deep A (m+1)) (((rC x).map AV.d).take (q.length*1))=some (rC x,[]):=fun A m=>by
   rw[List.take_of_length_le (by rw[List.length_map,Yc,hxl];exact Nat.le_refl _),Z52]
  have hty:∀(A:List Blk) (m:Nat),Z2e (deep A (m+1)) (((rC y).map AV.d).take (q.length*1))=some (rC y,[]):=fun A m=>by
   rw[List.take_of_length_le (by rw[List.length_map,Yc,hyl];exact Nat.le_refl _),Z52]
  have hfx:DV.lst (rC x) q.length none=rD x:=by unfold rD;rw[hxl]
  have hfy:DV.lst (rC y) q.length none=rD y:=by unfold rD;rw[hyl]
  have hb:=np S 42 (by decide)
  have done:P (some (.tup [Z0y s1,Z0y s2])):=fin s1 s2 o1 o2
  simp only[Z0y,Z5y] at done h1 h2
  by_cases n0:q.length=0
  ·have ex : x = [] := List.length_eq_zero_iff.1 (by omega)
   have ey:y=[]:=List.length_eq_zero_iff.1 (by omega)
   subst ex ey
   have c1:=fun(A:List Blk) (nb:Nat)=>Zk.deep h1 hb A nb
   have c2:=fun(A:List Blk) (nb:Nat)=>Zk.deep h2 hb A nb
   simp only[Zn,Yd,Zj0] at c1 c2
   have d1:P (some (.tup [Z0y s1,Z0y s1])):=fin s1 s1 o1 o1
   simp only[Z0y,Z5y] at d1
   simp only[eG,go_sem,thq S,nbr S,zN0,zN1,zN2,zN3,zN4,zI0,zI1,zI2,zI3,reduceCtorEq,Z3y S,hfx,hfy,htx,hty,hlx,hly,Zo,Option.bind_some,Option.map_some,Zts,Zzi,Zzj,Zzh,show Nat.beq 1 6=false from rfl,Bool.not_false,t3,t6,t7,t9,t10,n0,c1,c2]
   exact d1
  ·by_cases N0 : Z5 p.mems = 0
   ·have m1 : s1.mem = [] := List.length_eq_zero_iff.1 (by have := o1.mem; omega)
    have m2:s2.mem=[]:=List.length_eq_zero_iff.1 (by have:=o2.mem;omega)
    rw[m1,o1.stk] at h1 done
    rw[m2,o2.stk] at h2 done
    have c1:=fun(A:List Blk) (nb:Nat) (us:List Nat)=>Zk.flat h1 hb rfl A nb us
    have c2:=fun(A:List Blk) (nb:Nat) (us:List Nat)=>Zk.flat h2 hb rfl A nb us
    simp only[Zn,Yd] at c1 c2
    simp only[eG,go_sem,thq S,nbr S,zN0,zN1,zN2,zN3,zN4,zI0,zI1,zI2,zI3,reduceCtorEq,Z3y S,hfx,hfy,htx,hty,hlx,hly,Zo,Option.bind_some,Option.map_some,Zts,Zzi,Zzj,Zzh,show Nat.beq 1 6=false from rfl,Bool.not_false,t3,t6,t7,t9,t10,n0,c1,c2]
    exact done
   ·have f1:DV.flat 8 (.tup [.agg [vi s1.regs.r0,vi s1.regs.r1,vi s1.regs.r2,vi s1.regs.r3,rD s1.mem,rD s1.stack,vi s1.pc],vb true])=false:=by
     cases hm:s1.mem with
     | nil=>have:=o1.mem;rw[hm] at this;exact absurd this.symm N0
     | cons a l=>rfl
    have f2:DV.flat 8 (.tup [.agg [vi s2.regs.r0,vi s2.regs.r1,vi s2.regs.r2,vi s2.regs.r3,rD s2.mem,rD s2.stack,vi s2.pc],vb true])=false:=by
     cases hm:s2.mem with
     | nil=>have:=o2.mem;rw[hm] at this;exact absurd this.symm N0
     | cons a l=>rfl
    have c1:=fun(A:List Blk) (nb i:Nat) (us:List Nat)=>Zk.used h1 hb f1 A nb i us
    have c2:=fun(A:List Blk) (nb i:Nat) (us:List Nat)=>Zk.used h2 hb f2 A nb i us
    simp only[Zn,Yd] at c1 c2
    simp only[eG,go_sem,thq S,nbr S,zN0,zN1,zN2,zN3,zN4,zI0,zI1,zI2,zI3,reduceCtorEq,Z3y S,hfx,hfy,htx,hty,hlx,hly,Zo,Option.bind_some,Option.map_some,Zts,Zzi,Zzj,Zzh,show Nat.beq 1 6=false from rfl,Bool.not_false,t3,t6,t7,t9,t10,n0,c1,c2]
    exact done
 rw[hP] at key
 obtain⟨s,s',h1,h2,h3⟩:=key
 exact⟨s,s',h1,h2,h3⟩
end
end Go.Aug.Mc
