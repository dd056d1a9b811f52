import Derived.Test.YtmfdoekbjkgckaaGreatMc12
import Derived.Test.YtmfdoekbjkgckaaGreatMc36
import Derived.Test.YtmfdoekbjkgckaaGreatMl
namespace Go.Aug.Mc
open Go Go.Aug
open Nat renaming reduceLT -> zN0, reduceEqDiff -> zN1, reduceAdd -> zN2, reduceMul -> zN3, reduceLeDiff -> zN4
open Int renaming reduceEq -> zI0, reduceLT -> zI1, reduceLE -> zI2, reduceNeg -> zI3
set_option linter.unusedSimpArgs false
set_option linter.unusedVariables false
set_option maxHeartbeats 40000000
variable {E:Env} {fn:FuncId->Option (Env->cT->cT)}
section
variable (S:Sur E fn)
include S
theorem P4:E.lives 52 1=none:=off S 52 1 (by decide) rfl
theorem Zix (dp:Nat)(p:Prog)(hl:p.mems.length<1073741824)(hr:∀ m ∈ p.mems,0<=m.n/\m.n<=16)(kx:Nat->K)(kr:K):∀ m k f,k+m=p.mems.length->m<=f->
  NE (Zq E 52) (Z5 E fn dp) (Z9 8 NE (Zq E 52) (Z5 E fn dp) kx kr f) kx kr (mk .bot 21 [(1,.ref 0 0 0),(3,aI (Zj (p.mems.take k))),(4,aI k)]) [.cells ((ZX p).map .d) 0 false]=
  kx 0 (mk .bot 21 [(9,YB false),(8,aI p.mems.length),(7,.d (rD p.mems)),(6,.ref 0 0 7),(5,aI p.mems.length),(1,.ref 0 0 0),(3,aI (Zj p.mems)),(4,aI p.mems.length)]) [.cells ((ZX p).map .d) 0 false]:=by
 intro m
 induction m with
 | zero=>
  intro k f hk _
  obtain rfl:k=p.mems.length:=by omega
  generalize Z9 8 NE _ _ kx kr f=KK
  rw[NE,List.take_of_length_le (by omega)]
  simp only[eG,go_sem,Z2 S,Z1 S,zN0,zN1,zN2,zN3,zN4,zI0,zI1,zI2,zI3,reduceCtorEq,P4 S,Int.lt_irrefl]
 | succ m ih=>
  intro k f hk hf
  obtain⟨e,he⟩:=QB (show k<p.mems.length by omega)
  obtain⟨f,rfl⟩:∃ g,f=g+1:=⟨f-1,by omega⟩
  generalize hK:Z9 8 NE _ _ kx kr (f+1)=KK
  rw[NE]
  have hb:=Mk (p.mems.take k)
  have hbl:(p.mems.take k).length<=p.mems.length:=by simp;omega
  have hen:=hr e (List.mem_of_getElem? he)
  have hw:IntKind.i64.wrap (Zj (p.mems.take k)+e.n)=Zj (p.mems.take (k+1)):=by
   rw[UZ he,Int.max_eq_left hen.1,Int.min_eq_left hen.2]
   exact YX (by omega) (by omega)
  simp only[eG,go_sem,Z2 S,Z1 S,zN0,zN1,zN2,zN3,zN4,zI0,zI1,zI2,zI3,reduceCtorEq,P4 S,show(k:Int)<p.mems.length by omega,Zv he,wi k (by omega),hw]
  rw[<-hK,Z7 (on S _ _ [1,3,4] (by decide) rfl) rfl _ _ _ _ _ _ _ _ _ rfl]
  simp only[eG,go_sem,Z2 S,Z1 S,zN0,zN1,zN2,zN3,zN4,zI0,zI1,zI2,zI3,reduceCtorEq,P4 S]
  exact ih (k+1) f (by omega) (by omega)
theorem Zf7 (dp:Nat)(p:Prog)(hl:p.mems.length<1073741824)(hr:∀ m ∈ p.mems,0<=m.n/\m.n<=16):Z6 E fn (dp+1) 52 [ZD p] (vi (Zj p.mems)):=by
 unfold Z6
 show Zw (Z5 E fn (dp+1) 52 [.d (ZD p)] [])=_
 rw[ZU,S.Z7a,ZW,Zbi,ZY _ _ _ _ _ _ _ _ rfl]
 simp only[eG,go_sem,Z2 S,Z1 S,zN0,zN1,zN2,zN3,zN4,zI0,zI1,zI2,zI3,reduceCtorEq,P4 S]
 rw[Y2,Z7 (on S _ _ [1,3,4] (by decide) rfl) rfl _ _ _ _ _ _ _ _ _ rfl]
 simp only[eG,go_sem,Z2 S,Z1 S,zN0,zN1,zN2,zN3,zN4,zI0,zI1,zI2,zI3,reduceCtorEq,P4 S]
 have:=fun kx kr=>Zix S dp p hl hr kx kr p.mems.length 0 999999999999999999999999999999 (by omega) (by omega)
 simp only[go_sem,List.take_zero,Int.cast_ofNat_Int,show Zj ([]:List MemT)=0 from rfl] at this
 rw[this]
 simp only[eG,go_sem,Z2 S,Z1 S,zN0,zN1,zN2,zN3,zN4,zI0,zI1,zI2,zI3,reduceCtorEq,P4 S]
end
set_option maxRecDepth 200000
def DT (n:Int)(q:List Place):Prop:=∀ x ∈ q,(x.reg=true->0<=x.n/\x.n<4)/\(x.reg=false->0<=x.n/\x.n<n)
theorem DT.app {n:Int}{q:List Place}(h:DT n q){x:Place}(h1:x.reg=true->0<=x.n/\x.n<4)(h2:x.reg=false->0<=x.n/\x.n<n):DT n (q++[x]):=by
 intro y hy
 rcases List.mem_append.1 hy with hy | hy
 ·exact h y hy
 ·simp at hy;subst hy;exact⟨h1,h2⟩
def P2 (p:Prog):Nat->Nat->List Place->List Place
 | 0,_,q=>q
 | m+1,k,q=>P2 p m (k+1) (if Md.Av p.regs k=0 then q else q++[⟨true,(k:Int),decide (Md.Av p.regs k=2)⟩])
def P3 (s:Bool):Nat->Int->List Place->List Place
 | 0,_,q=>q
 | m+1,a,q=>P3 s m (a+1) (q++[⟨false,a,s⟩])
def RM:List MemT->Int->List Place->List Place
 | [],_,q=>q
 | e::l,a,q=>RM l (a+e.n) (P3 e.secret e.n.toNat a q)
def places (p:Prog):List Place:=RM p.mems 0 (P2 p 4 0 [])
theorem Zm2 (l:List MemT)(i:Nat):Zj (l.take i)<=Zj l:=by
 have h:Zj l=Zj (l.take i)+Zj (l.drop i):=by
  unfold Zj
  rw[<-List.sum_append,<-List.map_append,List.take_append_drop]
 have:=(Mk (l.drop i)).1
 omega
theorem PX {A:List Blk}{bytes j v:Nat}{out:List Place}{a b:Bool}{n:Int}(hA:A[j]? =some (.cells ((rC out).map .d) v false))(h1:(out.length+1)*bytes<=Z4)(h2:out.length+1<=Z4):
  J4 A 3 bytes (.sref j v 0 out.length 3 none) [.d (vb a),.d (vi n),.d (vb b)] 1=some (.turn j (.cells ((rC (out++[⟨a,n,b⟩])).map .d) (v+1) false) (.sref j (v+1) 0 (out.length+1) 3 none)):=
 PY (x:=(⟨a,n,b⟩:Place)) hA rfl (by decide) rfl h1 h2
theorem Pj (A:List Blk)(x y z:DV)(k:Option Nat):Eq A false 3 (.d (.lst [x,y,z] 1 k))=some ([.d x,.d y,.d z],1):=rfl
theorem Uq {α:Type}(o:List α)(x:α):(o++[x]).length≠0:=by simp
theorem CH {α:Type} [Cl α] {l:List α}(h:l.length=0)(i:Nat):QJ i l=.d (.lst [] 0 (some 0)):=by rw[List.length_eq_zero_iff.1 h];rfl
theorem CG {α:Type} [Cl α] {l:List α}(h:l.length=0):QH l=[]:=by rw[List.length_eq_zero_iff.1 h];rfl
variable {E:Env} {fn:FuncId->Option (Env->cT->cT)}
section
variable (S:Sur E fn)
include S
theorem J7:E.lives 27 1=none/\E.lives 27 15=none:=⟨off S 27 1 (by decide) rfl,off S 27 15 (by decide) rfl⟩
theorem Zgy (dp:Nat)(N:Int)(p:Prog)(kx:Nat->K)(P:Option DV->Prop)(Q:List Place)
  (hx:∀ T q,ZE .bot T 1=.ref 0 0 0->ZE .bot T 3=QJ 1 (q:List Place)->DT N q->q.length<=4->q=Q->P (Zw (kx 0 (mk .bot 58 T) ([.cells ((ZX p).map .d) 0 false]++QH q)))):
  ∀(m k f:Nat) (q:List Place),k+m=4->m<=f->DT N q->q.length<=k->P2 p m k q=Q->
  P (Zw (K6 (Zq E 27) (Z5 E fn dp) (Z9 8 K6 (Zq E 27) (Z5 E fn dp) kx (Y0 0 [.tmp 2]) f) kx (Y0 0 [.tmp 2]) (mk .bot 58 [(1,.ref 0 0 0),(3,QJ 1 q),(4,aI k)]) ([.cells ((ZX p).map .d) 0 false]++QH q))):=by
 intro m
 induction m with
 | zero=>
  intro k f q hk _ hq hl hQ
  obtain rfl:k=4:=by omega
  generalize Z9 8 K6 _ _ kx _ f=KK
  first | (conv=>lhs;rw[K6]) | rw[K6]
  by_cases h0:q.length=0
  ·rw [CH h0, CG h0]
   have:=fun T a b=>hx T q a (by rw[CH h0];exact b) hq (by omega) hQ
   rw[CG h0] at this
   simp only[eG,go_sem,Z2 S,Z1 S,zN0,zN1,zN2,zN3,zN4,zI0,zI1,zI2,zI3,reduceCtorEq,J7 S,Int.cast_ofNat_Int]
   exact this _ rfl rfl
  ·rw [Zz h0, Zx h0]
   have:=fun T a b=>hx T q a (by rw[Zz h0];exact b) hq (by omega) hQ
   rw[Zx h0] at this
   simp only[eG,go_sem,Z2 S,Z1 S,zN0,zN1,zN2,zN3,zN4,zI0,zI1,zI2,zI3,reduceCtorEq,J7 S,Int.cast_ofNat_Int]
   exact this _ rfl rfl
 | succ m ih=>
  intro k f q hk hf hq hl hQ
  obtain⟨f,rfl⟩:∃ g,f=g+1:=⟨f-1,by omega⟩
  generalize hK:Z9 8 K6 _ _ kx _ (f+1)=KK
  first | (conv=>lhs;rw[K6]) | rw[K6]
  have lim:Z4=1099511627776:=rfl
  have k1:(q.length+1)*24<=Z4:=by omega
  have k2:q.length+1<=Z4:=by omega
  have skip:=fun(h:Md.Av p.regs k=0)=>ih (k+1) f q (by omega) (by omega) hq (by omega) (by rw[<-hQ,P2,if_pos h])
  have put:=fun(h:¬Md.Av p.regs k=0)=>ih (k+1) f (q++[⟨true,(k:Int),decide (Md.Av p.regs k=2)⟩]) (by omega) (by omega) (hq.app (fun _=>by constructor<;>(show _;simp only;omega)) (fun h=>by cases h)) (by simp;omega) (by rw[<-hQ,P2,if_neg h])
  simp only[Zz (Uq _ _),Zx (Uq _ _),List.length_append,List.length_singleton] at put
  have hk4:k=0∨k=1∨k=2∨k=3:=by omega
  have hk5:(k:Int)<4:=by omega
  have hld:BD false 1 ([AV.d (vi p.w),AV.d (vi p.window),AV.d (vi p.fuel),AV.d (vi p.regs.r0),AV.d (vi p.regs.r1),AV.d (vi p.regs.r2),AV.d (vi p.regs.r3),AV.d (rD p.mems),AV.d (rD p.labels),AV.d (rD p.ins)].drop (3+k*1))=some (.d (vi (Md.Av p.regs k))):=by
   rcases hk4 with rfl | rfl | rfl | rfl<;>rfl
  clear hQ
  generalize Md.Av p.regs k=r at hld skip put
  by_cases h0:q.length=0
  ·have hq0 : q = [] := List.length_eq_zero_iff.1 h0
   subst hq0
   simp only[ZC,ZB,List.append_nil] at skip ⊢
   by_cases hr:r=0
   ·simp only [eG, go_sem, Z2 S, Z1 S, zN0, zN1, zN2, zN3, zN4, zI0, zI1, zI2, zI3, reduceCtorEq, J7 S, ZG, ZH, ZJ, ZK, Z8, Pj, PX, Option.map_some, Nat.zero_add, Nat.one_mul, Nat.zero_mul, and_self, true_and, and_true, show (0 : Nat) < 1 by decide, show (1 : Nat) * 24 <= Z4 by decide, show (24 : Nat) <= Z4 by decide, show (1 : Nat) <= Z4 by decide, Int.cast_ofNat_Int, Int.reduceToNat, Int.toNat_zero, Int.reduceMul, hld, eq_true hr, hk5, Int.natCast_nonneg, Int.toNat_natCast, wi k (by omega)]
    rw[<-hK,Z7 (on S _ _ [1,3,4] (by decide) rfl) rfl _ _ _ _ _ _ _ _ _ rfl]
    simp only[eG,go_sem,Z2 S,Z1 S,zN0,zN1,zN2,zN3,zN4,zI0,zI1,zI2,zI3,reduceCtorEq,J7 S]
    exact skip hr
   ·simp only [eG, go_sem, Z2 S, Z1 S, zN0, zN1, zN2, zN3, zN4, zI0, zI1, zI2, zI3, reduceCtorEq, J7 S, ZG, ZH, ZJ, ZK, Z8, Pj, PX, Option.map_some, Nat.zero_add, Nat.one_mul, Nat.zero_mul, and_self, true_and, and_true, show (0 : Nat) < 1 by decide, show (1 : Nat) * 24 <= Z4 by decide, show (24 : Nat) <= Z4 by decide, show (1 : Nat) <= Z4 by decide, Int.cast_ofNat_Int, Int.reduceToNat, Int.toNat_zero, Int.reduceMul, hld, hr, hk5, Int.natCast_nonneg, Int.toNat_natCast, wi k (by omega)]
    rw[<-hK,Z7 (on S _ _ [1,3,4] (by decide) rfl) rfl _ _ _ _ _ _ _ _ _ rfl]
    simp only[eG,go_sem,Z2 S,Z1 S,zN0,zN1,zN2,zN3,zN4,zI0,zI1,zI2,zI3,reduceCtorEq,J7 S]
    exact put hr
  ·simp only [Zz h0, Zx h0] at skip ⊢
   by_cases hr:r=0
   ·simp only [eG, go_sem, Z2 S, Z1 S, zN0, zN1, zN2, zN3, zN4, zI0, zI1, zI2, zI3, reduceCtorEq, J7 S, ZG, ZH, ZJ, ZK, Z8, Pj, PX, Option.map_some, Nat.zero_add, Nat.one_mul, Nat.zero_mul, and_self, true_and, and_true, show (0 : Nat) < 1 by decide, show (1 : Nat) * 24 <= Z4 by decide, show (24 : Nat) <= Z4 by decide, show (1 : Nat) <= Z4 by decide, Int.cast_ofNat_Int, Int.reduceToNat, Int.toNat_zero, Int.reduceMul, hld, eq_true hr, hk5, Int.natCast_nonneg, Int.toNat_natCast, wi k (by omega)]
    rw[<-hK,Z7 (on S _ _ [1,3,4] (by decide) rfl) rfl _ _ _ _ _ _ _ _ _ rfl]
    simp only[eG,go_sem,Z2 S,Z1 S,zN0,zN1,zN2,zN3,zN4,zI0,zI1,zI2,zI3,reduceCtorEq,J7 S]
    exact skip hr
   ·simp only [eG, go_sem, Z2 S, Z1 S, zN0, zN1, zN2, zN3, zN4, zI0, zI1, zI2, zI3, reduceCtorEq, J7 S, ZG, ZH, ZJ, ZK, Z8, Pj, PX, Option.map_some, Nat.zero_add, Nat.one_mul, Nat.zero_mul, and_self, true_and, and_true, show (0 : Nat) < 1 by decide, show (1 : Nat) * 24 <= Z4 by decide, show (24 : Nat) <= Z4 by decide, show (1 : Nat) <= Z4 by decide, Int.cast_ofNat_Int, Int.reduceToNat, Int.toNat_zero, Int.reduceMul, hld, hr, hk5, Int.natCast_nonneg, Int.toNat_natCast, wi k (by omega), k1, k2]
    rw[<-hK,Z7 (on S _ _ [1,3,4] (by decide) rfl) rfl _ _ _ _ _ _ _ _ _ rfl]
    simp only[eG,go_sem,Z2 S,Z1 S,zN0,zN1,zN2,zN3,zN4,zI0,zI1,zI2,zI3,reduceCtorEq,J7 S]
    exact put hr
theorem Zgw (dp:Nat)(p:Prog)(hms:∀ m ∈ p.mems,0<=m.n/\m.n<=16)(hml:p.mems.length<1000)(i:Nat)(e:MemT)(he:p.mems[i]? =some e)(kx:Nat->K)(P:Option DV->Prop)(Q:List Place)
  (hx:∀ T q,ZE .bot T 1=.ref 0 0 0->ZE .bot T 3=QJ 1 (q:List Place)->ZE .bot T 5=aI (Zj (p.mems.take (i+1)))->ZE .bot T 6=aI i->DT (Zj p.mems) q->(q.length:Int)<=4+Zj (p.mems.take (i+1))->q=Q->P (Zw (kx 4 (mk .bot 58 T) ([.cells ((ZX p).map .d) 0 false]++QH q)))):
  ∀(m k f:Nat) (q:List Place),((k+m:Nat):Int)=e.n->m<=f->DT (Zj p.mems) q->(q.length:Int)<=4+Zj (p.mems.take i)+k->P3 e.secret m (Zj (p.mems.take i)+k) q=Q->
  P (Zw (K8 (Zq E 27) (Z5 E fn dp) (Z9 26 K8 (Zq E 27) (Z5 E fn dp) kx (Y0 0 [.tmp 2]) f) kx (Y0 0 [.tmp 2]) (mk .bot 58 [(1,.ref 0 0 0),(3,QJ 1 q),(5,aI (Zj (p.mems.take i)+k)),(6,aI i),(7,aI k)]) ([.cells ((ZX p).map .d) 0 false]++QH q))):=by
 have hen:=hms e (List.mem_of_getElem? he)
 have hS:Zj (p.mems.take (i+1))=Zj (p.mems.take i)+e.n:=by rw[UZ he,Int.max_eq_left hen.1,Int.min_eq_left hen.2]
 have hS0:=Mk (p.mems.take i)
 have hSl:(p.mems.take i).length<=p.mems.length:=by simp;omega
 have hSm:=Zm2 p.mems (i+1)
 have lim:Z4=1099511627776:=rfl
 intro m
 induction m with
 | zero=>
  intro k f q hk _ hq hl hQ
  have hkn:¬(k:Int)<e.n:=by omega
  have hat:Zj (p.mems.take i)+(k:Int)=Zj (p.mems.take (i+1)):=by omega
  rw[hat]
  generalize Z9 26 K8 _ _ kx _ f=KK
  first | (conv=>lhs;rw[K8]) | rw[K8]
  by_cases h0:q.length=0
  ·have := fun T a b c d => hx T q a (by rw [CH h0]; exact b) c d hq (by omega) hQ
   rw[CG h0] at this
   rw[CH h0,CG h0]
   simp only[eG,go_sem,Z2 S,Z1 S,zN0,zN1,zN2,zN3,zN4,zI0,zI1,zI2,zI3,reduceCtorEq,J7 S,Zv he,hkn]
   exact this _ rfl rfl rfl rfl
  ·have := fun T a b c d => hx T q a (by rw [Zz h0]; exact b) c d hq (by omega) hQ
   rw[Zx h0] at this
   rw[Zz h0,Zx h0]
   simp only[eG,go_sem,Z2 S,Z1 S,zN0,zN1,zN2,zN3,zN4,zI0,zI1,zI2,zI3,reduceCtorEq,J7 S,Zv he,hkn]
   exact this _ rfl rfl rfl rfl
 | succ m ih=>
  intro k f q hk hf hq hl hQ
  obtain⟨f,rfl⟩:∃ g,f=g+1:=⟨f-1,by omega⟩
  have hkn:(k:Int)<e.n:=by omega
  generalize hK:Z9 26 K8 _ _ kx _ (f+1)=KK
  first | (conv=>lhs;rw[K8]) | rw[K8]
  have k1:(q.length+1)*24<=Z4:=by omega
  have k2:q.length+1<=Z4:=by omega
  have wat:IntKind.i64.wrap (Zj (p.mems.take i)+(k:Int)+1)=Zj (p.mems.take i)+((k+1:Nat):Int):=by rw[YX (by omega) (by omega)];omega
  have put:=ih (k+1) f (q++[⟨false,Zj (p.mems.take i)+(k:Int),e.secret⟩]) (by omega) (by omega) (hq.app (fun h=>by cases h) (fun _=>by constructor<;>(show _;simp only;omega))) (by simp;omega) (by rw[<-hQ,P3];congr 1;omega)
  simp only[Zz (Uq _ _),Zx (Uq _ _)] at put
  rw[List.length_append,List.length_singleton] at put
  by_cases h0:q.length=0
  ·have hq0 : q = [] := List.length_eq_zero_iff.1 h0
   subst hq0
   rw[ZC,ZB,List.append_nil]
   simp only[eG,go_sem,Z2 S,Z1 S,zN0,zN1,zN2,zN3,zN4,zI0,zI1,zI2,zI3,reduceCtorEq,J7 S,ZG,ZH,ZJ,ZK,Z8,Pj,PX,Option.map_some,Nat.zero_add,Nat.one_mul,Nat.zero_mul,and_self,true_and,and_true,show(0:Nat)<1 by decide,show(1:Nat)*24<=Z4 by decide,show(24:Nat)<=Z4 by decide,show(1:Nat)<=Z4 by decide,Int.cast_ofNat_Int,Int.reduceToNat,Int.toNat_zero,Int.reduceMul,Zv he,hkn,wi k (by omega),wat]
   rw[<-hK,Z7 (on S _ _ [1,3,5,6,7] (by decide) rfl) rfl _ _ _ _ _ _ _ _ _ rfl]
   simp only[eG,go_sem,Z2 S,Z1 S,zN0,zN1,zN2,zN3,zN4,zI0,zI1,zI2,zI3,reduceCtorEq,J7 S]
   exact put
  ·rw [Zz h0, Zx h0]
   simp only[eG,go_sem,Z2 S,Z1 S,zN0,zN1,zN2,zN3,zN4,zI0,zI1,zI2,zI3,reduceCtorEq,J7 S,ZG,ZH,ZJ,ZK,Z8,Pj,PX,Option.map_some,Nat.zero_add,Nat.one_mul,Nat.zero_mul,and_self,true_and,and_true,show(0:Nat)<1 by decide,show(1:Nat)*24<=Z4 by decide,show(24:Nat)<=Z4 by decide,show(1:Nat)<=Z4 by decide,Int.cast_ofNat_Int,Int.reduceToNat,Int.toNat_zero,Int.reduceMul,Zv he,hkn,wi k (by omega),wat,k1,k2]
   rw[<-hK,Z7 (on S _ _ [1,3,5,6,7] (by decide) rfl) rfl _ _ _ _ _ _ _ _ _ rfl]
   simp only[eG,go_sem,Z2 S,Z1 S,zN0,zN1,zN2,zN3,zN4,zI0,zI1,zI2,zI3,reduceCtorEq,J7 S]
   exact put
theorem Zgx (dp:Nat)(p:Prog)(hms:∀ m ∈ p.mems,0<=m.n/\m.n<=16)(hml:p.mems.length<1000)(kx:Nat->K)(P:Option DV->Prop)(Q:List Place)
  (hx:∀ T q,ZE .bot T 3=QJ 1 (q:List Place)->DT (Zj p.mems) q->q.length<=20000->q=Q->P (Zw (kx 2 (mk .bot 58 T) ([.cells ((ZX p).map .d) 0 false]++QH q)))):
  ∀(m i f:Nat) (q:List Place),i+m=p.mems.length->m<=f->DT (Zj p.mems) q->(q.length:Int)<=4+Zj (p.mems.take i)->RM (p.mems.drop i) (Zj (p.mems.take i)) q=Q->
  P (Zw (K9 (Zq E 27) (Z5 E fn dp) (Z9 20 K9 (Zq E 27) (Z5 E fn dp) kx (Y0 0 [.tmp 2]) f) kx (Y0 0 [.tmp 2]) (mk .bot 58 [(1,.ref 0 0 0),(3,QJ 1 q),(5,aI (Zj (p.mems.take i))),(6,aI i)]) ([.cells ((ZX p).map .d) 0 false]++QH q))):=by
 intro m
 induction m with
 | zero=>
  intro i f q hk _ hq hl hQ
  rw[List.drop_of_length_le (by omega)] at hQ
  have hb:=Mk (p.mems.take i)
  have hbl:(p.mems.take i).length<=p.mems.length:=by simp;omega
  have hin:¬(i:Int)<p.mems.length:=by omega
  generalize Z9 20 K9 _ _ kx _ f=KK
  first | (conv=>lhs;rw[K9]) | rw[K9]
  by_cases h0:q.length=0
  ·have := fun T b => hx T q (by rw [CH h0]; exact b) hq (by omega) hQ
   rw[CG h0] at this
   rw[CH h0,CG h0]
   simp only[eG,go_sem,Z2 S,Z1 S,zN0,zN1,zN2,zN3,zN4,zI0,zI1,zI2,zI3,reduceCtorEq,J7 S,hin]
   exact this _ rfl
  ·have := fun T b => hx T q (by rw [Zz h0]; exact b) hq (by omega) hQ
   rw[Zx h0] at this
   rw[Zz h0,Zx h0]
   simp only[eG,go_sem,Z2 S,Z1 S,zN0,zN1,zN2,zN3,zN4,zI0,zI1,zI2,zI3,reduceCtorEq,J7 S,hin]
   exact this _ rfl
 | succ m ih=>
  intro i f q hk hf hq hl hQ
  obtain⟨e,he⟩:=QB (show i<p.mems.length by omega)
  obtain⟨f,rfl⟩:∃ g,f=g+1:=⟨f-1,by omega⟩
  have hin:(i:Int)<p.mems.length:=by omega
  have hen:=hms e (List.mem_of_getElem? he)
  generalize hK:Z9 20 K9 _ _ kx _ (f+1)=KK
  first | (conv=>lhs;rw[K9]) | rw[K9]
  have hS:Zj (p.mems.take (i+1))=Zj (p.mems.take i)+e.n:=by rw[UZ he,Int.max_eq_left hen.1,Int.min_eq_left hen.2]
  have hQ':RM (p.mems.drop (i+1)) (Zj (p.mems.take (i+1))) (P3 e.secret e.n.toNat (Zj (p.mems.take i)) q)=Q:=by rw[<-hQ,BK he,RM,hS]
  have inner:=fun(kx':Nat->K) hx'=>Zgw S dp p hms hml i e he kx' P (P3 e.secret e.n.toNat (Zj (p.mems.take i)) q) hx' e.n.toNat 0 999999999999999999999999999999 q (by omega) (by omega) hq (by omega) (by simp)
  by_cases h0:q.length=0
  ·rw [CH h0, CG h0]
   simp only[CH h0,CG h0,Int.cast_ofNat_Int,Int.add_zero] at inner
   simp only[eG,go_sem,Z2 S,Z1 S,zN0,zN1,zN2,zN3,zN4,zI0,zI1,zI2,zI3,reduceCtorEq,J7 S,hin]
   rw[Y2,Z7 (on S _ _ [1,3,5,6,7] (by decide) rfl) rfl _ _ _ _ _ _ _ _ _ rfl]
   simp only[eG,go_sem,Z2 S,Z1 S,zN0,zN1,zN2,zN3,zN4,zI0,zI1,zI2,zI3,reduceCtorEq,J7 S]
   refine inner _ ?_
   intro T q' t1 t3 t5 t6 hq' hl' hQq
   have next:=ih (i+1) f q' (by omega) (by omega) hq' hl' (by rw[hQq];exact hQ')
   by_cases h1:q'.length=0
   ·rw [CH h1] at t3
    rw[CG h1]
    rw[CH h1,CG h1] at next
    simp only[eG,go_sem,Z2 S,Z1 S,zN0,zN1,zN2,zN3,zN4,zI0,zI1,zI2,zI3,reduceCtorEq,J7 S,t1,t3,t5,t6,wi i (by omega)]
    rw[<-hK,Z7 (on S _ _ [1,3,5,6] (by decide) rfl) rfl _ _ _ _ _ _ _ _ _ rfl]
    simp only[eG,go_sem,Z2 S,Z1 S,zN0,zN1,zN2,zN3,zN4,zI0,zI1,zI2,zI3,reduceCtorEq,J7 S,t1,t3,t5,t6]
    exact next
   ·rw [Zz h1] at t3
    rw[Zx h1]
    rw[Zz h1,Zx h1] at next
    simp only[eG,go_sem,Z2 S,Z1 S,zN0,zN1,zN2,zN3,zN4,zI0,zI1,zI2,zI3,reduceCtorEq,J7 S,t1,t3,t5,t6,wi i (by omega)]
    rw[<-hK,Z7 (on S _ _ [1,3,5,6] (by decide) rfl) rfl _ _ _ _ _ _ _ _ _ rfl]
    simp only[eG,go_sem,Z2 S,Z1 S,zN0,zN1,zN2,zN3,zN4,zI0,zI1,zI2,zI3,reduceCtorEq,J7 S,t1,t3,t5,t6]
    exact next
  ·rw [Zz h0, Zx h0]
   simp only[Zz h0,Zx h0,Int.cast_ofNat_Int,Int.add_zero] at inner
   simp only[eG,go_sem,Z2 S,Z1 S,zN0,zN1,zN2,zN3,zN4,zI0,zI1,zI2,zI3,reduceCtorEq,J7 S,hin]
   rw[Y2,Z7 (on S _ _ [1,3,5,6,7] (by decide) rfl) rfl _ _ _ _ _ _ _ _ _ rfl]
   simp only[eG,go_sem,Z2 S,Z1 S,zN0,zN1,zN2,zN3,zN4,zI0,zI1,zI2,zI3,reduceCtorEq,J7 S]
   refine inner _ ?_
   intro T q' t1 t3 t5 t6 hq' hl' hQq
   have next:=ih (i+1) f q' (by omega) (by omega) hq' hl' (by rw[hQq];exact hQ')
   by_cases h1:q'.length=0
   ·rw [CH h1] at t3
    rw[CG h1]
    rw[CH h1,CG h1] at next
    simp only[eG,go_sem,Z2 S,Z1 S,zN0,zN1,zN2,zN3,zN4,zI0,zI1,zI2,zI3,reduceCtorEq,J7 S,t1,t3,t5,t6,wi i (by omega)]
    rw[<-hK,Z7 (on S _ _ [1,3,5,6] (by decide) rfl) rfl _ _ _ _ _ _ _ _ _ rfl]
    simp only[eG,go_sem,Z2 S,Z1 S,zN0,zN1,zN2,zN3,zN4,zI0,zI1,zI2,zI3,reduceCtorEq,J7 S,t1,t3,t5,t6]
    exact next
   ·rw [Zz h1] at t3
    rw[Zx h1]
    rw[Zz h1,Zx h1] at next
    simp only[eG,go_sem,Z2 S,Z1 S,zN0,zN1,zN2,zN3,zN4,zI0,zI1,zI2,zI3,reduceCtorEq,J7 S,t1,t3,t5,t6,wi i (by omega)]
    rw[<-hK,Z7 (on S _ _ [1,3,5,6] (by decide) rfl) rfl _ _ _ _ _ _ _ _ _ rfl]
    simp only[eG,go_sem,Z2 S,Z1 S,zN0,zN1,zN2,zN3,zN4,zI0,zI1,zI2,zI3,reduceCtorEq,J7 S,t1,t3,t5,t6]
    exact next
end
theorem Zdp (n:Nat):rep [zi] n=(rC (List.replicate n (0:Int))).map .d:=by
 induction n with
 | zero=>rfl
 | succ n ih=>show zi::rep [zi] n=_;rw[ih];rfl
theorem Z4a (n nb:Nat)(h:n<=100000):UA [zi] 1 8 nb (aI n) (aI n)=some (.made (.sref nb 0 0 n 1 (some n)) [.cells ((rC (List.replicate n (0:Int))).map .d) 0 false]):=by
 have lim:Z4=1099511627776:=rfl
 show(if(0:Int)<=n/\(n:Int)<=n/\8*(n:Int)<=Z4/\(n:Int)<=Z4 then some (Done.made (.sref nb 0 0 (n:Int).toNat 1 (some (n:Int).toNat)) [.cells (rep [zi] (n:Int).toNat) 0 false]) else none)=_
 rw[if_pos (by omega),Int.toNat_natCast,Zdp]
theorem Z3v (E:Env)(call:cT)(tm:List AV)(A:List Blk)(nb:Nat)(z:List AV)(s bytes:Nat)(l c:Opd):MY z s bytes l c E call tm A nb=UA z s bytes nb (look tm l) (look tm c):=id rfl
structure SOk (N:Int) (s:State):Prop where
 mem:(s.mem.length:Int)=N
 mv:∀ x ∈ s.mem,0<=x
 rg:0<=s.regs.r0/\0<=s.regs.r1/\0<=s.regs.r2/\0<=s.regs.r3
 stk:s.stack=[]
 pc:s.pc=0
variable {E:Env} {fn:FuncId->Option (Env->cT->cT)}
section
variable (S:Sur E fn)
include S
theorem Gv:E.lives 27 1=none/\E.lives 27 15=none:=⟨off S 27 1 (by decide) rfl,off S 27 15 (by decide) rfl⟩
theorem HG:E.lives 28 1=none/\E.lives 28 9=none/\E.lives 28 23=none:=⟨off S 28 1 (by decide) rfl,off S 28 9 (by decide) rfl,off S 28 23 (by decide) rfl⟩
theorem Z2j (dp:Nat)(p:Prog)(hms:∀ m ∈ p.mems,0<=m.n/\m.n<=16)(hml:p.mems.length<1000):Z6 E fn (dp+1) 27 [ZD p] (rD (places p))/\DT (Zj p.mems) (places p)/\(places p).length<=20000:=by
 obtain⟨P,hP⟩:∃ P:Option DV->Prop,P=fun o=>o=some (rD (places p))/\DT (Zj p.mems) (places p)/\(places p).length<=20000:=⟨_,rfl⟩
 have fin:∀ q:List Place,DT (Zj p.mems) q->q.length<=20000->q=places p->P (some (rD q)):=fun q h1 h2 h3=>by subst h3;rw[hP];exact⟨rfl,h1,h2⟩
 have key:P (Zw (Z5 E fn (dp+1) 27 [.d (ZD p)] [])):=by
  clear hP
  rw[ZU,S.Z78,ZW,Zbg,ZY _ _ _ _ _ _ _ _ rfl]
  simp only[eG,go_sem,Z2 S,Z1 S,zN0,zN1,zN2,zN3,zN4,zI0,zI1,zI2,zI3,reduceCtorEq,Gv S]
  rw[Y2,Z7 (on S _ _ [1,3,4] (by decide) rfl) rfl _ _ _ _ _ _ _ _ _ rfl]
  simp only[eG,go_sem,Z2 S,Z1 S,zN0,zN1,zN2,zN3,zN4,zI0,zI1,zI2,zI3,reduceCtorEq,Gv S]
  refine Zgy S dp (Zj p.mems) p _ P (P2 p 4 0 []) ?_ 4 0 _ [] (by omega) (by omega) (by intro x hx;cases hx) (by simp) rfl
  intro T q t1 t3 hq hl hQ
  have next:=fun(kx:Nat->K) hx=>Zgx S dp p hms hml kx P (places p) hx p.mems.length 0 999999999999999999999999999999 q (by omega) (by omega) hq (by simp[Zj];omega) (by rw[hQ];rfl)
  have e0:Zj (p.mems.take 0)=0:=rfl
  rw[e0] at next
  by_cases h0:q.length=0
  ·rw [CH h0] at t3
   rw[CG h0]
   simp only[CH h0,CG h0] at next
   simp only[eG,go_sem,Z2 S,Z1 S,zN0,zN1,zN2,zN3,zN4,zI0,zI1,zI2,zI3,reduceCtorEq,Gv S,t1,t3]
   rw[Y2,Z7 (on S _ _ [1,3,5,6] (by decide) rfl) rfl _ _ _ _ _ _ _ _ _ rfl]
   simp only[eG,go_sem,Z2 S,Z1 S,zN0,zN1,zN2,zN3,zN4,zI0,zI1,zI2,zI3,reduceCtorEq,Gv S,t1,t3]
   refine next _ ?_
   intro T q' t3 hq' hl' hQ'
   by_cases h1:q'.length=0
   ·rw [CH h1] at t3
    rw[CG h1]
    simp only[eG,go_sem,Z2 S,Z1 S,zN0,zN1,zN2,zN3,zN4,zI0,zI1,zI2,zI3,reduceCtorEq,Gv S,t3]
    have e:q'=[]:=List.length_eq_zero_iff.1 h1
    subst e
    exact fin [] hq' hl' hQ'
   ·rw [Zz h1] at t3
    rw[Zx h1]
    have hne:q'≠[]:=fun e=>h1 (by rw[e];rfl)
    have hd:deep [.cells ((rC q').map .d) 0 false] 8 (.sref 0 0 0 q'.length 3 none)=some (.lst (rC q') q'.length none,[0]):=DK q' hne _ rfl 6 3 none rfl
    simp only[eG,go_sem,Z2 S,Z1 S,zN0,zN1,zN2,zN3,zN4,zI0,zI1,zI2,zI3,reduceCtorEq,Gv S,t3,hd]
    exact fin q' hq' hl' hQ'
  ·rw [Zz h0] at t3
   rw[Zx h0]
   simp only[Zz h0,Zx h0] at next
   simp only[eG,go_sem,Z2 S,Z1 S,zN0,zN1,zN2,zN3,zN4,zI0,zI1,zI2,zI3,reduceCtorEq,Gv S,t1,t3]
   rw[Y2,Z7 (on S _ _ [1,3,5,6] (by decide) rfl) rfl _ _ _ _ _ _ _ _ _ rfl]
   simp only[eG,go_sem,Z2 S,Z1 S,zN0,zN1,zN2,zN3,zN4,zI0,zI1,zI2,zI3,reduceCtorEq,Gv S,t1,t3]
   refine next _ ?_
   intro T q' t3 hq' hl' hQ'
   by_cases h1:q'.length=0
   ·rw [CH h1] at t3
    rw[CG h1]
    simp only[eG,go_sem,Z2 S,Z1 S,zN0,zN1,zN2,zN3,zN4,zI0,zI1,zI2,zI3,reduceCtorEq,Gv S,t3]
    have e:q'=[]:=List.length_eq_zero_iff.1 h1
    subst e
    exact fin [] hq' hl' hQ'
   ·rw [Zz h1] at t3
    rw[Zx h1]
    have hne:q'≠[]:=fun e=>h1 (by rw[e];rfl)
    have hd:deep [.cells ((rC q').map .d) 0 false] 8 (.sref 0 0 0 q'.length 3 none)=some (.lst (rC q') q'.length none,[0]):=DK q' hne _ rfl 6 3 none rfl
    simp only[eG,go_sem,Z2 S,Z1 S,zN0,zN1,zN2,zN3,zN4,zI0,zI1,zI2,zI3,reduceCtorEq,Gv S,t3,hd]
    exact fin q' hq' hl' hQ'
 rw[hP] at key
 exact key
def Rq:Blk:=.cells [zi,zi,zi,zi,zn,zn,zi] 0 false
def Rx (rg:Regs)(n:Nat):Blk:=.cells [.d (vi rg.r0),.d (vi rg.r1),.d (vi rg.r2),.d (vi rg.r3),.sref 3 0 0 n 1 (some n),zn,zi] 0 false
theorem Zcp (dp:Nat)(p:Prog)(q:List Place)(n:Nat)(hq:DT n q)(hql:q.length<=20000)(l:List Int)(hll:l.length=q.length)(kx:Nat->K)(P:Option DV->Prop)
  (hx:∀ T rg mem,ZE .bot T 4=.ref 1 0 0->ZE .bot T 7=.ref 2 0 0->(mem:List Int).length=n->(∀ x ∈ mem,0<=x)->(0<=rg.r0/\0<=rg.r1/\0<=rg.r2/\0<=rg.r3)->P (Zw (kx 0 (mk .bot 58 T) [.cells ((ZX p).map .d) 0 false,Rq,Rx rg n,.cells ((rC mem).map .d) 0 false]))):
  ∀(m k f:Nat) (rg:Regs) (mem:List Int),k+m=q.length->m<=f->mem.length=n->(∀ x ∈ mem,0<=x)->(0<=rg.r0/\0<=rg.r1/\0<=rg.r2/\0<=rg.r3)->
  P (Zw (Kk (Zq E 28) (Z5 E fn (dp+3)) (Z9 14 Kk (Zq E 28) (Z5 E fn (dp+3)) kx (Y0 0 [.cell 4 true 7,.tmp 5]) f) kx (Y0 0 [.cell 4 true 7,.tmp 5]) (mk .bot 58 [(1,.d (rD l)),(2,.ref 0 0 0),(4,.ref 1 0 0),(6,.d (rD q)),(7,.ref 2 0 0),(8,aI k)]) [.cells ((ZX p).map .d) 0 false,Rq,Rx rg n,.cells ((rC mem).map .d) 0 false])):=by
 intro m
 induction m with
 | zero=>
  intro k f rg mem hk _ hm hv hr
  have hkq:¬(k:Int)<q.length:=by omega
  generalize Z9 14 Kk _ _ kx _ f=KK
  first | (conv=>lhs;rw[Kk]) | rw[Kk]
  simp only[eG,go_sem,Z2 S,Z1 S,zN0,zN1,zN2,zN3,zN4,zI0,zI1,zI2,zI3,reduceCtorEq,HG S,hkq]
  exact hx _ rg mem rfl rfl hm hv hr
 | succ m ih=>
  intro k f rg mem hk hf hm hv hr
  obtain⟨x,hxq⟩:=QB (show k<q.length by omega)
  obtain⟨y,hyl⟩:=QB (show k<l.length by omega)
  obtain⟨f,rfl⟩:∃ g,f=g+1:=⟨f-1,by omega⟩
  have hkq:(k:Int)<q.length:=by omega
  have hx1:=hq x (List.mem_of_getElem? hxq)
  have hy0:=Md.Px p.w y
  have next:=fun rg' mem' h1 h2 h3=>ih (k+1) f rg' mem' (by omega) (by omega) h1 h2 h3
  generalize hK:Z9 14 Kk _ _ kx _ (f+1)=KK
  first | (conv=>lhs;rw[Kk]) | rw[Kk]
  unfold Rq Rx
  unfold Rq Rx at next
  cases hreg:x.reg with
  | true=>
   obtain⟨a0,a1⟩:=hx1.1 hreg
   have hst:∀(A:List Blk) (v:Int) (m s q:AV),storeAt A 2 0 (x.n.toNat*1) [.d (vi v)] 1 (some (.cells [.d (vi rg.r0),.d (vi rg.r1),.d (vi rg.r2),.d (vi rg.r3),m,s,q] 0 false))=some (A.set 2 (.cells [.d (vi (Md.CW rg x.n v).r0),.d (vi (Md.CW rg x.n v).r1),.d (vi (Md.CW rg x.n v).r2),.d (vi (Md.CW rg x.n v).r3),m,s,q] 0 false)):=fun A v m s q=>by
    have d4:x.n=0∨x.n=1∨x.n=2∨x.n=3:=by omega
    rcases d4 with d | d | d | d<;>rw[d]<;>rfl
   simp only[eG,go_sem,Z2 S,Z1 S,zN0,zN1,zN2,zN3,zN4,zI0,zI1,zI2,zI3,reduceCtorEq,HG S,hkq,Zv hyl,Zv hxq,JQ S,hreg,a0,a1,hst,Int.cast_ofNat_Int,true_and,and_self,if_true,Nat.zero_add,wi k (by omega)]
   rw[<-hK,Z7 (on S _ _ [1,2,4,6,7,8] (by decide) rfl) rfl _ _ _ _ _ _ _ _ _ rfl]
   simp only[eG,go_sem,Z2 S,Z1 S,zN0,zN1,zN2,zN3,zN4,zI0,zI1,zI2,zI3,reduceCtorEq,HG S]
   exact next (Md.CW rg x.n (Md.Y4 p.w y)) mem hm hv (Md.Z2e hr x.n hy0)
  | false=>
   obtain⟨a0,a1⟩:=hx1.2 hreg
   have a2:x.n.toNat<mem.length:=by omega
   have hst:∀(A:List Blk) (j:Nat) (v:Int),storeAt A j 0 (x.n.toNat*1) [.d (vi v)] 1 (some (.cells ((rC mem).map .d) 0 false))=some (A.set j (.cells ((rC (mem.set x.n.toNat v)).map .d) 0 false)):=fun A j v=>
    MN (o:=0) (e':=v) [vi v] (List.getElem?_eq_getElem a2) rfl rfl rfl rfl (by show 0+1<=1;decide) 1 rfl _ rfl
   simp only[eG,go_sem,Z2 S,Z1 S,zN0,zN1,zN2,zN3,zN4,zI0,zI1,zI2,zI3,reduceCtorEq,HG S,hkq,Zv hyl,Zv hxq,JQ S,hreg,a0,a1,hst,Int.cast_ofNat_Int,true_and,and_self,if_true,Nat.zero_add,wi k (by omega)]
   rw[<-hK,Z7 (on S _ _ [1,2,4,6,7,8] (by decide) rfl) rfl _ _ _ _ _ _ _ _ _ rfl]
   simp only[eG,go_sem,Z2 S,Z1 S,zN0,zN1,zN2,zN3,zN4,zI0,zI1,zI2,zI3,reduceCtorEq,HG S]
   exact next rg (mem.set x.n.toNat (Md.Y4 p.w y)) (by rw[List.length_set];exact hm) (fun z hz=>by
    rcases List.mem_or_eq_of_mem_set hz with hz | rfl
    ·exact hv z hz
    ·exact hy0) hr
theorem Z2i (dp:Nat)(p:Prog)(hms:∀ m ∈ p.mems,0<=m.n/\m.n<=16)(hml:p.mems.length<1000)(q:List Place)(hsq:Z6 E fn (dp+3) 27 [ZD p] (rD q))(hq:DT (Zj p.mems) q)(hql:q.length<=20000)(l:List Int)(hll:l.length=q.length):
  ∃ s:State,Z6 E fn (dp+4) 28 [ZD p,rD l] (.tup [A4 s,vb true])/\SOk (Zj p.mems) s:=by
 have hcl:=Mk p.mems
 obtain⟨n,hn⟩:=Int.eq_ofNat_of_zero_le hcl.1
 have hn1:n<=100000:=by omega
 rw[hn] at hq ⊢
 obtain⟨P,hP⟩:∃ P:Option DV->Prop,P=fun o=>∃ s:State,o=some (.tup [A4 s,vb true])/\SOk n s:=⟨_,rfl⟩
 have fin:∀ s:State,SOk n s->P (some (.tup [A4 s,vb true])):=fun s h=>by rw[hP];exact⟨s,rfl,h⟩
 have cP:=fun(A:List Blk) (nb:Nat)=>Z6.deep hsq (np S 27 (by decide)) A nb
 simp only[ZD,ZX] at cP
 have hml':p.mems.length<1073741824:=by omega
 have cC:=fun(A:List Blk) (nb:Nat) (us:List Nat)=>Z6.flat (Zf7 S (dp+2) p hml' hms) (np S 52 (by decide)) rfl A nb us
 simp only[ZD,ZX,hn] at cC
 have key:P (Zw (Z5 E fn (dp+4) 28 [.d (ZD p),.d (rD l)] [])):=by
  clear hP
  show P (Zw (Z5 E fn (dp+3+1) 28 [.d (ZD p),.d (rD l)] []))
  rw[ZU,S.Z76,ZW,Zbe,ZY _ _ _ _ _ _ _ _ rfl]
  simp only[eG,go_sem,Z2 S,Z1 S,zN0,zN1,zN2,zN3,zN4,zI0,zI1,zI2,zI3,reduceCtorEq,HG S,cP,hll,cC,Z3v,Z4a n _ hn1,ne_eq,not_true_eq_false]
  rw[Y2,Z7 (on S _ _ [1,2,4,6,7,8] (by decide) rfl) rfl _ _ _ _ _ _ _ _ _ rfl]
  simp only[eG,go_sem,Z2 S,Z1 S,zN0,zN1,zN2,zN3,zN4,zI0,zI1,zI2,zI3,reduceCtorEq,HG S]
  refine Zcp S dp p q n hq hql l hll _ P ?_ q.length 0 _ ⟨0,0,0,0⟩ (List.replicate n 0) (by omega) (by omega) (by simp) (fun x hx=>by rw[List.eq_of_mem_replicate hx];exact Int.le_refl _) ⟨Int.le_refl _,Int.le_refl _,Int.le_refl _,Int.le_refl _⟩
  intro T rg mem t4 t7 hm hv hr
  unfold Rq Rx
  have hl1:n*1<=((rC mem).map AV.d).length:=by rw[List.length_map,QS,hm];exact Nat.le_refl _
  have ht1:∀(A:List Blk) (m:Nat),YJ (deep A (m+1)) (((rC mem).map AV.d).take (n*1))=some (rC mem,[]):=fun A m=>by
   rw[List.take_of_length_le (by rw[List.length_map,QS,hm];exact Nat.le_refl _),GC]
  by_cases n0:n=0
  ·have e : mem = [] := List.length_eq_zero_iff.1 (by omega)
   subst e
   simp only[eG,go_sem,Z2 S,Z1 S,zN0,zN1,zN2,zN3,zN4,zI0,zI1,zI2,zI3,reduceCtorEq,HG S,t4,t7,Q6,n0]
   exact fin ⟨rg,[],[],0⟩ ⟨by simp[n0],hv,hr,rfl,rfl⟩
  ·simp only [eG, go_sem, Z2 S, Z1 S, zN0, zN1, zN2, zN3, zN4, zI0, zI1, zI2, zI3, reduceCtorEq, HG S, t4, t7, Q6, n0, hl1, ht1, Option.bind_some, Option.map_some]
   have hf:DV.lst (rC mem) n none=rD mem:=by unfold rD;rw[hm]
   rw[hf]
   exact fin ⟨rg,mem,[],0⟩ ⟨by simp[hm],hv,hr,rfl,rfl⟩
 rw[hP] at key
 obtain⟨s,h1,h2⟩:=key
 exact⟨s,h1,h2⟩
end
theorem Z0a (ps:List (Opd×Opd))(k:K)(tm:List AV)(A:List Blk):GZ ps k tm A=bif C6 tm ps then k tm A else none:=id rfl
theorem Z08 (tm:List AV)(p:Opd×Opd)(l:List (Opd×Opd)):C6 tm (p::l)=(G8 (look tm p.1) (look tm p.2)&&C6 tm l):=id rfl
theorem Z09 (tm:List AV):C6 tm []=true:=id rfl
theorem Z07 (i v o j w q:Nat):G8 (.ref i v o) (.ref j w q)= !Nat.beq i j:=id rfl
theorem VK {l:List Int}{k:Nat}(h:k<l.length)(i v:Nat)(A:List Blk)(n:Int):storeAt A i v (k*1) [.d (vi n)] 1 (some (.cells ((rC l).map .d) v false))=some (A.set i (.cells ((rC (l.set k n)).map .d) v false)):=
 MN (o:=0) (e':=n) [vi n] (List.getElem?_eq_getElem h) rfl rfl rfl rfl (by show 0+1<=1;decide) 1 rfl _ rfl
variable {E:Env} {fn:FuncId->Option (Env->cT->cT)}
section
variable (S:Sur E fn)
include S
theorem DD:E.lives 9 1=none/\E.lives 9 17=none/\E.lives 9 21=none:=⟨off S 9 1 (by decide) rfl,off S 9 17 (by decide) rfl,off S 9 21 (by decide) rfl⟩
theorem Zj5 (dp:Nat)(p:Prog)(q:List Place)(hql:q.length<=20000)(l:List Int)(how:Int)(kx:Nat->K)(P:Option DV->Prop)
  (hx : ∀ T x y, ZE .bot T 3 = .ref 0 0 0 -> ZE .bot T 6 = .ref 1 0 0 -> ZE .bot T 7 = .ref 2 0 0 -> ZE .bot T 9 = .sref 3 0 0 q.length 1 (some q.length) -> ZE .bot T 10 = .sref 4 0 0 q.length 1 (some q.length) -> (x : List Int).length = q.length -> (y : List Int).length = q.length ->
   P (Zw (kx 0 (mk .bot 80 T) [.cells ((ZX p).map .d) 0 false,.cells [zi,zi,zi,zi,zn,zn,zi] 0 false,.cells [zi,zi,zi,zi,zn,zn,zi] 0 false,.cells ((rC x).map .d) 0 false,.cells ((rC y).map .d) 0 false]))):
  ∀(m k f:Nat) (x y:List Int),k+m=q.length->m<=f->x.length=q.length->y.length=q.length->
  P (Zw (Kq (Zq E 9) (Z5 E fn dp) (Z9 10 Kq (Zq E 9) (Z5 E fn dp) kx (Y0 0 [.cell 6 true 7,.cell 7 true 7]) f) kx (Y0 0 [.cell 6 true 7,.cell 7 true 7]) (mk .bot 80 [(1,.d (rD l)),(2,aI how),(3,.ref 0 0 0),(6,.ref 1 0 0),(7,.ref 2 0 0),(8,.d (rD q)),(9,.sref 3 0 0 q.length 1 (some q.length)),(10,.sref 4 0 0 q.length 1 (some q.length)),(25,aI q.length),(26,aI k)])
   [.cells ((ZX p).map .d) 0 false,.cells [zi,zi,zi,zi,zn,zn,zi] 0 false,.cells [zi,zi,zi,zi,zn,zn,zi] 0 false,.cells ((rC x).map .d) 0 false,.cells ((rC y).map .d) 0 false])):=by
 intro m
 induction m with
 | zero=>
  intro k f x y hk _ hxl hyl
  have hkq:¬(k:Int)<q.length:=by omega
  generalize Z9 10 Kq _ _ kx _ f=KK
  first | (conv=>lhs;rw[Kq]) | rw[Kq]
  simp only[eG,go_sem,Z2 S,Z1 S,zN0,zN1,zN2,zN3,zN4,zI0,zI1,zI2,zI3,reduceCtorEq,DD S,hkq]
  exact hx _ x y rfl rfl rfl rfl rfl hxl hyl
 | succ m ih=>
  intro k f x y hk hf hxl hyl
  obtain⟨z,hzq⟩:=QB (show k<q.length by omega)
  obtain⟨f,rfl⟩:∃ g,f=g+1:=⟨f-1,by omega⟩
  have hkq:(k:Int)<q.length:=by omega
  have hkx:k<x.length:=by omega
  have hky:k<y.length:=by omega
  have next:=fun x' y' h1 h2=>ih (k+1) f x' y' (by omega) (by omega) h1 h2
  generalize hK:Z9 10 Kq _ _ kx _ (f+1)=KK
  first | (conv=>lhs;rw[Kq]) | rw[Kq]
  by_cases hl:(k:Int)<l.length
  ·obtain ⟨v, hvl⟩ := QB (show k < l.length by omega)
   cases hsec:z.secret with
   | true=>
    simp only[eG,go_sem,Z2 S,Z1 S,zN0,zN1,zN2,zN3,zN4,zI0,zI1,zI2,zI3,reduceCtorEq,DD S,hkq,hl,Zv hvl,Zv hzq,hsec,VK,hkx,hky,List.length_set,Int.natCast_nonneg,Int.toNat_natCast,Int.ofNat_lt,Nat.zero_add,true_and,and_self,and_true,if_true,wi k (by omega)]
    rw[<-hK,Z7 (on S _ _ [1,2,3,6,7,8,9,10,25,26] (by decide) rfl) rfl _ _ _ _ _ _ _ _ _ rfl]
    simp only[eG,go_sem,Z2 S,Z1 S,zN0,zN1,zN2,zN3,zN4,zI0,zI1,zI2,zI3,reduceCtorEq,DD S]
    exact next _ _ (by rw[List.length_set];exact hxl) (by rw[List.length_set,List.length_set];exact hyl)
   | false=>
    by_cases h7:Md.YK how 7=0
    ·simp only [eG, go_sem, Z2 S, Z1 S, zN0, zN1, zN2, zN3, zN4, zI0, zI1, zI2, zI3, reduceCtorEq, DD S, hkq, hl, Zv hvl, Zv hzq, hsec, QE, h7, VK, hkx, hky, List.length_set, Int.natCast_nonneg, Int.toNat_natCast, Int.ofNat_lt, Nat.zero_add, true_and, and_self, and_true, if_true, wi k (by omega)]
     rw[<-hK,Z7 (on S _ _ [1,2,3,6,7,8,9,10,25,26] (by decide) rfl) rfl _ _ _ _ _ _ _ _ _ rfl]
     simp only[eG,go_sem,Z2 S,Z1 S,zN0,zN1,zN2,zN3,zN4,zI0,zI1,zI2,zI3,reduceCtorEq,DD S]
     exact next _ _ (by rw[List.length_set];exact hxl) (by rw[List.length_set,List.length_set];exact hyl)
    ·simp only [eG, go_sem, Z2 S, Z1 S, zN0, zN1, zN2, zN3, zN4, zI0, zI1, zI2, zI3, reduceCtorEq, DD S, hkq, hl, Zv hvl, Zv hzq, hsec, QE, h7, VK, hkx, hky, List.length_set, Int.natCast_nonneg, Int.toNat_natCast, Int.ofNat_lt, Nat.zero_add, true_and, and_self, and_true, if_true, wi k (by omega)]
     rw[<-hK,Z7 (on S _ _ [1,2,3,6,7,8,9,10,25,26] (by decide) rfl) rfl _ _ _ _ _ _ _ _ _ rfl]
     simp only[eG,go_sem,Z2 S,Z1 S,zN0,zN1,zN2,zN3,zN4,zI0,zI1,zI2,zI3,reduceCtorEq,DD S]
     exact next _ _ (by rw[List.length_set];exact hxl) (by rw[List.length_set];exact hyl)
  ·simp only [eG, go_sem, Z2 S, Z1 S, zN0, zN1, zN2, zN3, zN4, zI0, zI1, zI2, zI3, reduceCtorEq, DD S, hkq, hl, wi k (by omega)]
   rw[<-hK,Z7 (on S _ _ [1,2,3,6,7,8,9,10,25,26] (by decide) rfl) rfl _ _ _ _ _ _ _ _ _ rfl]
   simp only[eG,go_sem,Z2 S,Z1 S,zN0,zN1,zN2,zN3,zN4,zI0,zI1,zI2,zI3,reduceCtorEq,DD S]
   exact next x y hxl hyl
theorem Zdj (dp:Nat)(p:Prog)(hms:∀ m ∈ p.mems,0<=m.n/\m.n<=16)(hml:p.mems.length<1000)(l:List Int)(how:Int):
  ∃ s s':State,Z6 E fn (dp+5) 9 [ZD p,rD l,vi how] (.tup [A4 s,A4 s'])/\SOk (Zj p.mems) s/\SOk (Zj p.mems) s':=by
 obtain⟨hq,hqo,hql⟩:=Z2j S (dp+3) p hms hml
 obtain⟨hq',_,_⟩:=Z2j S (dp+2) p hms hml
 generalize hQ:places p=q at *
 obtain⟨P,hP⟩:∃ P:Option DV->Prop,P=fun o=>∃ s s':State,o=some (.tup [A4 s,A4 s'])/\SOk (Zj p.mems) s/\SOk (Zj p.mems) s':=⟨_,rfl⟩
 have fin:∀ s s':State,SOk (Zj p.mems) s->SOk (Zj p.mems) s'->P (some (.tup [A4 s,A4 s'])):=fun s s' h h'=>by rw[hP];exact⟨s,s',rfl,h,h'⟩
 have cP:=fun(A:List Blk) (nb:Nat)=>Z6.deep hq (np S 27 (by decide)) A nb
 simp only[ZD,ZX] at cP
 have key:P (Zw (Z5 E fn (dp+5) 9 [.d (ZD p),.d (rD l),aI how] [])):=by
  clear hP
  show P (Zw (Z5 E fn (dp+4+1) 9 [.d (ZD p),.d (rD l),aI how] []))
  rw[ZU,S.Z61,ZW,Za9,ZY _ _ _ _ _ _ _ _ rfl]
  have hmk:=fun nb=>Z4a q.length nb (show q.length<=100000 by omega)
  simp only[eG,go_sem,Z2 S,Z1 S,zN0,zN1,zN2,zN3,zN4,zI0,zI1,zI2,zI3,reduceCtorEq,DD S,cP,Z3v,hmk]
  rw[Y2,Z7 (on S _ _ [1,2,3,6,7,8,9,10,25,26] (by decide) rfl) rfl _ _ _ _ _ _ _ _ _ rfl]
  simp only[eG,go_sem,Z2 S,Z1 S,zN0,zN1,zN2,zN3,zN4,zI0,zI1,zI2,zI3,reduceCtorEq,DD S]
  refine Zj5 S (dp+4) p q hql l how _ P ?_ q.length 0 _ (List.replicate q.length 0) (List.replicate q.length 0) (by omega) (by omega) (by simp) (by simp)
  intro T x y t3 t6 t7 t9 t10 hxl hyl
  obtain⟨s1,h1,o1⟩:=Z2i S dp p hms hml q hq' hqo hql x hxl
  obtain⟨s2,h2,o2⟩:=Z2i S dp p hms hml q hq' hqo hql y hyl
  have hlx:q.length*1<=((rC x).map AV.d).length:=by rw[List.length_map,QS,hxl];exact Nat.le_refl _
  have hly:q.length*1<=((rC y).map AV.d).length:=by rw[List.length_map,QS,hyl];exact Nat.le_refl _
  have htx:∀(A:List Blk) (m:Nat),YJ (deep A (m+1)) (((rC x).map AV.d).take (q.length*1))=some (rC x,[]):=fun A m=>by
   rw[List.take_of_length_le (by rw[List.length_map,QS,hxl];exact Nat.le_refl _),GC]
  have hty:∀(A:List Blk) (m:Nat),YJ (deep A (m+1)) (((rC y).map AV.d).take (q.length*1))=some (rC y,[]):=fun A m=>by
   rw[List.take_of_length_le (by rw[List.length_map,QS,hyl];exact Nat.le_refl _),GC]
  have hfx:DV.lst (rC x) q.length none=rD x:=by unfold rD;rw[hxl]
  have hfy:DV.lst (rC y) q.length none=rD y:=by unfold rD;rw[hyl]
  have hb:=np S 28 (by decide)
  have done:P (some (.tup [A4 s1,A4 s2])):=fin s1 s2 o1 o2
  simp only[A4,R9] at done h1 h2
  by_cases n0:q.length=0
  ·have ex : x = [] := List.length_eq_zero_iff.1 (by omega)
   have ey:y=[]:=List.length_eq_zero_iff.1 (by omega)
   subst ex ey
   have c1:=fun(A:List Blk) (nb:Nat)=>Z6.deep h1 hb A nb
   have c2:=fun(A:List Blk) (nb:Nat)=>Z6.deep h2 hb A nb
   simp only[ZD,ZX,VP] at c1 c2
   have d1:P (some (.tup [A4 s1,A4 s1])):=fin s1 s1 o1 o1
   simp only[A4,R9] at d1
   simp only[eG,go_sem,Z2 S,Z1 S,zN0,zN1,zN2,zN3,zN4,zI0,zI1,zI2,zI3,reduceCtorEq,DD S,hfx,hfy,htx,hty,hlx,hly,Q6,Option.bind_some,Option.map_some,Z0a,Z08,Z09,Z07,show Nat.beq 1 6=false from rfl,Bool.not_false,t3,t6,t7,t9,t10,n0,c1,c2]
   exact d1
  ·by_cases N0 : Zj p.mems = 0
   ·have m1 : s1.mem = [] := List.length_eq_zero_iff.1 (by have := o1.mem; omega)
    have m2:s2.mem=[]:=List.length_eq_zero_iff.1 (by have:=o2.mem;omega)
    rw[m1,o1.stk] at h1 done
    rw[m2,o2.stk] at h2 done
    have c1:=fun(A:List Blk) (nb:Nat) (us:List Nat)=>Z6.flat h1 hb rfl A nb us
    have c2:=fun(A:List Blk) (nb:Nat) (us:List Nat)=>Z6.flat h2 hb rfl A nb us
    simp only[ZD,ZX] at c1 c2
    simp only[eG,go_sem,Z2 S,Z1 S,zN0,zN1,zN2,zN3,zN4,zI0,zI1,zI2,zI3,reduceCtorEq,DD S,hfx,hfy,htx,hty,hlx,hly,Q6,Option.bind_some,Option.map_some,Z0a,Z08,Z09,Z07,show Nat.beq 1 6=false from rfl,Bool.not_false,t3,t6,t7,t9,t10,n0,c1,c2]
    exact done
   ·have f1:DV.flat 8 (.tup [.agg [vi s1.regs.r0,vi s1.regs.r1,vi s1.regs.r2,vi s1.regs.r3,rD s1.mem,rD s1.stack,vi s1.pc],vb true])=false:=by
     cases hm:s1.mem with
     | nil=>have:=o1.mem;rw[hm] at this;exact absurd this.symm N0
     | cons a l=>rfl
    have f2:DV.flat 8 (.tup [.agg [vi s2.regs.r0,vi s2.regs.r1,vi s2.regs.r2,vi s2.regs.r3,rD s2.mem,rD s2.stack,vi s2.pc],vb true])=false:=by
     cases hm:s2.mem with
     | nil=>have:=o2.mem;rw[hm] at this;exact absurd this.symm N0
     | cons a l=>rfl
    have c1:=fun(A:List Blk) (nb i:Nat) (us:List Nat)=>Z6.used h1 hb f1 A nb i us
    have c2:=fun(A:List Blk) (nb i:Nat) (us:List Nat)=>Z6.used h2 hb f2 A nb i us
    simp only[ZD,ZX] at c1 c2
    simp only[eG,go_sem,Z2 S,Z1 S,zN0,zN1,zN2,zN3,zN4,zI0,zI1,zI2,zI3,reduceCtorEq,DD S,hfx,hfy,htx,hty,hlx,hly,Q6,Option.bind_some,Option.map_some,Z0a,Z08,Z09,Z07,show Nat.beq 1 6=false from rfl,Bool.not_false,t3,t6,t7,t9,t10,n0,c1,c2]
    exact done
 rw[hP] at key
 obtain⟨s,s',h1,h2,h3⟩:=key
 exact⟨s,s',h1,h2,h3⟩
end
theorem Zic (l:List Int):∀ m ∈ (Md.make l).mems,0<=m.n/\m.n<=16:=by
 intro m hm
 have hm:m ∈ Md.J3 l (Md.Zk l):=hm
 have h1:∀ m ∈ Md.Aw l (Md.Zk l),0<=m.n/\m.n<=16:=by
  intro m hm
  unfold Md.Aw at hm
  split at hm
  ·simp only [List.mem_singleton] at hm
   subst hm
   split<;>simp
  ·simp at hm
 unfold Md.J3 at hm
 split at hm
 ·rcases List.mem_append.1 hm with hm | hm
  ·exact h1 m hm
  ·simp only [List.mem_singleton] at hm
   subst hm;simp
 ·exact h1 m hm
theorem Zid (l:List Int):(Md.make l).mems.length<1000:=by
 show(Md.J3 l (Md.Zk l)).length<1000
 have h1:(Md.Aw l (Md.Zk l)).length<=1:=by unfold Md.Aw;split<;>simp
 unfold Md.J3
 split
 ·simp;omega
 ·omega
theorem Zie (l:List Int):(Md.make l).ins.length<1000:=by
 show((List.range (Md.nM l)).map _).length<1000
 obtain⟨r,h1,h2⟩:=Md.M0 (Md.ZR (Md.kM l 0) 12)
 rw[List.length_map,List.length_range]
 unfold Md.nM
 rw[h2,Int.toNat_natCast];omega
theorem Zib (l:List Int):Md.JB (Md.make l).w=true:=by
 obtain⟨r,h1,h2⟩:=Md.Z5j (Md.kM l 0)
 show Md.JB (Md.YK (Md.kM l 0) 1+1)=true
 rw[h2];exact Md.WP.2 ⟨by omega,by omega⟩
end Go.Aug.Mc
