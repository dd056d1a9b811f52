import Derived.Test.YthnhboimcidhgaaGreatDoorMc37
import Derived.Test.YthnhboimcidhgaaGreatDoorMc36
import Derived.Test.YthnhboimcidhgaaGreatDoorMl
import Derived.Test.YthnhboimcidhgaaGreatDoorMc3
namespace Go.Aug.Mc
open Go Go.Aug
open Nat renaming reduceLT -> zN0, reduceEqDiff -> zN1, reduceAdd -> zN2, reduceMul -> zN3, reduceLeDiff -> zN4
open Int renaming reduceEq -> zI0, reduceLT -> zI1, reduceLE -> zI2, reduceNeg -> zI3
set_option linter.unusedSimpArgs false
set_option linter.unusedVariables false
set_option maxHeartbeats 40000000
set_option maxRecDepth 200000
theorem Zif (n:Nat):rep [zi] n=(rC (List.replicate n (0:Int))).map .d:=by
 induction n with
 | zero=>rfl
 | succ n ih=>show zi::rep [zi] n=_;rw[ih];rfl
theorem Z6z (n nb:Nat)(h:n<=100000):Wx [zi] 1 8 nb (aI n) (aI n)=some (.made (.sref nb 0 0 n 1 (some n)) [.cells ((rC (List.replicate n (0:Int))).map .d) 0 false]):=by
 have lim:Z5=1099511627776:=rfl
 show(if(0:Int)<=n/\(n:Int)<=n/\8*(n:Int)<=Z5/\(n:Int)<=Z5 then some (Done.made (.sref nb 0 0 (n:Int).toNat 1 (some (n:Int).toNat)) [.cells (rep [zi] (n:Int).toNat) 0 false]) else none)=_
 rw[if_pos (by omega),Int.toNat_natCast,Zif]
theorem Z6j (E:Env)(call:cT)(tm:List AV)(A:List Blk)(nb:Nat)(z:List AV)(s bytes:Nat)(l c:Opd):P9 z s bytes l c E call tm A nb=Wx z s bytes nb (look tm l) (look tm c):=id rfl
structure SOk (N:Int) (s:State):Prop where
 mem:(s.mem.length:Int)=N
 mv:∀ x ∈ s.mem,0<=x
 rg:0<=s.regs.r0/\0<=s.regs.r1/\0<=s.regs.r2/\0<=s.regs.r3
 stk:s.stack=[]
 pc:s.pc=0
variable {E:Env} {fn:FuncId->Option (Env->cT->cT)}
section
variable (S:Sur E fn)
include S
theorem HH:E.lives 41 1=none/\E.lives 41 15=none:=⟨off S 41 1 (by decide) rfl,off S 41 15 (by decide) rfl⟩
theorem KD:E.lives 42 1=none/\E.lives 42 9=none/\E.lives 42 23=none:=⟨off S 42 1 (by decide) rfl,off S 42 9 (by decide) rfl,off S 42 23 (by decide) rfl⟩
theorem Z50 (dp:Nat)(p:Prog)(hms:∀ m ∈ p.mems,0<=m.n/\m.n<=16)(hml:p.mems.length<1000):Z6 E fn (dp+1) 41 [Zw p] (rD (places p))/\F9 (Zz p.mems) (places p)/\(places p).length<=20000:=by
 obtain⟨P,hP⟩:∃ P:Option DV->Prop,P=fun o=>o=some (rD (places p))/\F9 (Zz p.mems) (places p)/\(places p).length<=20000:=⟨_,rfl⟩
 have fin:∀ q:List Place,F9 (Zz p.mems) q->q.length<=20000->q=places p->P (some (rD q)):=fun q h1 h2 h3=>by subst h3;rw[hP];exact⟨rfl,h1,h2⟩
 have key:P (Z7 (Z4 E fn (dp+1) 41 [.d (Zw p)] [])):=by
  clear hP
  rw[ZD,S.Zaj,ZG,Zfw,ZC _ _ _ _ _ _ _ _ rfl]
  simp only[eG,go_sem,Z3 S,Z2 S,zN0,zN1,zN2,zN3,zN4,zI0,zI1,zI2,zI3,reduceCtorEq,HH S]
  rw[Y7,Z8 (on S _ _ [1,3,4] (by decide) rfl) rfl _ _ _ _ _ _ _ _ _ rfl]
  simp only[eG,go_sem,Z3 S,Z2 S,zN0,zN1,zN2,zN3,zN4,zI0,zI1,zI2,zI3,reduceCtorEq,HH S]
  refine Zmm S dp (Zz p.mems) p _ P (RG p 4 0 []) ?_ 4 0 _ [] (by omega) (by omega) (by intro x hx;cases hx) (by simp) rfl
  intro T q t1 t3 hq hl hQ
  have next:=fun(kx:Nat->K) hx=>Zml S dp p hms hml kx P (places p) hx p.mems.length 0 999999999999999999999999999999 q (by omega) (by omega) hq (by simp[Zz];omega) (by rw[hQ];rfl)
  have e0:Zz (p.mems.take 0)=0:=rfl
  rw[e0] at next
  by_cases h0:q.length=0
  ·rw [DN h0] at t3
   rw[DM h0]
   simp only[DN h0,DM h0] at next
   simp only[eG,go_sem,Z3 S,Z2 S,zN0,zN1,zN2,zN3,zN4,zI0,zI1,zI2,zI3,reduceCtorEq,HH S,t1,t3]
   rw[Y7,Z8 (on S _ _ [1,3,5,6] (by decide) rfl) rfl _ _ _ _ _ _ _ _ _ rfl]
   simp only[eG,go_sem,Z3 S,Z2 S,zN0,zN1,zN2,zN3,zN4,zI0,zI1,zI2,zI3,reduceCtorEq,HH S,t1,t3]
   refine next _ ?_
   intro T q' t3 hq' hl' hQ'
   by_cases h1:q'.length=0
   ·rw [DN h1] at t3
    rw[DM h1]
    simp only[eG,go_sem,Z3 S,Z2 S,zN0,zN1,zN2,zN3,zN4,zI0,zI1,zI2,zI3,reduceCtorEq,HH S,t3]
    have e:q'=[]:=List.length_eq_zero_iff.1 h1
    subst e
    exact fin [] hq' hl' hQ'
   ·rw [ZN h1] at t3
    rw[ZM h1]
    have hne:q'≠[]:=fun e=>h1 (by rw[e];rfl)
    have hd:deep [.cells ((rC q').map .d) 0 false] 8 (.sref 0 0 0 q'.length 3 none)=some (.lst (rC q') q'.length none,[0]):=Ax q' hne _ rfl 6 3 none rfl
    simp only[eG,go_sem,Z3 S,Z2 S,zN0,zN1,zN2,zN3,zN4,zI0,zI1,zI2,zI3,reduceCtorEq,HH S,t3,hd]
    exact fin q' hq' hl' hQ'
  ·rw [ZN h0] at t3
   rw[ZM h0]
   simp only[ZN h0,ZM h0] at next
   simp only[eG,go_sem,Z3 S,Z2 S,zN0,zN1,zN2,zN3,zN4,zI0,zI1,zI2,zI3,reduceCtorEq,HH S,t1,t3]
   rw[Y7,Z8 (on S _ _ [1,3,5,6] (by decide) rfl) rfl _ _ _ _ _ _ _ _ _ rfl]
   simp only[eG,go_sem,Z3 S,Z2 S,zN0,zN1,zN2,zN3,zN4,zI0,zI1,zI2,zI3,reduceCtorEq,HH S,t1,t3]
   refine next _ ?_
   intro T q' t3 hq' hl' hQ'
   by_cases h1:q'.length=0
   ·rw [DN h1] at t3
    rw[DM h1]
    simp only[eG,go_sem,Z3 S,Z2 S,zN0,zN1,zN2,zN3,zN4,zI0,zI1,zI2,zI3,reduceCtorEq,HH S,t3]
    have e:q'=[]:=List.length_eq_zero_iff.1 h1
    subst e
    exact fin [] hq' hl' hQ'
   ·rw [ZN h1] at t3
    rw[ZM h1]
    have hne:q'≠[]:=fun e=>h1 (by rw[e];rfl)
    have hd:deep [.cells ((rC q').map .d) 0 false] 8 (.sref 0 0 0 q'.length 3 none)=some (.lst (rC q') q'.length none,[0]):=Ax q' hne _ rfl 6 3 none rfl
    simp only[eG,go_sem,Z3 S,Z2 S,zN0,zN1,zN2,zN3,zN4,zI0,zI1,zI2,zI3,reduceCtorEq,HH S,t3,hd]
    exact fin q' hq' hl' hQ'
 rw[hP] at key
 exact key
def SS:Blk:=.cells [zi,zi,zi,zi,zn,zn,zi] 0 false
def ST (rg:Regs)(n:Nat):Blk:=.cells [.d (vi rg.r0),.d (vi rg.r1),.d (vi rg.r2),.d (vi rg.r3),.sref 3 0 0 n 1 (some n),zn,zi] 0 false
theorem Zhm (dp:Nat)(p:Prog)(q:List Place)(n:Nat)(hq:F9 n q)(hql:q.length<=20000)(l:List Int)(hll:l.length=q.length)(kx:Nat->K)(P:Option DV->Prop)
  (hx:∀ T rg mem,ZX .bot T 4=.ref 1 0 0->ZX .bot T 7=.ref 2 0 0->(mem:List Int).length=n->(∀ x ∈ mem,0<=x)->(0<=rg.r0/\0<=rg.r1/\0<=rg.r2/\0<=rg.r3)->P (Z7 (kx 0 (mk .bot 58 T) [.cells ((Y3 p).map .d) 0 false,SS,ST rg n,.cells ((rC mem).map .d) 0 false]))):
  ∀(m k f:Nat) (rg:Regs) (mem:List Int),k+m=q.length->m<=f->mem.length=n->(∀ x ∈ mem,0<=x)->(0<=rg.r0/\0<=rg.r1/\0<=rg.r2/\0<=rg.r3)->
  P (Z7 (Mk (Zj E 42) (Z4 E fn (dp+3)) (Z9 14 Mk (Zj E 42) (Z4 E fn (dp+3)) kx (ZY 0 [.cell 4 true 7,.tmp 5]) f) kx (ZY 0 [.cell 4 true 7,.tmp 5]) (mk .bot 58 [(1,.d (rD l)),(2,.ref 0 0 0),(4,.ref 1 0 0),(6,.d (rD q)),(7,.ref 2 0 0),(8,aI k)]) [.cells ((Y3 p).map .d) 0 false,SS,ST rg n,.cells ((rC mem).map .d) 0 false])):=by
 intro m
 induction m with
 | zero=>
  intro k f rg mem hk _ hm hv hr
  have hkq:¬(k:Int)<q.length:=by omega
  generalize Z9 14 Mk _ _ kx _ f=KK
  first | (conv=>lhs;rw[Mk]) | rw[Mk]
  simp only[eG,go_sem,Z3 S,Z2 S,zN0,zN1,zN2,zN3,zN4,zI0,zI1,zI2,zI3,reduceCtorEq,KD S,hkq]
  exact hx _ rg mem rfl rfl hm hv hr
 | succ m ih=>
  intro k f rg mem hk hf hm hv hr
  obtain⟨x,hxq⟩:=YK (show k<q.length by omega)
  obtain⟨y,hyl⟩:=YK (show k<l.length by omega)
  obtain⟨f,rfl⟩:∃ g,f=g+1:=⟨f-1,by omega⟩
  have hkq:(k:Int)<q.length:=by omega
  have hx1:=hq x (List.mem_of_getElem? hxq)
  have hy0:=Md.PE p.w y
  have next:=fun rg' mem' h1 h2 h3=>ih (k+1) f rg' mem' (by omega) (by omega) h1 h2 h3
  generalize hK:Z9 14 Mk _ _ kx _ (f+1)=KK
  first | (conv=>lhs;rw[Mk]) | rw[Mk]
  unfold SS ST
  unfold SS ST at next
  cases hreg:x.reg with
  | true=>
   obtain⟨a0,a1⟩:=hx1.1 hreg
   have hst:∀(A:List Blk) (v:Int) (m s q:AV),storeAt A 2 0 (x.n.toNat*1) [.d (vi v)] 1 (some (.cells [.d (vi rg.r0),.d (vi rg.r1),.d (vi rg.r2),.d (vi rg.r3),m,s,q] 0 false))=some (A.set 2 (.cells [.d (vi (Md.CD rg x.n v).r0),.d (vi (Md.CD rg x.n v).r1),.d (vi (Md.CD rg x.n v).r2),.d (vi (Md.CD rg x.n v).r3),m,s,q] 0 false)):=fun A v m s q=>by
    have d4:x.n=0∨x.n=1∨x.n=2∨x.n=3:=by omega
    rcases d4 with d | d | d | d<;>rw[d]<;>rfl
   simp only[eG,go_sem,Z3 S,Z2 S,zN0,zN1,zN2,zN3,zN4,zI0,zI1,zI2,zI3,reduceCtorEq,KD S,hkq,Zx hyl,Zx hxq,Aw S,hreg,a0,a1,hst,Int.cast_ofNat_Int,true_and,and_self,if_true,Nat.zero_add,wi k (by omega)]
   rw[<-hK,Z8 (on S _ _ [1,2,4,6,7,8] (by decide) rfl) rfl _ _ _ _ _ _ _ _ _ rfl]
   simp only[eG,go_sem,Z3 S,Z2 S,zN0,zN1,zN2,zN3,zN4,zI0,zI1,zI2,zI3,reduceCtorEq,KD S]
   exact next (Md.CD rg x.n (Md.Y1 p.w y)) mem hm hv (Md.Z4w hr x.n hy0)
  | false=>
   obtain⟨a0,a1⟩:=hx1.2 hreg
   have a2:x.n.toNat<mem.length:=by omega
   have hst:∀(A:List Blk) (j:Nat) (v:Int),storeAt A j 0 (x.n.toNat*1) [.d (vi v)] 1 (some (.cells ((rC mem).map .d) 0 false))=some (A.set j (.cells ((rC (mem.set x.n.toNat v)).map .d) 0 false)):=fun A j v=>
    NX (o:=0) (e':=v) [vi v] (List.getElem?_eq_getElem a2) rfl rfl rfl rfl (by show 0+1<=1;decide) 1 rfl _ rfl
   simp only[eG,go_sem,Z3 S,Z2 S,zN0,zN1,zN2,zN3,zN4,zI0,zI1,zI2,zI3,reduceCtorEq,KD S,hkq,Zx hyl,Zx hxq,Aw S,hreg,a0,a1,hst,Int.cast_ofNat_Int,true_and,and_self,if_true,Nat.zero_add,wi k (by omega)]
   rw[<-hK,Z8 (on S _ _ [1,2,4,6,7,8] (by decide) rfl) rfl _ _ _ _ _ _ _ _ _ rfl]
   simp only[eG,go_sem,Z3 S,Z2 S,zN0,zN1,zN2,zN3,zN4,zI0,zI1,zI2,zI3,reduceCtorEq,KD S]
   exact next rg (mem.set x.n.toNat (Md.Y1 p.w y)) (by rw[List.length_set];exact hm) (fun z hz=>by
    rcases List.mem_or_eq_of_mem_set hz with hz | rfl
    ·exact hv z hz
    ·exact hy0) hr
theorem Z4z (dp:Nat)(p:Prog)(hms:∀ m ∈ p.mems,0<=m.n/\m.n<=16)(hml:p.mems.length<1000)(q:List Place)(hsq:Z6 E fn (dp+3) 41 [Zw p] (rD q))(hq:F9 (Zz p.mems) q)(hql:q.length<=20000)(l:List Int)(hll:l.length=q.length):
  ∃ s:State,Z6 E fn (dp+4) 42 [Zw p,rD l] (.tup [B5 s,vb true])/\SOk (Zz p.mems) s:=by
 have hcl:=NA p.mems
 obtain⟨n,hn⟩:=Int.eq_ofNat_of_zero_le hcl.1
 have hn1:n<=100000:=by omega
 rw[hn] at hq ⊢
 obtain⟨P,hP⟩:∃ P:Option DV->Prop,P=fun o=>∃ s:State,o=some (.tup [B5 s,vb true])/\SOk n s:=⟨_,rfl⟩
 have fin:∀ s:State,SOk n s->P (some (.tup [B5 s,vb true])):=fun s h=>by rw[hP];exact⟨s,rfl,h⟩
 have cP:=fun(A:List Blk) (nb:Nat)=>Z6.deep hsq (np S 41 (by decide)) A nb
 simp only[Zw,Y3] at cP
 have hml':p.mems.length<1073741824:=by omega
 have cC:=fun(A:List Blk) (nb:Nat) (us:List Nat)=>Z6.flat (Zki S (dp+2) p hml' hms) (np S 74 (by decide)) rfl A nb us
 simp only[Zw,Y3,hn] at cC
 have key:P (Z7 (Z4 E fn (dp+4) 42 [.d (Zw p),.d (rD l)] [])):=by
  clear hP
  show P (Z7 (Z4 E fn (dp+3+1) 42 [.d (Zw p),.d (rD l)] []))
  rw[ZD,S.Zah,ZG,Zfu,ZC _ _ _ _ _ _ _ _ rfl]
  simp only[eG,go_sem,Z3 S,Z2 S,zN0,zN1,zN2,zN3,zN4,zI0,zI1,zI2,zI3,reduceCtorEq,KD S,cP,hll,cC,Z6j,Z6z n _ hn1,ne_eq,not_true_eq_false]
  rw[Y7,Z8 (on S _ _ [1,2,4,6,7,8] (by decide) rfl) rfl _ _ _ _ _ _ _ _ _ rfl]
  simp only[eG,go_sem,Z3 S,Z2 S,zN0,zN1,zN2,zN3,zN4,zI0,zI1,zI2,zI3,reduceCtorEq,KD S]
  refine Zhm S dp p q n hq hql l hll _ P ?_ q.length 0 _ ⟨0,0,0,0⟩ (List.replicate n 0) (by omega) (by omega) (by simp) (fun x hx=>by rw[List.eq_of_mem_replicate hx];exact Int.le_refl _) ⟨Int.le_refl _,Int.le_refl _,Int.le_refl _,Int.le_refl _⟩
  intro T rg mem t4 t7 hm hv hr
  unfold SS ST
  have hl1:n*1<=((rC mem).map AV.d).length:=by rw[List.length_map,J4,hm];exact Nat.le_refl _
  have ht1:∀(A:List Blk) (m:Nat),YD (deep A (m+1)) (((rC mem).map AV.d).take (n*1))=some (rC mem,[]):=fun A m=>by
   rw[List.take_of_length_le (by rw[List.length_map,J4,hm];exact Nat.le_refl _),KF]
  by_cases n0:n=0
  ·have e : mem = [] := List.length_eq_zero_iff.1 (by omega)
   subst e
   simp only[eG,go_sem,Z3 S,Z2 S,zN0,zN1,zN2,zN3,zN4,zI0,zI1,zI2,zI3,reduceCtorEq,KD S,t4,t7,Y9,n0]
   exact fin ⟨rg,[],[],0⟩ ⟨by simp[n0],hv,hr,rfl,rfl⟩
  ·simp only [eG, go_sem, Z3 S, Z2 S, zN0, zN1, zN2, zN3, zN4, zI0, zI1, zI2, zI3, reduceCtorEq, KD S, t4, t7, Y9, n0, hl1, ht1, Option.bind_some, Option.map_some]
   have hf:DV.lst (rC mem) n none=rD mem:=by unfold rD;rw[hm]
   rw[hf]
   exact fin ⟨rg,mem,[],0⟩ ⟨by simp[hm],hv,hr,rfl,rfl⟩
 rw[hP] at key
 obtain⟨s,h1,h2⟩:=key
 exact⟨s,h1,h2⟩
end
theorem Z2a (ps:List (Opd×Opd))(k:K)(tm:List AV)(A:List Blk):H4 ps k tm A=bif D8 tm ps then k tm A else none:=id rfl
theorem Z28 (tm:List AV)(p:Opd×Opd)(l:List (Opd×Opd)):D8 tm (p::l)=(HC (look tm p.1) (look tm p.2)&&D8 tm l):=id rfl
theorem Z29 (tm:List AV):D8 tm []=true:=id rfl
theorem Z27 (i v o j w q:Nat):HC (.ref i v o) (.ref j w q)= !Nat.beq i j:=id rfl
theorem XN {l:List Int}{k:Nat}(h:k<l.length)(i v:Nat)(A:List Blk)(n:Int):storeAt A i v (k*1) [.d (vi n)] 1 (some (.cells ((rC l).map .d) v false))=some (A.set i (.cells ((rC (l.set k n)).map .d) v false)):=
 NX (o:=0) (e':=n) [vi n] (List.getElem?_eq_getElem h) rfl rfl rfl rfl (by show 0+1<=1;decide) 1 rfl _ rfl
variable {E:Env} {fn:FuncId->Option (Env->cT->cT)}
section
variable (S:Sur E fn)
include S
theorem EY:E.lives 14 1=none/\E.lives 14 17=none/\E.lives 14 21=none:=⟨off S 14 1 (by decide) rfl,off S 14 17 (by decide) rfl,off S 14 21 (by decide) rfl⟩
theorem Zol (dp:Nat)(p:Prog)(q:List Place)(hql:q.length<=20000)(l:List Int)(how:Int)(kx:Nat->K)(P:Option DV->Prop)
  (hx : ∀ T x y, ZX .bot T 3 = .ref 0 0 0 -> ZX .bot T 6 = .ref 1 0 0 -> ZX .bot T 7 = .ref 2 0 0 -> ZX .bot T 9 = .sref 3 0 0 q.length 1 (some q.length) -> ZX .bot T 10 = .sref 4 0 0 q.length 1 (some q.length) -> (x : List Int).length = q.length -> (y : List Int).length = q.length ->
   P (Z7 (kx 0 (mk .bot 80 T) [.cells ((Y3 p).map .d) 0 false,.cells [zi,zi,zi,zi,zn,zn,zi] 0 false,.cells [zi,zi,zi,zi,zn,zn,zi] 0 false,.cells ((rC x).map .d) 0 false,.cells ((rC y).map .d) 0 false]))):
  ∀(m k f:Nat) (x y:List Int),k+m=q.length->m<=f->x.length=q.length->y.length=q.length->
  P (Z7 (Mq (Zj E 14) (Z4 E fn dp) (Z9 10 Mq (Zj E 14) (Z4 E fn dp) kx (ZY 0 [.cell 6 true 7,.cell 7 true 7]) f) kx (ZY 0 [.cell 6 true 7,.cell 7 true 7]) (mk .bot 80 [(1,.d (rD l)),(2,aI how),(3,.ref 0 0 0),(6,.ref 1 0 0),(7,.ref 2 0 0),(8,.d (rD q)),(9,.sref 3 0 0 q.length 1 (some q.length)),(10,.sref 4 0 0 q.length 1 (some q.length)),(25,aI q.length),(26,aI k)])
   [.cells ((Y3 p).map .d) 0 false,.cells [zi,zi,zi,zi,zn,zn,zi] 0 false,.cells [zi,zi,zi,zi,zn,zn,zi] 0 false,.cells ((rC x).map .d) 0 false,.cells ((rC y).map .d) 0 false])):=by
 intro m
 induction m with
 | zero=>
  intro k f x y hk _ hxl hyl
  have hkq:¬(k:Int)<q.length:=by omega
  generalize Z9 10 Mq _ _ kx _ f=KK
  first | (conv=>lhs;rw[Mq]) | rw[Mq]
  simp only[eG,go_sem,Z3 S,Z2 S,zN0,zN1,zN2,zN3,zN4,zI0,zI1,zI2,zI3,reduceCtorEq,EY S,hkq]
  exact hx _ x y rfl rfl rfl rfl rfl hxl hyl
 | succ m ih=>
  intro k f x y hk hf hxl hyl
  obtain⟨z,hzq⟩:=YK (show k<q.length by omega)
  obtain⟨f,rfl⟩:∃ g,f=g+1:=⟨f-1,by omega⟩
  have hkq:(k:Int)<q.length:=by omega
  have hkx:k<x.length:=by omega
  have hky:k<y.length:=by omega
  have next:=fun x' y' h1 h2=>ih (k+1) f x' y' (by omega) (by omega) h1 h2
  generalize hK:Z9 10 Mq _ _ kx _ (f+1)=KK
  first | (conv=>lhs;rw[Mq]) | rw[Mq]
  by_cases hl:(k:Int)<l.length
  ·obtain ⟨v, hvl⟩ := YK (show k < l.length by omega)
   cases hsec:z.secret with
   | true=>
    simp only[eG,go_sem,Z3 S,Z2 S,zN0,zN1,zN2,zN3,zN4,zI0,zI1,zI2,zI3,reduceCtorEq,EY S,hkq,hl,Zx hvl,Zx hzq,hsec,XN,hkx,hky,List.length_set,Int.natCast_nonneg,Int.toNat_natCast,Int.ofNat_lt,Nat.zero_add,true_and,and_self,and_true,if_true,wi k (by omega)]
    rw[<-hK,Z8 (on S _ _ [1,2,3,6,7,8,9,10,25,26] (by decide) rfl) rfl _ _ _ _ _ _ _ _ _ rfl]
    simp only[eG,go_sem,Z3 S,Z2 S,zN0,zN1,zN2,zN3,zN4,zI0,zI1,zI2,zI3,reduceCtorEq,EY S]
    exact next _ _ (by rw[List.length_set];exact hxl) (by rw[List.length_set,List.length_set];exact hyl)
   | false=>
    by_cases h7:Md.YF how 7=0
    ·simp only [eG, go_sem, Z3 S, Z2 S, zN0, zN1, zN2, zN3, zN4, zI0, zI1, zI2, zI3, reduceCtorEq, EY S, hkq, hl, Zx hvl, Zx hzq, hsec, Q1, h7, XN, hkx, hky, List.length_set, Int.natCast_nonneg, Int.toNat_natCast, Int.ofNat_lt, Nat.zero_add, true_and, and_self, and_true, if_true, wi k (by omega)]
     rw[<-hK,Z8 (on S _ _ [1,2,3,6,7,8,9,10,25,26] (by decide) rfl) rfl _ _ _ _ _ _ _ _ _ rfl]
     simp only[eG,go_sem,Z3 S,Z2 S,zN0,zN1,zN2,zN3,zN4,zI0,zI1,zI2,zI3,reduceCtorEq,EY S]
     exact next _ _ (by rw[List.length_set];exact hxl) (by rw[List.length_set,List.length_set];exact hyl)
    ·simp only [eG, go_sem, Z3 S, Z2 S, zN0, zN1, zN2, zN3, zN4, zI0, zI1, zI2, zI3, reduceCtorEq, EY S, hkq, hl, Zx hvl, Zx hzq, hsec, Q1, h7, XN, hkx, hky, List.length_set, Int.natCast_nonneg, Int.toNat_natCast, Int.ofNat_lt, Nat.zero_add, true_and, and_self, and_true, if_true, wi k (by omega)]
     rw[<-hK,Z8 (on S _ _ [1,2,3,6,7,8,9,10,25,26] (by decide) rfl) rfl _ _ _ _ _ _ _ _ _ rfl]
     simp only[eG,go_sem,Z3 S,Z2 S,zN0,zN1,zN2,zN3,zN4,zI0,zI1,zI2,zI3,reduceCtorEq,EY S]
     exact next _ _ (by rw[List.length_set];exact hxl) (by rw[List.length_set];exact hyl)
  ·simp only [eG, go_sem, Z3 S, Z2 S, zN0, zN1, zN2, zN3, zN4, zI0, zI1, zI2, zI3, reduceCtorEq, EY S, hkq, hl, wi k (by omega)]
   rw[<-hK,Z8 (on S _ _ [1,2,3,6,7,8,9,10,25,26] (by decide) rfl) rfl _ _ _ _ _ _ _ _ _ rfl]
   simp only[eG,go_sem,Z3 S,Z2 S,zN0,zN1,zN2,zN3,zN4,zI0,zI1,zI2,zI3,reduceCtorEq,EY S]
   exact next x y hxl hyl
theorem Zi5 (dp:Nat)(p:Prog)(hms:∀ m ∈ p.mems,0<=m.n/\m.n<=16)(hml:p.mems.length<1000)(l:List Int)(how:Int):
  ∃ s s':State,Z6 E fn (dp+5) 14 [Zw p,rD l,vi how] (.tup [B5 s,B5 s'])/\SOk (Zz p.mems) s/\SOk (Zz p.mems) s':=by
 obtain⟨hq,hqo,hql⟩:=Z50 S (dp+3) p hms hml
 obtain⟨hq',_,_⟩:=Z50 S (dp+2) p hms hml
 generalize hQ:places p=q at *
 obtain⟨P,hP⟩:∃ P:Option DV->Prop,P=fun o=>∃ s s':State,o=some (.tup [B5 s,B5 s'])/\SOk (Zz p.mems) s/\SOk (Zz p.mems) s':=⟨_,rfl⟩
 have fin:∀ s s':State,SOk (Zz p.mems) s->SOk (Zz p.mems) s'->P (some (.tup [B5 s,B5 s'])):=fun s s' h h'=>by rw[hP];exact⟨s,s',rfl,h,h'⟩
 have cP:=fun(A:List Blk) (nb:Nat)=>Z6.deep hq (np S 41 (by decide)) A nb
 simp only[Zw,Y3] at cP
 have key:P (Z7 (Z4 E fn (dp+5) 14 [.d (Zw p),.d (rD l),aI how] [])):=by
  clear hP
  show P (Z7 (Z4 E fn (dp+4+1) 14 [.d (Zw p),.d (rD l),aI how] []))
  rw[ZD,S.Z8q,ZG,Ze4,ZC _ _ _ _ _ _ _ _ rfl]
  have hmk:=fun nb=>Z6z q.length nb (show q.length<=100000 by omega)
  simp only[eG,go_sem,Z3 S,Z2 S,zN0,zN1,zN2,zN3,zN4,zI0,zI1,zI2,zI3,reduceCtorEq,EY S,cP,Z6j,hmk]
  rw[Y7,Z8 (on S _ _ [1,2,3,6,7,8,9,10,25,26] (by decide) rfl) rfl _ _ _ _ _ _ _ _ _ rfl]
  simp only[eG,go_sem,Z3 S,Z2 S,zN0,zN1,zN2,zN3,zN4,zI0,zI1,zI2,zI3,reduceCtorEq,EY S]
  refine Zol S (dp+4) p q hql l how _ P ?_ q.length 0 _ (List.replicate q.length 0) (List.replicate q.length 0) (by omega) (by omega) (by simp) (by simp)
  intro T x y t3 t6 t7 t9 t10 hxl hyl
  obtain⟨s1,h1,o1⟩:=Z4z S dp p hms hml q hq' hqo hql x hxl
  obtain⟨s2,h2,o2⟩:=Z4z S dp p hms hml q hq' hqo hql y hyl
  have hlx:q.length*1<=((rC x).map AV.d).length:=by rw[List.length_map,J4,hxl];exact Nat.le_refl _
  have hly:q.length*1<=((rC y).map AV.d).length:=by rw[List.length_map,J4,hyl];exact Nat.le_refl _
  have htx:∀(A:List Blk) (m:Nat),YD (deep A (m+1)) (((rC x).map AV.d).take (q.length*1))=some (rC x,[]):=fun A m=>by
   rw[List.take_of_length_le (by rw[List.length_map,J4,hxl];exact Nat.le_refl _),KF]
  have hty:∀(A:List Blk) (m:Nat),YD (deep A (m+1)) (((rC y).map AV.d).take (q.length*1))=some (rC y,[]):=fun A m=>by
   rw[List.take_of_length_le (by rw[List.length_map,J4,hyl];exact Nat.le_refl _),KF]
  have hfx:DV.lst (rC x) q.length none=rD x:=by unfold rD;rw[hxl]
  have hfy:DV.lst (rC y) q.length none=rD y:=by unfold rD;rw[hyl]
  have hb:=np S 42 (by decide)
  have done:P (some (.tup [B5 s1,B5 s2])):=fin s1 s2 o1 o2
  simp only[B5,GQ] at done h1 h2
  by_cases n0:q.length=0
  ·have ex : x = [] := List.length_eq_zero_iff.1 (by omega)
   have ey:y=[]:=List.length_eq_zero_iff.1 (by omega)
   subst ex ey
   have c1:=fun(A:List Blk) (nb:Nat)=>Z6.deep h1 hb A nb
   have c2:=fun(A:List Blk) (nb:Nat)=>Z6.deep h2 hb A nb
   simp only[Zw,Y3,D7] at c1 c2
   have d1:P (some (.tup [B5 s1,B5 s1])):=fin s1 s1 o1 o1
   simp only[B5,GQ] at d1
   simp only[eG,go_sem,Z3 S,Z2 S,zN0,zN1,zN2,zN3,zN4,zI0,zI1,zI2,zI3,reduceCtorEq,EY S,hfx,hfy,htx,hty,hlx,hly,Y9,Option.bind_some,Option.map_some,Z2a,Z28,Z29,Z27,show Nat.beq 1 6=false from rfl,Bool.not_false,t3,t6,t7,t9,t10,n0,c1,c2]
   exact d1
  ·by_cases N0 : Zz p.mems = 0
   ·have m1 : s1.mem = [] := List.length_eq_zero_iff.1 (by have := o1.mem; omega)
    have m2:s2.mem=[]:=List.length_eq_zero_iff.1 (by have:=o2.mem;omega)
    rw[m1,o1.stk] at h1 done
    rw[m2,o2.stk] at h2 done
    have c1:=fun(A:List Blk) (nb:Nat) (us:List Nat)=>Z6.flat h1 hb rfl A nb us
    have c2:=fun(A:List Blk) (nb:Nat) (us:List Nat)=>Z6.flat h2 hb rfl A nb us
    simp only[Zw,Y3] at c1 c2
    simp only[eG,go_sem,Z3 S,Z2 S,zN0,zN1,zN2,zN3,zN4,zI0,zI1,zI2,zI3,reduceCtorEq,EY S,hfx,hfy,htx,hty,hlx,hly,Y9,Option.bind_some,Option.map_some,Z2a,Z28,Z29,Z27,show Nat.beq 1 6=false from rfl,Bool.not_false,t3,t6,t7,t9,t10,n0,c1,c2]
    exact done
   ·have f1:DV.flat 8 (.tup [.agg [vi s1.regs.r0,vi s1.regs.r1,vi s1.regs.r2,vi s1.regs.r3,rD s1.mem,rD s1.stack,vi s1.pc],vb true])=false:=by
     cases hm:s1.mem with
     | nil=>have:=o1.mem;rw[hm] at this;exact absurd this.symm N0
     | cons a l=>rfl
    have f2:DV.flat 8 (.tup [.agg [vi s2.regs.r0,vi s2.regs.r1,vi s2.regs.r2,vi s2.regs.r3,rD s2.mem,rD s2.stack,vi s2.pc],vb true])=false:=by
     cases hm:s2.mem with
     | nil=>have:=o2.mem;rw[hm] at this;exact absurd this.symm N0
     | cons a l=>rfl
    have c1:=fun(A:List Blk) (nb i:Nat) (us:List Nat)=>Z6.used h1 hb f1 A nb i us
    have c2:=fun(A:List Blk) (nb i:Nat) (us:List Nat)=>Z6.used h2 hb f2 A nb i us
    simp only[Zw,Y3] at c1 c2
    simp only[eG,go_sem,Z3 S,Z2 S,zN0,zN1,zN2,zN3,zN4,zI0,zI1,zI2,zI3,reduceCtorEq,EY S,hfx,hfy,htx,hty,hlx,hly,Y9,Option.bind_some,Option.map_some,Z2a,Z28,Z29,Z27,show Nat.beq 1 6=false from rfl,Bool.not_false,t3,t6,t7,t9,t10,n0,c1,c2]
    exact done
 rw[hP] at key
 obtain⟨s,s',h1,h2,h3⟩:=key
 exact⟨s,s',h1,h2,h3⟩
end
theorem Znw (l:List Int):∀ m ∈ (Md.make l).mems,0<=m.n/\m.n<=16:=by
 intro m hm
 have hm:m ∈ Md.J2 l (Md.Zk l):=hm
 have h1:∀ m ∈ Md.Bk l (Md.Zk l),0<=m.n/\m.n<=16:=by
  intro m hm
  unfold Md.Bk at hm
  split at hm
  ·simp only [List.mem_singleton] at hm
   subst hm
   split<;>simp
  ·simp at hm
 unfold Md.J2 at hm
 split at hm
 ·rcases List.mem_append.1 hm with hm | hm
  ·exact h1 m hm
  ·simp only [List.mem_singleton] at hm
   subst hm;simp
 ·exact h1 m hm
theorem Znx (l:List Int):(Md.make l).mems.length<1000:=by
 show(Md.J2 l (Md.Zk l)).length<1000
 have h1:(Md.Bk l (Md.Zk l)).length<=1:=by unfold Md.Bk;split<;>simp
 unfold Md.J2
 split
 ·simp;omega
 ·omega
theorem Znz (l:List Int):(Md.make l).ins.length<1000:=by
 show((List.range (Md.nM l)).map _).length<1000
 obtain⟨r,h1,h2⟩:=Md.N6 (Md.ZZ (Md.kM l 0) 12)
 rw[List.length_map,List.length_range]
 unfold Md.nM
 rw[h2,Int.toNat_natCast];omega
theorem Znv (l:List Int):Md.Jj (Md.make l).w=true:=by
 obtain⟨r,h1,h2⟩:=Md.Z87 (Md.kM l 0)
 show Md.Jj (Md.YF (Md.kM l 0) 1+1)=true
 rw[h2];exact Md.VM.2 ⟨by omega,by omega⟩
theorem Kk (x:Int)(n:Nat)(h:n<=63):YT .shr (.d (.v (.int .i64 x))) (.d (.v (.int .u64 (n:Int))))=some (aI (Md.ZZ x n)):=by
 rw[Z3f _ _ _ _ (Int.natCast_nonneg n),Int.toNat_natCast,Nat.min_eq_left (by show n<=64;omega)];rfl
theorem Fq (x:Int):YT .shr (.d (.v (.int .i64 x))) (.d (.v (.int .u64 1)))=some (aI (Md.ZZ x 1)):=Kk x 1 (by decide)
theorem ER (x:Int):YT .shr (.d (.v (.int .i64 x))) (.d (.v (.int .u64 8)))=some (aI (Md.ZZ x 8)):=Kk x 8 (by decide)
theorem Fk (x:Int):YT .shr (.d (.v (.int .i64 x))) (.d (.v (.int .u64 10)))=some (aI (Md.ZZ x 10)):=Kk x 10 (by decide)
theorem Zhz (x:Int):YT .shr (.d (.v (.int .i64 x))) (.d (.v (.int .u64 11)))=some (aI (Md.ZZ x 11)):=Kk x 11 (by decide)
theorem Fj (x:Int):YT .shr (.d (.v (.int .i64 x))) (.d (.v (.int .u64 12)))=some (aI (Md.ZZ x 12)):=Kk x 12 (by decide)
theorem Zhy (x:Int):YT .shr (.d (.v (.int .i64 x))) (.d (.v (.int .u64 14)))=some (aI (Md.ZZ x 14)):=Kk x 14 (by decide)
theorem Zhx (x:Int):YT .shr (.d (.v (.int .i64 x))) (.d (.v (.int .u64 16)))=some (aI (Md.ZZ x 16)):=Kk x 16 (by decide)
theorem Zhw (x:Int):YT .shr (.d (.v (.int .i64 x))) (.d (.v (.int .u64 18)))=some (aI (Md.ZZ x 18)):=Kk x 18 (by decide)
theorem lm (x:Int)(n:Nat)(h:0<n):YT .rem (aI (Md.YF x 255)) (aI (n:Int))=some (aI (Md.YR x n:Nat)):=by
 rw[Xx _ _ _ (by omega),Md.Zo7]
theorem Zos (x:Int):YT .rem (aI (Md.YF x 255)) (aI 18)=some (aI (Md.YR x 18:Nat)):=lm x 18 (by decide)
theorem Zot (x:Int):YT .rem (aI (Md.YF x 255)) (aI 10)=some (aI (Md.YR x 10:Nat)):=lm x 10 (by decide)
theorem FJ (x:Int):YT .rem (aI (Md.YF x 255)) (aI 3)=some (aI (Md.YR x 3:Nat)):=lm x 3 (by decide)
theorem Z1o {l:List Int}{i:Nat}(h:i<l.length)(n:Nat)(hn:n=l.length)(cs:List DV)(hc:cs=rC l):F3 (.d (.lst cs n (some n))) (aI (i:Int)) 1=some (.d (.vptr (vi (l.getD i 0)::rC (l.drop (i+1))))):=by
 subst hn hc
 have:=Z7x h (s:=1) rfl (some l.length) .i64
 rw[List.getD_eq_getElem?_getD,List.getElem?_eq_getElem h]
 exact this
theorem Zp9 (x:Int):F3 (.d (.lst [vi 1,vi 1,vi 2,vi 2,vi 2,vi 3,vi 3,vi 4,vi 5,vi 5,vi 5,vi 6,vi 7,vi 8,vi 9,vi 10,vi 11,vi 1] 18 (some 18))) (aI (Md.YR x 18:Nat)) 1=some (.d (.vptr (vi (Md.N2.getD (Md.YR x 18) 0)::rC (Md.N2.drop (Md.YR x 18+1))))):=
 Z1o (l:=Md.N2) (Md.RW x (by decide)) 18 rfl _ rfl
theorem Zp8 (x:Int):F3 (.d (.lst [vi 9,vi 10,vi 3,vi 2] 4 (some 4))) (aI (Md.YF x 3)) 1=some (.d (.vptr (vi (Md.o4.getD (Md.YF x 3).toNat 0)::rC (Md.o4.drop ((Md.YF x 3).toNat+1))))):=by
 obtain⟨r,hr,h⟩:=Md.N6 x
 rw[h,Int.toNat_natCast]
 exact Z1o (l:=Md.o4) hr 4 rfl _ rfl
theorem Zh9 (x:Int):IntKind.i64.wrap ((Md.YR x 10:Nat)+1)=(Md.YR x 10:Nat)+1:=by
 have:=Md.RW x (show 0<10 by decide)
 exact YH (by omega) (by omega)
theorem Zor (x:Int)(n:Nat):YT .rem (aI (Md.YF x 255)) (aI ((n:Int)+1))=some (aI (Md.YR x (n+1):Nat)):=by
 have:=lm x (n+1) (by omega)
 rw[Int.natCast_add] at this
 exact this
theorem KT (ps:List (Opd×Opd))(k:K)(tm:List AV)(A:List Blk):H4 ps k tm A=bif D8 tm ps then k tm A else none:=id rfl
theorem KS (tm:List AV):D8 tm []=true:=id rfl
theorem Zre (tm:List AV)(a b:Opd)(l:List (Opd×Opd)):D8 tm ((a,b)::l)=(HC (look tm a) (look tm b)&&D8 tm l):=id rfl
theorem Zrd (i v o j w q:Nat):HC (.ref i v o) (.ref j w q)= !decide (i=j):=by
 show(!Nat.beq i j)=_
 by_cases h:i=j
 ·subst h
  have:Nat.beq i i=true:=Nat.beq_refl i
  rw[this];simp
 ·have:Nat.beq i j=false:=by
   cases hb:Nat.beq i j with
   | false=>rfl
   | true=>exact absurd (Nat.eq_of_beq_eq_true hb) h
  rw[this,decide_eq_false h]
variable {E:Env} {fn:FuncId->Option (Env->cT->cT)}
section
variable (S:Sur E fn)
include S
theorem Z6f:E.lives 73 7=none:=off S 73 7 (by decide) rfl
theorem Z6g:E.lives 38 7=none:=off S 38 7 (by decide) rfl
theorem Zmu:E.lives 40 13=none/\E.lives 40 17=none/\E.lives 40 19=none/\E.lives 40 21=none/\E.lives 40 25=none/\E.lives 40 29=none/\E.lives 40 31=none/\E.lives 40 35=none:=⟨off S 40 13 (by decide) rfl,off S 40 17 (by decide) rfl,off S 40 19 (by decide) rfl,off S 40 21 (by decide) rfl,off S 40 25 (by decide) rfl,off S 40 29 (by decide) rfl,off S 40 31 (by decide) rfl,off S 40 35 (by decide) rfl⟩
theorem Zix (dp:Nat)(n:Int):Z6 E fn (dp+1) 73 [vi n] (.agg (Cl.cells (Md.Hz n))):=by
 unfold Z6
 show Z7 (Z4 E fn (dp+1) 73 [.d (vi n)] [])=_
 rw[ZD,S.Z8r,ZG,Ze5,ZC _ _ _ _ _ _ _ _ rfl]
 by_cases h:Md.YF n 4=0
 ·simp only[eG,go_sem,Z3 S,Z2 S,zN0,zN1,zN2,zN3,zN4,zI0,zI1,zI2,zI3,reduceCtorEq,Z6f S,Q1,h,Md.Hz]
 ·simp only[eG,go_sem,Z3 S,Z2 S,zN0,zN1,zN2,zN3,zN4,zI0,zI1,zI2,zI3,reduceCtorEq,Z6f S,Q1,h,Md.Hz]
theorem Zry (dp:Nat)(n:Int)(A:List Blk)(nb:Nat)(us:List Nat):Zv false E (Z4 E fn (dp+1)) 73 A nb (some ([vi n],us))=some (.made (.d (.agg (Cl.cells (Md.Hz n)))) []):=
 Z6.flat (Zix S dp n ) (np S 73 (by decide)) (rfl) A nb us
theorem Ziz (dp:Nat)(i:Int)(l:List Int)(h0:0<=i):Z6 E fn (dp+1) 38 [vi i,.vptr [rD l]] (vi (Md.kM l i)):=by
 unfold Z6
 show Z7 (Z4 E fn (dp+1) 38 [.d (vi i),.d (.vptr [rD l])] [])=_
 rw[ZD,S.Z8t,ZG,Ze7,ZC _ _ _ _ _ _ _ _ rfl]
 by_cases h:i<l.length
 ·obtain ⟨e, he⟩ := YK (show i.toNat < l.length by omega)
  simp only[eG,go_sem,Z3 S,Z2 S,zN0,zN1,zN2,zN3,zN4,zI0,zI1,zI2,zI3,reduceCtorEq,Z6g S,h,E1 h0 he,he,Option.getD_some,Md.kM]
 ·simp only[eG,go_sem,Z3 S,Z2 S,zN0,zN1,zN2,zN3,zN4,zI0,zI1,zI2,zI3,reduceCtorEq,Z6g S,h,Md.kM,List.getElem?_eq_none (show l.length<=i.toNat by omega),Option.getD_none]
theorem Q9 (dp:Nat)(i:Int)(l:List Int)(h0:0<=i)(A:List Blk)(nb:Nat)(us:List Nat):Zv false E (Z4 E fn (dp+1)) 38 A nb (some ([vi i,.vptr [rD l]],us))=some (.made (.d (vi (Md.kM l i))) []):=
 Z6.flat (Ziz S dp i l h0) (np S 38 (by decide)) (rfl) A nb us
theorem Ziy (dp:Nat)(x:Int)(n:Nat)(hn:n<1000):Z6 E fn (dp+2) 40 [vi x,vi (n:Nat)] (.agg (Cl.cells (Md.A7 x n))):=by
 unfold Z6
 show Z7 (Z4 E fn (dp+1+1) 40 [.d (vi x),.d (vi (n:Nat))] [])=_
 rw[ZD,S.Z8s,ZG,Ze6,ZC _ _ _ _ _ _ _ _ rfl]
 have hw:IntKind.i64.wrap ((n:Int)+1)=(n:Int)+1:=YH (by omega) (by omega)
 have hi:Md.A7 x n=Md.A7 x n:=rfl
 unfold Md.A7
 have r18:∀ {α:Type} (l:List α),rep l 18=l++(l++(l++(l++(l++(l++(l++(l++(l++(l++(l++(l++(l++(l++(l++(l++(l++l)))))))))))))))):=fun l=>by simp[rep]
 have r4:∀ {α:Type} (l:List α),rep l 4=l++(l++(l++l)):=fun l=>by simp[rep]
 simp only[eG,go_sem,Z3 S,Z2 S,zN0,zN1,zN2,zN3,zN4,zI0,zI1,zI2,zI3,reduceCtorEq,Zmu S,ER,Zhz,Zhy,Zhx,Zhw,Q1,Zos,Zot,Zor,Zp9,Zp8,hw,Zh9,Zry S,r18,r4,KT,KS,Zre,Zrd,Md.v0]
 generalize Md.N2.getD (Md.YR x 18) 0=k
 by_cases k1:k=1
 ·simp only[k1,decide_true,cond_true,if_true]
 by_cases k2:k=2
 ·simp only[k2,decide_true,decide_false,cond_true,cond_false,if_true,if_false,zI0,true_or,or_true]
 by_cases k3:k=3
 ·simp only[k3,decide_true,decide_false,cond_true,cond_false,if_true,if_false,zI0,true_or,or_true]
 by_cases k4:k=4
 ·simp only[k4,decide_true,decide_false,cond_true,cond_false,if_true,if_false,zI0,true_or,or_true,or_false]
 by_cases k5:k=5
 ·simp only[k5,decide_true,decide_false,cond_true,cond_false,if_true,if_false,zI0,true_or,or_true,or_false]
 by_cases k6:k=6
 ·simp only[k6,decide_true,decide_false,cond_true,cond_false,if_true,if_false,zI0,true_or,or_true,or_false]
 by_cases k8:k=8
 ·simp only[k8,decide_true,decide_false,cond_true,cond_false,if_true,if_false,zI0,true_or,or_true,or_false]
 by_cases k7:k=7
 ·simp only[k7,decide_true,decide_false,cond_true,cond_false,if_true,if_false,zI0,true_or,or_true,or_false]
 simp only[k1,k2,k3,k4,k5,k6,k7,k8,decide_false,cond_false,if_false,or_false]
theorem NC (dp:Nat)(x:Int)(n:Nat)(hn:n<1000)(A:List Blk)(nb:Nat)(us:List Nat):Zv false E (Z4 E fn (dp+2)) 40 A nb (some ([vi x,vi (n:Nat)],us))=some (.made (.d (.agg (Cl.cells (Md.A7 x n)))) []):=
 Z6.flat (Ziy S dp x n hn) (np S 40 (by decide)) (rfl) A nb us
end
def S5 (n:Nat):ByteArray:=⟨#[(48+n).toUInt8]⟩
theorem Zmw (r:Bool)(x:Opd)(E:Env)(call:cT)(tm:List AV)(A:List Blk)(nb:Nat):MP r x E call tm A nb=one? (TP A r (look tm x)):=id rfl
theorem XZ (a b:ByteArray)(h:a.size+b.size<=1099511627776):YT .add (.d (vt a)) (.d (vt b))=some (.d (vt (a++b))):=by
 show(N9 .add a b).map _=_
 simp[N9,h]
theorem dg (z:Int):NM [z]++(⟨#[]⟩:ByteArray)=⟨#[UInt8.ofNat z.toNat]⟩:=by
 have:(⟨#[]⟩:ByteArray)=ByteArray.empty:=rfl
 rw[this,ByteArray.append_empty]
 rfl
theorem Zhj (z:Int):YT .add (.d (vt (NM [z]))) (.d (vt ⟨#[]⟩))=some (.d (vt ⟨#[UInt8.ofNat z.toNat]⟩)):=by
 rw[XZ _ _ (by rw[<-ByteArray.size_append,dg];show(1:Nat)<=_;decide),dg]
theorem Zhi (z:UInt8):YT .eql (.d (vt ⟨#[z]⟩)) (.d (vt ⟨#[]⟩))=some (Yx false):=by
 simp[YT,N9]
theorem Zlo (E:Env)(call:cT)(kn:K)(kx:Nat->K)(kr:K)(tm:List AV)(A:List Blk):UG E call kn kx kr tm A=(cQ (cQ (Z1 [st 6 (oV (.t 0)),st 7 (oB .gtr (.t 6) (ci 0)),st 8 (oV (.t 7)),sg 9 8 false (oV (.t 3)),sg 10 8 false (oB .eql (.t 9) (.c (.v (.string ⟨#[]⟩)))),st 11 (YE (.t 8) (.c (.v (.bool true))) (.t 10))]) (cJ 1 (.t 11) (cK) (Q4 0))) (ZR 1 (cQ (Z1 [st 12 (oV (.t 0)),st 13 (oB .rem (.t 12) (ci 10)),st 14 (oB .add (ci 48) (.t 13)),st 15 (G9 .u8 (.t 14)),st 16 (YA (rep [.d (.v (.int .u8 0))] 1) 1 1 [(0,1,(.t 15))]),st 17 (MP false (.t 16)),st 18 (oV (.t 3)),st 19 (oB .add (.t 17) (.t 18)),st 3 (oV (.t 19))]) (Z1 [st 20 (oV (.t 0)),st 21 (oB .quo (.t 20) (ci 10)),st 0 (oV (.t 21))])))) E call kn kx kr tm A:=id rfl
variable {E:Env} {fn:FuncId->Option (Env->cT->cT)}
section
variable (S:Sur E fn)
include S
theorem Zmv:E.lives 39 1=none/\E.lives 39 7=none:=⟨off S 39 1 (by decide) rfl,off S 39 7 (by decide) rfl⟩
theorem Zkk (dp:Nat)(n:Int)(hn:0<=n/\n<6):Z6 E fn (dp+1) 39 [vi n] (vt (S5 n.toNat)):=by
 unfold Z6
 show Z7 (Z4 E fn (dp+1) 39 [.d (vi n)] [])=_
 rw[ZD,S.Zao,ZG,Zg1,ZC _ _ _ _ _ _ _ _ rfl]
 have hloop:∀ kx kr m d T A,Z9 10 UG (Zj E 39) (Z4 E fn dp) kx kr (m+1) (mk d 23 T) A=Z18 (UG (Zj E 39) (Z4 E fn dp) (Z9 10 UG (Zj E 39) (Z4 E fn dp) kx kr m) kx kr) 23 [0,3] d T A (QK A 0 100000 ([0,3].flatMap fun t=>Qj 8 (ZX d T t)) []):=fun kx kr m d T A=>Z8 (on S _ _ [0,3] (by decide) rfl) rfl _ _ _ _ _ _ _ _ _ rfl
 have w1:∀ z:Int,0<=z->z<100->IntKind.i64.wrap z=z:=fun z h1 h2=>YH (by omega) (by omega)
 have w2:∀ z:Int,0<=z->z<100->IntKind.u8.wrap z=z:=fun z h1 h2=>by simp only[IntKind.wrap,IntKind.signed,IntKind.bits];simp;omega
 have e0:YT .eql (.d (vt ⟨#[]⟩)) (.d (vt ⟨#[]⟩))=some (Yx true):=by simp[YT,N9]
 rcases(show n=0∨n=1∨n=2∨n=3∨n=4∨n=5 by omega) with rfl | rfl | rfl | rfl | rfl | rfl
 all_goals simp only[eG,go_sem,Z3 S,Z2 S,Nat.reduceLT,Nat.reduceEqDiff,Nat.reduceAdd,Nat.reduceMul,Nat.reduceLeDiff,Int.reduceEq,Int.reduceLT,Int.reduceLE,Int.reduceNeg,reduceCtorEq,Zmv S,hloop,Zlo,ne_eq,not_false_eq_true,e0,gt_iff_lt,Int.reduceTMod,Int.reduceTDiv,Int.reduceMod,Int.reduceAdd,w1,w2,Zmw,TP,Z0e,cellsAt,List.getElem?_cons_zero,List.take_succ_cons,List.take_zero,List.drop_zero,true_and,Nat.le_refl,and_self,N4,Zhj,Zhi,Zq]
 all_goals rfl
theorem NF (dp:Nat)(n:Int)(hn:0<=n/\n<6)(A:List Blk)(nb:Nat)(us:List Nat):Zv false E (Z4 E fn (dp+1)) 39 A nb (some ([vi n],us))=some (.made (.d (vt (S5 n.toNat))) []):=
 Z6.flat (Zkk S dp n hn) (np S 39 (by decide)) (rfl) A nb us
end
end Go.Aug.Mc
