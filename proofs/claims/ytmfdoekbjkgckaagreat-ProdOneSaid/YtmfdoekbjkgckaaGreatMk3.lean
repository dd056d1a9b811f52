import Derived.Test.YtmfdoekbjkgckaaGreatMc39
import Derived.Test.YtmfdoekbjkgckaaGreatMl
import Derived.Test.YtmfdoekbjkgckaaGreatMc3
namespace Go.Aug.Mc
open Go Go.Aug
open Nat renaming reduceLT -> zN0, reduceEqDiff -> zN1, reduceAdd -> zN2, reduceMul -> zN3, reduceLeDiff -> zN4
open Int renaming reduceEq -> zI0, reduceLT -> zI1, reduceLE -> zI2, reduceNeg -> zI3
set_option linter.unusedSimpArgs false
set_option linter.unusedVariables false
set_option maxHeartbeats 40000000
set_option maxRecDepth 200000
theorem Z1o (ps:List (Opd×Opd))(k:K)(tm:List AV)(A:List Blk):HN ps k tm A=bif D9 tm ps then k tm A else none:=id rfl
theorem Z1m (tm:List AV)(p:Opd×Opd)(l:List (Opd×Opd)):D9 tm (p::l)=(H6 (look tm p.1) (look tm p.2)&&D9 tm l):=id rfl
theorem Z1n (tm:List AV):D9 tm []=true:=id rfl
theorem Z1l (i v o j w q:Nat):H6 (.ref i v o) (.ref j w q)= !Nat.beq i j:=id rfl
theorem WW {l:List Int}{k:Nat}(h:k<l.length)(i v:Nat)(A:List Blk)(n:Int):storeAt A i v (k*1) [.d (vi n)] 1 (some (.cells ((rC l).map .d) v false))=some (A.set i (.cells ((rC (l.set k n)).map .d) v false)):=
 M6 (o:=0) (e':=n) [vi n] (List.getElem?_eq_getElem h) rfl rfl rfl rfl (by show 0+1<=1;decide) 1 rfl _ rfl
variable {E:Env} {fn:FuncId->Option (Env->cT->cT)}
section
variable (S:Sur E fn)
include S
theorem EM:E.lives 9 1=none/\E.lives 9 17=none/\E.lives 9 21=none:=⟨off S 9 1 (by decide) rfl,off S 9 17 (by decide) rfl,off S 9 21 (by decide) rfl⟩
theorem Zng (dp:Nat)(p:Prog)(q:List Place)(hql:q.length<=20000)(l:List Int)(how:Int)(kx:Nat->K)(P:Option DV->Prop)
  (hx : ∀ T x y, ZS .bot T 3 = .ref 0 0 0 -> ZS .bot T 6 = .ref 1 0 0 -> ZS .bot T 7 = .ref 2 0 0 -> ZS .bot T 9 = .sref 3 0 0 q.length 1 (some q.length) -> ZS .bot T 10 = .sref 4 0 0 q.length 1 (some q.length) -> (x : List Int).length = q.length -> (y : List Int).length = q.length ->
   P (Zj (kx 0 (mk .bot 80 T) [.cells ((Y1 p).map .d) 0 false,.cells [zi,zi,zi,zi,zn,zn,zi] 0 false,.cells [zi,zi,zi,zi,zn,zn,zi] 0 false,.cells ((rC x).map .d) 0 false,.cells ((rC y).map .d) 0 false]))):
  ∀(m k f:Nat) (x y:List Int),k+m=q.length->m<=f->x.length=q.length->y.length=q.length->
  P (Zj (KV (Zx E 9) (Z4 E fn dp) (Z9 10 KV (Zx E 9) (Z4 E fn dp) kx (ZY 0 [.cell 6 true 7,.cell 7 true 7]) f) kx (ZY 0 [.cell 6 true 7,.cell 7 true 7]) (mk .bot 80 [(1,.d (rD l)),(2,aI how),(3,.ref 0 0 0),(6,.ref 1 0 0),(7,.ref 2 0 0),(8,.d (rD q)),(9,.sref 3 0 0 q.length 1 (some q.length)),(10,.sref 4 0 0 q.length 1 (some q.length)),(25,aI q.length),(26,aI k)])
   [.cells ((Y1 p).map .d) 0 false,.cells [zi,zi,zi,zi,zn,zn,zi] 0 false,.cells [zi,zi,zi,zi,zn,zn,zi] 0 false,.cells ((rC x).map .d) 0 false,.cells ((rC y).map .d) 0 false])):=by
 intro m
 induction m with
 | zero=>
  intro k f x y hk _ hxl hyl
  have hkq:¬(k:Int)<q.length:=by omega
  generalize Z9 10 KV _ _ kx _ f=KK
  first | (conv=>lhs;rw[KV]) | rw[KV]
  simp only[eG,go_sem,Z3 S,Z2 S,zN0,zN1,zN2,zN3,zN4,zI0,zI1,zI2,zI3,reduceCtorEq,EM S,hkq]
  exact hx _ x y rfl rfl rfl rfl rfl hxl hyl
 | succ m ih=>
  intro k f x y hk hf hxl hyl
  obtain⟨z,hzq⟩:=Q4 (show k<q.length by omega)
  obtain⟨f,rfl⟩:∃ g,f=g+1:=⟨f-1,by omega⟩
  have hkq:(k:Int)<q.length:=by omega
  have hkx:k<x.length:=by omega
  have hky:k<y.length:=by omega
  have next:=fun x' y' h1 h2=>ih (k+1) f x' y' (by omega) (by omega) h1 h2
  generalize hK:Z9 10 KV _ _ kx _ (f+1)=KK
  first | (conv=>lhs;rw[KV]) | rw[KV]
  by_cases hl:(k:Int)<l.length
  ·obtain ⟨v, hvl⟩ := Q4 (show k < l.length by omega)
   cases hsec:z.secret with
   | true=>
    simp only[eG,go_sem,Z3 S,Z2 S,zN0,zN1,zN2,zN3,zN4,zI0,zI1,zI2,zI3,reduceCtorEq,EM S,hkq,hl,Zv hvl,Zv hzq,hsec,WW,hkx,hky,List.length_set,Int.natCast_nonneg,Int.toNat_natCast,Int.ofNat_lt,Nat.zero_add,true_and,and_self,and_true,if_true,wi k (by omega)]
    rw[<-hK,Z8 (on S _ _ [1,2,3,6,7,8,9,10,25,26] (by decide) rfl) rfl _ _ _ _ _ _ _ _ _ rfl]
    simp only[eG,go_sem,Z3 S,Z2 S,zN0,zN1,zN2,zN3,zN4,zI0,zI1,zI2,zI3,reduceCtorEq,EM S]
    exact next _ _ (by rw[List.length_set];exact hxl) (by rw[List.length_set,List.length_set];exact hyl)
   | false=>
    by_cases h7:Md.YP how 7=0
    ·simp only [eG, go_sem, Z3 S, Z2 S, zN0, zN1, zN2, zN3, zN4, zI0, zI1, zI2, zI3, reduceCtorEq, EM S, hkq, hl, Zv hvl, Zv hzq, hsec, QD, h7, WW, hkx, hky, List.length_set, Int.natCast_nonneg, Int.toNat_natCast, Int.ofNat_lt, Nat.zero_add, true_and, and_self, and_true, if_true, wi k (by omega)]
     rw[<-hK,Z8 (on S _ _ [1,2,3,6,7,8,9,10,25,26] (by decide) rfl) rfl _ _ _ _ _ _ _ _ _ rfl]
     simp only[eG,go_sem,Z3 S,Z2 S,zN0,zN1,zN2,zN3,zN4,zI0,zI1,zI2,zI3,reduceCtorEq,EM S]
     exact next _ _ (by rw[List.length_set];exact hxl) (by rw[List.length_set,List.length_set];exact hyl)
    ·simp only [eG, go_sem, Z3 S, Z2 S, zN0, zN1, zN2, zN3, zN4, zI0, zI1, zI2, zI3, reduceCtorEq, EM S, hkq, hl, Zv hvl, Zv hzq, hsec, QD, h7, WW, hkx, hky, List.length_set, Int.natCast_nonneg, Int.toNat_natCast, Int.ofNat_lt, Nat.zero_add, true_and, and_self, and_true, if_true, wi k (by omega)]
     rw[<-hK,Z8 (on S _ _ [1,2,3,6,7,8,9,10,25,26] (by decide) rfl) rfl _ _ _ _ _ _ _ _ _ rfl]
     simp only[eG,go_sem,Z3 S,Z2 S,zN0,zN1,zN2,zN3,zN4,zI0,zI1,zI2,zI3,reduceCtorEq,EM S]
     exact next _ _ (by rw[List.length_set];exact hxl) (by rw[List.length_set];exact hyl)
  ·simp only [eG, go_sem, Z3 S, Z2 S, zN0, zN1, zN2, zN3, zN4, zI0, zI1, zI2, zI3, reduceCtorEq, EM S, hkq, hl, wi k (by omega)]
   rw[<-hK,Z8 (on S _ _ [1,2,3,6,7,8,9,10,25,26] (by decide) rfl) rfl _ _ _ _ _ _ _ _ _ rfl]
   simp only[eG,go_sem,Z3 S,Z2 S,zN0,zN1,zN2,zN3,zN4,zI0,zI1,zI2,zI3,reduceCtorEq,EM S]
   exact next x y hxl hyl
theorem Zgw (dp:Nat)(p:Prog)(hms:∀ m ∈ p.mems,0<=m.n/\m.n<=16)(hml:p.mems.length<1000)(l:List Int)(how:Int):
  ∃ s s':State,Z6 E fn (dp+5) 9 [Zz p,rD l,vi how] (.tup [AS s,AS s'])/\SOk (Zk p.mems) s/\SOk (Zk p.mems) s':=by
 obtain⟨hq,hqo,hql⟩:=Z3z S (dp+3) p hms hml
 obtain⟨hq',_,_⟩:=Z3z S (dp+2) p hms hml
 generalize hQ:places p=q at *
 obtain⟨P,hP⟩:∃ P:Option DV->Prop,P=fun o=>∃ s s':State,o=some (.tup [AS s,AS s'])/\SOk (Zk p.mems) s/\SOk (Zk p.mems) s':=⟨_,rfl⟩
 have fin:∀ s s':State,SOk (Zk p.mems) s->SOk (Zk p.mems) s'->P (some (.tup [AS s,AS s'])):=fun s s' h h'=>by rw[hP];exact⟨s,s',rfl,h,h'⟩
 have cP:=fun(A:List Blk) (nb:Nat)=>Z6.deep hq (np S 27 (by decide)) A nb
 simp only[Zz,Y1] at cP
 have key:P (Zj (Z4 E fn (dp+5) 9 [.d (Zz p),.d (rD l),aI how] [])):=by
  clear hP
  show P (Zj (Z4 E fn (dp+4+1) 9 [.d (Zz p),.d (rD l),aI how] []))
  rw[ZK,S.Z7q,ZM,Zcx,ZN _ _ _ _ _ _ _ _ rfl]
  have hmk:=fun nb=>Z5u q.length nb (show q.length<=100000 by omega)
  simp only[eG,go_sem,Z3 S,Z2 S,zN0,zN1,zN2,zN3,zN4,zI0,zI1,zI2,zI3,reduceCtorEq,EM S,cP,Z59,hmk]
  rw[Y9,Z8 (on S _ _ [1,2,3,6,7,8,9,10,25,26] (by decide) rfl) rfl _ _ _ _ _ _ _ _ _ rfl]
  simp only[eG,go_sem,Z3 S,Z2 S,zN0,zN1,zN2,zN3,zN4,zI0,zI1,zI2,zI3,reduceCtorEq,EM S]
  refine Zng S (dp+4) p q hql l how _ P ?_ q.length 0 _ (List.replicate q.length 0) (List.replicate q.length 0) (by omega) (by omega) (by simp) (by simp)
  intro T x y t3 t6 t7 t9 t10 hxl hyl
  obtain⟨s1,h1,o1⟩:=Z3y S dp p hms hml q hq' hqo hql x hxl
  obtain⟨s2,h2,o2⟩:=Z3y S dp p hms hml q hq' hqo hql y hyl
  have hlx:q.length*1<=((rC x).map AV.d).length:=by rw[List.length_map,QN,hxl];exact Nat.le_refl _
  have hly:q.length*1<=((rC y).map AV.d).length:=by rw[List.length_map,QN,hyl];exact Nat.le_refl _
  have htx:∀(A:List Blk) (m:Nat),YM (deep A (m+1)) (((rC x).map AV.d).take (q.length*1))=some (rC x,[]):=fun A m=>by
   rw[List.take_of_length_le (by rw[List.length_map,QN,hxl];exact Nat.le_refl _),Hx]
  have hty:∀(A:List Blk) (m:Nat),YM (deep A (m+1)) (((rC y).map AV.d).take (q.length*1))=some (rC y,[]):=fun A m=>by
   rw[List.take_of_length_le (by rw[List.length_map,QN,hyl];exact Nat.le_refl _),Hx]
  have hfx:DV.lst (rC x) q.length none=rD x:=by unfold rD;rw[hxl]
  have hfy:DV.lst (rC y) q.length none=rD y:=by unfold rD;rw[hyl]
  have hb:=np S 28 (by decide)
  have done:P (some (.tup [AS s1,AS s2])):=fin s1 s2 o1 o2
  simp only[AS,H2] at done h1 h2
  by_cases n0:q.length=0
  ·have ex : x = [] := List.length_eq_zero_iff.1 (by omega)
   have ey:y=[]:=List.length_eq_zero_iff.1 (by omega)
   subst ex ey
   have c1:=fun(A:List Blk) (nb:Nat)=>Z6.deep h1 hb A nb
   have c2:=fun(A:List Blk) (nb:Nat)=>Z6.deep h2 hb A nb
   simp only[Zz,Y1,Zfr] at c1 c2
   have d1:P (some (.tup [AS s1,AS s1])):=fin s1 s1 o1 o1
   simp only[AS,H2] at d1
   simp only[eG,go_sem,Z3 S,Z2 S,zN0,zN1,zN2,zN3,zN4,zI0,zI1,zI2,zI3,reduceCtorEq,EM S,hfx,hfy,htx,hty,hlx,hly,Yk,Option.bind_some,Option.map_some,Z1o,Z1m,Z1n,Z1l,show Nat.beq 1 6=false from rfl,Bool.not_false,t3,t6,t7,t9,t10,n0,c1,c2]
   exact d1
  ·by_cases N0 : Zk p.mems = 0
   ·have m1 : s1.mem = [] := List.length_eq_zero_iff.1 (by have := o1.mem; omega)
    have m2:s2.mem=[]:=List.length_eq_zero_iff.1 (by have:=o2.mem;omega)
    rw[m1,o1.stk] at h1 done
    rw[m2,o2.stk] at h2 done
    have c1:=fun(A:List Blk) (nb:Nat) (us:List Nat)=>Z6.flat h1 hb rfl A nb us
    have c2:=fun(A:List Blk) (nb:Nat) (us:List Nat)=>Z6.flat h2 hb rfl A nb us
    simp only[Zz,Y1] at c1 c2
    simp only[eG,go_sem,Z3 S,Z2 S,zN0,zN1,zN2,zN3,zN4,zI0,zI1,zI2,zI3,reduceCtorEq,EM S,hfx,hfy,htx,hty,hlx,hly,Yk,Option.bind_some,Option.map_some,Z1o,Z1m,Z1n,Z1l,show Nat.beq 1 6=false from rfl,Bool.not_false,t3,t6,t7,t9,t10,n0,c1,c2]
    exact done
   ·have f1:DV.flat 8 (.tup [.agg [vi s1.regs.r0,vi s1.regs.r1,vi s1.regs.r2,vi s1.regs.r3,rD s1.mem,rD s1.stack,vi s1.pc],vb true])=false:=by
     cases hm:s1.mem with
     | nil=>have:=o1.mem;rw[hm] at this;exact absurd this.symm N0
     | cons a l=>rfl
    have f2:DV.flat 8 (.tup [.agg [vi s2.regs.r0,vi s2.regs.r1,vi s2.regs.r2,vi s2.regs.r3,rD s2.mem,rD s2.stack,vi s2.pc],vb true])=false:=by
     cases hm:s2.mem with
     | nil=>have:=o2.mem;rw[hm] at this;exact absurd this.symm N0
     | cons a l=>rfl
    have c1:=fun(A:List Blk) (nb i:Nat) (us:List Nat)=>Z6.used h1 hb f1 A nb i us
    have c2:=fun(A:List Blk) (nb i:Nat) (us:List Nat)=>Z6.used h2 hb f2 A nb i us
    simp only[Zz,Y1] at c1 c2
    simp only[eG,go_sem,Z3 S,Z2 S,zN0,zN1,zN2,zN3,zN4,zI0,zI1,zI2,zI3,reduceCtorEq,EM S,hfx,hfy,htx,hty,hlx,hly,Yk,Option.bind_some,Option.map_some,Z1o,Z1m,Z1n,Z1l,show Nat.beq 1 6=false from rfl,Bool.not_false,t3,t6,t7,t9,t10,n0,c1,c2]
    exact done
 rw[hP] at key
 obtain⟨s,s',h1,h2,h3⟩:=key
 exact⟨s,s',h1,h2,h3⟩
theorem Zgx (dp:Nat)(p:Prog)(hms:∀ m ∈ p.mems,0<=m.n/\m.n<=16)(hml:p.mems.length<1000)(l:List Int):
  ∃ s s':State,Z6 E fn (dp+5) 9 [Zz p,rD l,vi 1] (.tup [AS s,AS s'])/\SOk (Zk p.mems) s/\SOk (Zk p.mems) s':=Zgw S dp p hms hml l 1
end
theorem Zmm (l:List Int):∀ m ∈ (Md.make l).mems,0<=m.n/\m.n<=16:=by
 intro m hm
 have hm:m ∈ Md.JA l (Md.Zq l):=hm
 have h1:∀ m ∈ Md.Bq l (Md.Zq l),0<=m.n/\m.n<=16:=by
  intro m hm
  unfold Md.Bq at hm
  split at hm
  ·simp only [List.mem_singleton] at hm
   subst hm
   split<;>simp
  ·simp at hm
 unfold Md.JA at hm
 split at hm
 ·rcases List.mem_append.1 hm with hm | hm
  ·exact h1 m hm
  ·simp only [List.mem_singleton] at hm
   subst hm;simp
 ·exact h1 m hm
theorem Zmn (l:List Int):(Md.make l).mems.length<1000:=by
 show(Md.JA l (Md.Zq l)).length<1000
 have h1:(Md.Bq l (Md.Zq l)).length<=1:=by unfold Md.Bq;split<;>simp
 unfold Md.JA
 split
 ·simp;omega
 ·omega
theorem Zmo (l:List Int):(Md.make l).ins.length<1000:=by
 show((List.range (Md.nM l)).map _).length<1000
 obtain⟨r,h1,h2⟩:=Md.MR (Md.ZZ (Md.kM l 0) 12)
 rw[List.length_map,List.length_range]
 unfold Md.nM
 rw[h2,Int.toNat_natCast];omega
theorem Zml (l:List Int):Md.JN (Md.make l).w=true:=by
 obtain⟨r,h1,h2⟩:=Md.Z73 (Md.kM l 0)
 show Md.JN (Md.YP (Md.kM l 0) 1+1)=true
 rw[h2];exact Md.V0.2 ⟨by omega,by omega⟩
theorem K0 (x:Int)(n:Nat)(h:n<=63):Q5 .shr (.d (.v (.int .i64 x))) (.d (.v (.int .u64 (n:Int))))=some (aI (Md.ZZ x n)):=by
 rw[Z2j _ _ _ _ (Int.natCast_nonneg n),Int.toNat_natCast,Nat.min_eq_left (by show n<=64;omega)];rfl
theorem F5 (x:Int):Q5 .shr (.d (.v (.int .i64 x))) (.d (.v (.int .u64 1)))=some (aI (Md.ZZ x 1)):=K0 x 1 (by decide)
theorem EF (x:Int):Q5 .shr (.d (.v (.int .i64 x))) (.d (.v (.int .u64 8)))=some (aI (Md.ZZ x 8)):=K0 x 8 (by decide)
theorem F4 (x:Int):Q5 .shr (.d (.v (.int .i64 x))) (.d (.v (.int .u64 10)))=some (aI (Md.ZZ x 10)):=K0 x 10 (by decide)
theorem Zgm (x:Int):Q5 .shr (.d (.v (.int .i64 x))) (.d (.v (.int .u64 11)))=some (aI (Md.ZZ x 11)):=K0 x 11 (by decide)
theorem F3 (x:Int):Q5 .shr (.d (.v (.int .i64 x))) (.d (.v (.int .u64 12)))=some (aI (Md.ZZ x 12)):=K0 x 12 (by decide)
theorem Zgl (x:Int):Q5 .shr (.d (.v (.int .i64 x))) (.d (.v (.int .u64 14)))=some (aI (Md.ZZ x 14)):=K0 x 14 (by decide)
theorem Zgk (x:Int):Q5 .shr (.d (.v (.int .i64 x))) (.d (.v (.int .u64 16)))=some (aI (Md.ZZ x 16)):=K0 x 16 (by decide)
theorem Zgj (x:Int):Q5 .shr (.d (.v (.int .i64 x))) (.d (.v (.int .u64 18)))=some (aI (Md.ZZ x 18)):=K0 x 18 (by decide)
theorem lm (x:Int)(n:Nat)(h:0<n):Q5 .rem (aI (Md.YP x 255)) (aI (n:Int))=some (aI (Md.YV x n:Nat)):=by
 rw[Z2k _ _ _ (by omega),Md.Zn3]
theorem Znn (x:Int):Q5 .rem (aI (Md.YP x 255)) (aI 18)=some (aI (Md.YV x 18:Nat)):=lm x 18 (by decide)
theorem Zno (x:Int):Q5 .rem (aI (Md.YP x 255)) (aI 10)=some (aI (Md.YV x 10:Nat)):=lm x 10 (by decide)
theorem FB (x:Int):Q5 .rem (aI (Md.YP x 255)) (aI 3)=some (aI (Md.YV x 3:Nat)):=lm x 3 (by decide)
theorem Z0y {l:List Int}{i:Nat}(h:i<l.length)(n:Nat)(hn:n=l.length)(cs:List DV)(hc:cs=rC l):ES (.d (.lst cs n (some n))) (aI (i:Int)) 1=some (.d (.vptr (vi (l.getD i 0)::rC (l.drop (i+1))))):=by
 subst hn hc
 have:=Z6t h (s:=1) rfl (some l.length) .i64
 rw[List.getD_eq_getElem?_getD,List.getElem?_eq_getElem h]
 exact this
theorem Zo3 (x:Int):ES (.d (.lst [vi 1,vi 1,vi 2,vi 2,vi 2,vi 3,vi 3,vi 4,vi 5,vi 5,vi 5,vi 6,vi 7,vi 8,vi 9,vi 10,vi 11,vi 1] 18 (some 18))) (aI (Md.YV x 18:Nat)) 1=some (.d (.vptr (vi (Md.MK.getD (Md.YV x 18) 0)::rC (Md.MK.drop (Md.YV x 18+1))))):=
 Z0y (l:=Md.MK) (Md.RE x (by decide)) 18 rfl _ rfl
theorem Zo2 (x:Int):ES (.d (.lst [vi 9,vi 10,vi 3,vi 2] 4 (some 4))) (aI (Md.YP x 3)) 1=some (.d (.vptr (vi (Md.o4.getD (Md.YP x 3).toNat 0)::rC (Md.o4.drop ((Md.YP x 3).toNat+1))))):=by
 obtain⟨r,hr,h⟩:=Md.MR x
 rw[h,Int.toNat_natCast]
 exact Z0y (l:=Md.o4) hr 4 rfl _ rfl
theorem Zft (x:Int):IntKind.i64.wrap ((Md.YV x 10:Nat)+1)=(Md.YV x 10:Nat)+1:=by
 have:=Md.RE x (show 0<10 by decide)
 exact YY (by omega) (by omega)
theorem Znm (x:Int)(n:Nat):Q5 .rem (aI (Md.YP x 255)) (aI ((n:Int)+1))=some (aI (Md.YV x (n+1):Nat)):=by
 have:=lm x (n+1) (by omega)
 rw[Int.natCast_add] at this
 exact this
theorem Kz (ps:List (Opd×Opd))(k:K)(tm:List AV)(A:List Blk):HN ps k tm A=bif D9 tm ps then k tm A else none:=id rfl
theorem Kx (tm:List AV):D9 tm []=true:=id rfl
theorem Zpu (tm:List AV)(a b:Opd)(l:List (Opd×Opd)):D9 tm ((a,b)::l)=(H6 (look tm a) (look tm b)&&D9 tm l):=id rfl
theorem Zpt (i v o j w q:Nat):H6 (.ref i v o) (.ref j w q)= !decide (i=j):=by
 show(!Nat.beq i j)=_
 by_cases h:i=j
 ·subst h
  have:Nat.beq i i=true:=Nat.beq_refl i
  rw[this];simp
 ·have:Nat.beq i j=false:=by
   cases hb:Nat.beq i j with
   | false=>rfl
   | true=>exact absurd (Nat.eq_of_beq_eq_true hb) h
  rw[this,decide_eq_false h]
variable {E:Env} {fn:FuncId->Option (Env->cT->cT)}
section
variable (S:Sur E fn)
include S
theorem Z56:E.lives 51 7=none:=off S 51 7 (by decide) rfl
theorem Z57:E.lives 24 7=none:=off S 24 7 (by decide) rfl
theorem Zlf:E.lives 26 13=none/\E.lives 26 17=none/\E.lives 26 19=none/\E.lives 26 21=none/\E.lives 26 25=none/\E.lives 26 29=none/\E.lives 26 31=none/\E.lives 26 35=none:=⟨off S 26 13 (by decide) rfl,off S 26 17 (by decide) rfl,off S 26 19 (by decide) rfl,off S 26 21 (by decide) rfl,off S 26 25 (by decide) rfl,off S 26 29 (by decide) rfl,off S 26 31 (by decide) rfl,off S 26 35 (by decide) rfl⟩
theorem Zhn (dp:Nat)(n:Int):Z6 E fn (dp+1) 51 [vi n] (.agg (Cl.cells (Md.H0 n))):=by
 unfold Z6
 show Zj (Z4 E fn (dp+1) 51 [.d (vi n)] [])=_
 rw[ZK,S.Z7r,ZM,Zcy,ZN _ _ _ _ _ _ _ _ rfl]
 by_cases h:Md.YP n 4=0
 ·simp only[eG,go_sem,Z3 S,Z2 S,zN0,zN1,zN2,zN3,zN4,zI0,zI1,zI2,zI3,reduceCtorEq,Z56 S,QD,h,Md.H0]
 ·simp only[eG,go_sem,Z3 S,Z2 S,zN0,zN1,zN2,zN3,zN4,zI0,zI1,zI2,zI3,reduceCtorEq,Z56 S,QD,h,Md.H0]
theorem Zql (dp:Nat)(n:Int)(A:List Blk)(nb:Nat)(us:List Nat):ZC false E (Z4 E fn (dp+1)) 51 A nb (some ([vi n],us))=some (.made (.d (.agg (Cl.cells (Md.H0 n)))) []):=
 Z6.flat (Zhn S dp n ) (np S 51 (by decide)) (rfl) A nb us
theorem Zhp (dp:Nat)(i:Int)(l:List Int)(h0:0<=i):Z6 E fn (dp+1) 24 [vi i,.vptr [rD l]] (vi (Md.kM l i)):=by
 unfold Z6
 show Zj (Z4 E fn (dp+1) 24 [.d (vi i),.d (.vptr [rD l])] [])=_
 rw[ZK,S.Z7t,ZM,Zd0,ZN _ _ _ _ _ _ _ _ rfl]
 by_cases h:i<l.length
 ·obtain ⟨e, he⟩ := Q4 (show i.toNat < l.length by omega)
  simp only[eG,go_sem,Z3 S,Z2 S,zN0,zN1,zN2,zN3,zN4,zI0,zI1,zI2,zI3,reduceCtorEq,Z57 S,h,DX h0 he,he,Option.getD_some,Md.kM]
 ·simp only[eG,go_sem,Z3 S,Z2 S,zN0,zN1,zN2,zN3,zN4,zI0,zI1,zI2,zI3,reduceCtorEq,Z57 S,h,Md.kM,List.getElem?_eq_none (show l.length<=i.toNat by omega),Option.getD_none]
theorem QH (dp:Nat)(i:Int)(l:List Int)(h0:0<=i)(A:List Blk)(nb:Nat)(us:List Nat):ZC false E (Z4 E fn (dp+1)) 24 A nb (some ([vi i,.vptr [rD l]],us))=some (.made (.d (vi (Md.kM l i))) []):=
 Z6.flat (Zhp S dp i l h0) (np S 24 (by decide)) (rfl) A nb us
theorem Zho (dp:Nat)(x:Int)(n:Nat)(hn:n<1000):Z6 E fn (dp+2) 26 [vi x,vi (n:Nat)] (.agg (Cl.cells (Md.AA x n))):=by
 unfold Z6
 show Zj (Z4 E fn (dp+1+1) 26 [.d (vi x),.d (vi (n:Nat))] [])=_
 rw[ZK,S.Z7s,ZM,Zcz,ZN _ _ _ _ _ _ _ _ rfl]
 have hw:IntKind.i64.wrap ((n:Int)+1)=(n:Int)+1:=YY (by omega) (by omega)
 have hi:Md.AA x n=Md.AA x n:=rfl
 unfold Md.AA
 have r18:∀ {α:Type} (l:List α),rep l 18=l++(l++(l++(l++(l++(l++(l++(l++(l++(l++(l++(l++(l++(l++(l++(l++(l++l)))))))))))))))):=fun l=>by simp[rep]
 have r4:∀ {α:Type} (l:List α),rep l 4=l++(l++(l++l)):=fun l=>by simp[rep]
 simp only[eG,go_sem,Z3 S,Z2 S,zN0,zN1,zN2,zN3,zN4,zI0,zI1,zI2,zI3,reduceCtorEq,Zlf S,EF,Zgm,Zgl,Zgk,Zgj,QD,Znn,Zno,Znm,Zo3,Zo2,hw,Zft,Zql S,r18,r4,Kz,Kx,Zpu,Zpt,Md.v0]
 generalize Md.MK.getD (Md.YV x 18) 0=k
 by_cases k1:k=1
 ·simp only[k1,decide_true,cond_true,if_true]
 by_cases k2:k=2
 ·simp only[k2,decide_true,decide_false,cond_true,cond_false,if_true,if_false,zI0,true_or,or_true]
 by_cases k3:k=3
 ·simp only[k3,decide_true,decide_false,cond_true,cond_false,if_true,if_false,zI0,true_or,or_true]
 by_cases k4:k=4
 ·simp only[k4,decide_true,decide_false,cond_true,cond_false,if_true,if_false,zI0,true_or,or_true,or_false]
 by_cases k5:k=5
 ·simp only[k5,decide_true,decide_false,cond_true,cond_false,if_true,if_false,zI0,true_or,or_true,or_false]
 by_cases k6:k=6
 ·simp only[k6,decide_true,decide_false,cond_true,cond_false,if_true,if_false,zI0,true_or,or_true,or_false]
 by_cases k8:k=8
 ·simp only[k8,decide_true,decide_false,cond_true,cond_false,if_true,if_false,zI0,true_or,or_true,or_false]
 by_cases k7:k=7
 ·simp only[k7,decide_true,decide_false,cond_true,cond_false,if_true,if_false,zI0,true_or,or_true,or_false]
 simp only[k1,k2,k3,k4,k5,k6,k7,k8,decide_false,cond_false,if_false,or_false]
theorem N3 (dp:Nat)(x:Int)(n:Nat)(hn:n<1000)(A:List Blk)(nb:Nat)(us:List Nat):ZC false E (Z4 E fn (dp+2)) 26 A nb (some ([vi x,vi (n:Nat)],us))=some (.made (.d (.agg (Cl.cells (Md.AA x n)))) []):=
 Z6.flat (Zho S dp x n hn) (np S 26 (by decide)) (rfl) A nb us
end
def RN (n:Nat):ByteArray:=⟨#[(48+n).toUInt8]⟩
theorem Zlk (r:Bool)(x:Opd)(E:Env)(call:cT)(tm:List AV)(A:List Blk)(nb:Nat):Mz r x E call tm A nb=one? (T8 A r (look tm x)):=id rfl
theorem Z3j (a b:ByteArray)(h:a.size+b.size<=1099511627776):Q5 .add (.d (vt a)) (.d (vt b))=some (.d (vt (a++b))):=by
 show(MU .add a b).map _=_
 simp[MU,h]
theorem dg (z:Int):Nj [z]++(⟨#[]⟩:ByteArray)=⟨#[UInt8.ofNat z.toNat]⟩:=by
 have:(⟨#[]⟩:ByteArray)=ByteArray.empty:=rfl
 rw[this,ByteArray.append_empty]
 rfl
theorem Zg2 (z:Int):Q5 .add (.d (vt (Nj [z]))) (.d (vt ⟨#[]⟩))=some (.d (vt ⟨#[UInt8.ofNat z.toNat]⟩)):=by
 rw[Z3j _ _ (by rw[<-ByteArray.size_append,dg];show(1:Nat)<=_;decide),dg]
theorem Zg1 (z:UInt8):Q5 .eql (.d (vt ⟨#[z]⟩)) (.d (vt ⟨#[]⟩))=some (YA false):=by
 simp[Q5,MU]
theorem Zk7 (E:Env)(call:cT)(kn:K)(kx:Nat->K)(kr:K)(tm:List AV)(A:List Blk):U5 E call kn kx kr tm A=(cQ (cQ (Z1 [st 6 (oV (.t 0)),st 7 (oB .gtr (.t 6) (ci 0)),st 8 (oV (.t 7)),sg 9 8 false (oV (.t 3)),sg 10 8 false (oB .eql (.t 9) (.c (.v (.string ⟨#[]⟩)))),st 11 (YR (.t 8) (.c (.v (.bool true))) (.t 10))]) (cJ 1 (.t 11) (cK) (QC 0))) (ZT 1 (cQ (Z1 [st 12 (oV (.t 0)),st 13 (oB .rem (.t 12) (ci 10)),st 14 (oB .add (ci 48) (.t 13)),st 15 (GF .u8 (.t 14)),st 16 (YJ (rep [.d (.v (.int .u8 0))] 1) 1 1 [(0,1,(.t 15))]),st 17 (Mz false (.t 16)),st 18 (oV (.t 3)),st 19 (oB .add (.t 17) (.t 18)),st 3 (oV (.t 19))]) (Z1 [st 20 (oV (.t 0)),st 21 (oB .quo (.t 20) (ci 10)),st 0 (oV (.t 21))])))) E call kn kx kr tm A:=id rfl
variable {E:Env} {fn:FuncId->Option (Env->cT->cT)}
section
variable (S:Sur E fn)
include S
theorem Zlg:E.lives 25 1=none/\E.lives 25 7=none:=⟨off S 25 1 (by decide) rfl,off S 25 7 (by decide) rfl⟩
theorem Zj4 (dp:Nat)(n:Int)(hn:0<=n/\n<6):Z6 E fn (dp+1) 25 [vi n] (vt (RN n.toNat)):=by
 unfold Z6
 show Zj (Z4 E fn (dp+1) 25 [.d (vi n)] [])=_
 rw[ZK,S.Z9h,ZM,Zen,ZN _ _ _ _ _ _ _ _ rfl]
 have hloop:∀ kx kr m d T A,Z9 10 U5 (Zx E 25) (Z4 E fn dp) kx kr (m+1) (mk d 23 T) A=Z0f (U5 (Zx E 25) (Z4 E fn dp) (Z9 10 U5 (Zx E 25) (Z4 E fn dp) kx kr m) kx kr) 23 [0,3] d T A (Q8 A 0 100000 ([0,3].flatMap fun t=>YW 8 (ZS d T t)) []):=fun kx kr m d T A=>Z8 (on S _ _ [0,3] (by decide) rfl) rfl _ _ _ _ _ _ _ _ _ rfl
 have w1:∀ z:Int,0<=z->z<100->IntKind.i64.wrap z=z:=fun z h1 h2=>YY (by omega) (by omega)
 have w2:∀ z:Int,0<=z->z<100->IntKind.u8.wrap z=z:=fun z h1 h2=>by simp only[IntKind.wrap,IntKind.signed,IntKind.bits];simp;omega
 have e0:Q5 .eql (.d (vt ⟨#[]⟩)) (.d (vt ⟨#[]⟩))=some (YA true):=by simp[Q5,MU]
 rcases(show n=0∨n=1∨n=2∨n=3∨n=4∨n=5 by omega) with rfl | rfl | rfl | rfl | rfl | rfl
 all_goals simp only[eG,go_sem,Z3 S,Z2 S,Nat.reduceLT,Nat.reduceEqDiff,Nat.reduceAdd,Nat.reduceMul,Nat.reduceLeDiff,Int.reduceEq,Int.reduceLT,Int.reduceLE,Int.reduceNeg,reduceCtorEq,Zlg S,hloop,Zk7,ne_eq,not_false_eq_true,e0,gt_iff_lt,Int.reduceTMod,Int.reduceTDiv,Int.reduceMod,Int.reduceAdd,w1,w2,Zlk,T8,XN,cellsAt,List.getElem?_cons_zero,List.take_succ_cons,List.take_zero,List.drop_zero,true_and,Nat.le_refl,and_self,MN,Zg2,Zg1,Z7]
 all_goals rfl
theorem N6 (dp:Nat)(n:Int)(hn:0<=n/\n<6)(A:List Blk)(nb:Nat)(us:List Nat):ZC false E (Z4 E fn (dp+1)) 25 A nb (some ([vi n],us))=some (.made (.d (vt (RN n.toNat))) []):=
 Z6.flat (Zj4 S dp n hn) (np S 25 (by decide)) (rfl) A nb us
end
theorem C1 (x:Int):Q5 .shr (.d (.v (.int .i64 x))) (.d (.v (.int .u64 0)))=some (aI (Md.ZZ x 0)):=K0 x 0 (by decide)
theorem C5 (x:Int):x.fdiv (2^min 0 64)=Md.ZZ x 0:=by rw[Nat.min_eq_left (by decide)];rfl
theorem C4 (x:Int):x.fdiv (2^min 2 64)=Md.ZZ x 2:=by rw[Nat.min_eq_left (by decide)];rfl
theorem C3 (x:Int):x.fdiv (2^min 4 64)=Md.ZZ x 4:=by rw[Nat.min_eq_left (by decide)];rfl
theorem C2 (x:Int):x.fdiv (2^min 6 64)=Md.ZZ x 6:=by rw[Nat.min_eq_left (by decide)];rfl
theorem Ck (x:Int):ES (.d (.lst [vi 0,vi 0,vi 1,vi 2] 4 (some 4))) (aI (Md.YP x 3)) 1=some (.d (.vptr (vi (Md.r4.getD (Md.YP x 3).toNat 0)::rC (Md.r4.drop ((Md.YP x 3).toNat+1))))):=by
 obtain⟨r,hr,h⟩:=Md.MR x
 rw[h,Int.toNat_natCast]
 exact Z0y (l:=Md.r4) hr 4 rfl _ rfl
theorem QF (E:Env)(l:Nat->Option (List Nat))(m:Nat)(call:cT)(tm:List AV)(A:List Blk)(nb:Nat)(g:FuncId)(args:List Opd)(cap:List AV)(h:Yj g E.br=false):
  Z1t { br:=E.br,th:=E.th,prim:=E.prim,back:=E.back,lives:=E.lives,live:=l,nb0:=m } call tm A nb args (.fn (.func g) cap)=ZC (Yj g E.th || HB (l (ED g))) E call g A nb (T7 (YM (deep A 8) (args.map (look tm)++cap))):=
 Zam E l m call A nb g _ h
def Zb5 (A:List Blk)(n i:Nat):Option (List AV)->Option (DV×List Nat)
 | some cs=>(YM (deep A n) cs).map fun r=>(.vptr r.1,i::r.2)
 | none=>none
theorem Qj (A:List Blk)(n i v o:Nat):deep A (n+1) (.ref i v o)=Zb5 A n i (cellsAt A i v o):=by
 show(match cellsAt A i v o with | some cs=>_ | none=>none)=_
 cases cellsAt A i v o<;>rfl
theorem QG (A:List Blk)(n i:Nat)(cs:List AV):Zb5 A n i (some cs)=(YM (deep A n) cs).map fun r=>(.vptr r.1,i::r.2):=id rfl
variable {E:Env} {fn:FuncId->Option (Env->cT->cT)}
section
variable (S:Sur E fn)
include S
theorem QE:E.lives 8 1=none/\E.lives 8 23=none/\E.lives 8 27=none/\E.lives 8 31=none/\E.lives 8 35=none/\E.lives 8 39=none:=⟨off S 8 1 (by decide) rfl,off S 8 23 (by decide) rfl,off S 8 27 (by decide) rfl,off S 8 31 (by decide) rfl,off S 8 35 (by decide) rfl,off S 8 39 (by decide) rfl⟩
theorem Zg7 (dp:Nat)(l:List Int)(kx:Nat->K)(kr:K)(f:Nat)(W wn pub sec r0 r1 r2 r3 r:Int)(hr:Md.r4.getD (Md.YP (Md.ZZ (Md.kM l 1) 0) 3).toNat 0=r):
  J8 (Zx E 8) (Z4 E fn (dp+1)) (Z9 12 J8 (Zx E 8) (Z4 E fn (dp+1)) kx kr (f+1)) kx kr (mk .bot 171 [(2,.ref 0 0 0),(3,.fn (.func 24) [.ref 1 0 0]),(4,.ref 2 0 0),(5,aI pub),(6,aI sec),(7,aI 0)]) [.cells [zi,zi,zi,zi,zi,zi,zi,zn,zn,zn] 0 false,.cells [.d (rD l)] 0 false,.cells [aI W,aI wn,aI 6,aI r0,aI r1,aI r2,aI r3,zn,zn,zn] 0 false]=
  J8 (Zx E 8) (Z4 E fn (dp+1)) (Z9 12 J8 (Zx E 8) (Z4 E fn (dp+1)) kx kr f) kx kr (mk .bot 171 [(2,.ref 0 0 0),(3,.fn (.func 24) [.ref 1 0 0]),(4,.ref 2 0 0),(5,aI (Md.J0 W pub sec r).2.1),(6,aI (Md.J0 W pub sec r).2.2),(7,aI 1)]) [.cells [zi,zi,zi,zi,zi,zi,zi,zn,zn,zn] 0 false,.cells [.d (rD l)] 0 false,.cells [aI W,aI wn,aI 6,aI (Md.J0 W pub sec r).1,aI r1,aI r2,aI r3,zn,zn,zn] 0 false]:=by
 have w1:∀ z:Int,0<=z->z<100->IntKind.i64.wrap z=z:=fun z h1 h2=>YY (by omega) (by omega)
 have w2:∀ z:Int,0<=z->z<100->IntKind.u64.wrap z=z:=fun z h1 h2=>PQ (by omega) (by omega)
 have r4':∀ {α:Type} (l:List α),rep l 4=l++(l++(l++l)):=fun l=>by simp[rep]
 generalize hK:Z9 12 J8 _ _ kx kr (f+1)=KK
 first | (conv=>lhs;rw[J8]) | rw[J8]
 by_cases c1:r=1
 ·by_cases c2 : IntKind.i64.wrap (pub + W) <= 2
  ·simp only [eG, go_sem, Z3 S, Z2 S, zN0, zN1, zN2, zN3, zN4, zI0, zI1, zI2, zI3, reduceCtorEq, QE S, Qj, QG, QF, w1, w2, r4', QH S, C1, C5, C4, C3, C2, QD, Ck, Int.reduceMul, Int.reduceAdd, Int.toNat_zero, Int.reduceToNat, zI1, zI2, Int.cast_ofNat_Int, false_and, Md.J0, Md.QT, and_true, true_and, and_self, hr, c1, c2]
   rw[<-hK,Z8 (on S _ _ [2,3,4,5,6,7] (by decide) rfl) rfl _ _ _ _ _ _ _ _ _ rfl]
   simp only[eG,go_sem,Z3 S,Z2 S,zN0,zN1,zN2,zN3,zN4,zI0,zI1,zI2,zI3,reduceCtorEq,QE S]
  ·simp only [eG, go_sem, Z3 S, Z2 S, zN0, zN1, zN2, zN3, zN4, zI0, zI1, zI2, zI3, reduceCtorEq, QE S, Qj, QG, QF, w1, w2, r4', QH S, C1, C5, C4, C3, C2, QD, Ck, Int.reduceMul, Int.reduceAdd, Int.toNat_zero, Int.reduceToNat, zI1, zI2, Int.cast_ofNat_Int, false_and, Md.J0, Md.QT, and_true, true_and, and_self, hr, c1, c2]
   rw[<-hK,Z8 (on S _ _ [2,3,4,5,6,7] (by decide) rfl) rfl _ _ _ _ _ _ _ _ _ rfl]
   simp only[eG,go_sem,Z3 S,Z2 S,zN0,zN1,zN2,zN3,zN4,zI0,zI1,zI2,zI3,reduceCtorEq,QE S]
 ·by_cases c3 : r = 2
  ·by_cases c4 : IntKind.i64.wrap (sec + W) <= 2
   ·simp only [eG, go_sem, Z3 S, Z2 S, zN0, zN1, zN2, zN3, zN4, zI0, zI1, zI2, zI3, reduceCtorEq, QE S, Qj, QG, QF, w1, w2, r4', QH S, C1, C5, C4, C3, C2, QD, Ck, Int.reduceMul, Int.reduceAdd, Int.toNat_zero, Int.reduceToNat, zI1, zI2, Int.cast_ofNat_Int, false_and, Md.J0, Md.QT, and_true, true_and, and_self, hr, c1, c3, c4]
    rw[<-hK,Z8 (on S _ _ [2,3,4,5,6,7] (by decide) rfl) rfl _ _ _ _ _ _ _ _ _ rfl]
    simp only[eG,go_sem,Z3 S,Z2 S,zN0,zN1,zN2,zN3,zN4,zI0,zI1,zI2,zI3,reduceCtorEq,QE S]
   ·simp only [eG, go_sem, Z3 S, Z2 S, zN0, zN1, zN2, zN3, zN4, zI0, zI1, zI2, zI3, reduceCtorEq, QE S, Qj, QG, QF, w1, w2, r4', QH S, C1, C5, C4, C3, C2, QD, Ck, Int.reduceMul, Int.reduceAdd, Int.toNat_zero, Int.reduceToNat, zI1, zI2, Int.cast_ofNat_Int, false_and, Md.J0, Md.QT, and_true, true_and, and_self, hr, c1, c3, c4]
    rw[<-hK,Z8 (on S _ _ [2,3,4,5,6,7] (by decide) rfl) rfl _ _ _ _ _ _ _ _ _ rfl]
    simp only[eG,go_sem,Z3 S,Z2 S,zN0,zN1,zN2,zN3,zN4,zI0,zI1,zI2,zI3,reduceCtorEq,QE S]
  ·simp only [eG, go_sem, Z3 S, Z2 S, zN0, zN1, zN2, zN3, zN4, zI0, zI1, zI2, zI3, reduceCtorEq, QE S, Qj, QG, QF, w1, w2, r4', QH S, C1, C5, C4, C3, C2, QD, Ck, Int.reduceMul, Int.reduceAdd, Int.toNat_zero, Int.reduceToNat, zI1, zI2, Int.cast_ofNat_Int, false_and, Md.J0, Md.QT, and_true, true_and, and_self, hr, c1, c3]
   rw[<-hK,Z8 (on S _ _ [2,3,4,5,6,7] (by decide) rfl) rfl _ _ _ _ _ _ _ _ _ rfl]
   simp only[eG,go_sem,Z3 S,Z2 S,zN0,zN1,zN2,zN3,zN4,zI0,zI1,zI2,zI3,reduceCtorEq,QE S]
theorem Zg6 (dp:Nat)(l:List Int)(kx:Nat->K)(kr:K)(f:Nat)(W wn pub sec r0 r1 r2 r3 r:Int)(hr:Md.r4.getD (Md.YP (Md.ZZ (Md.kM l 1) 2) 3).toNat 0=r):
  J8 (Zx E 8) (Z4 E fn (dp+1)) (Z9 12 J8 (Zx E 8) (Z4 E fn (dp+1)) kx kr (f+1)) kx kr (mk .bot 171 [(2,.ref 0 0 0),(3,.fn (.func 24) [.ref 1 0 0]),(4,.ref 2 0 0),(5,aI pub),(6,aI sec),(7,aI 1)]) [.cells [zi,zi,zi,zi,zi,zi,zi,zn,zn,zn] 0 false,.cells [.d (rD l)] 0 false,.cells [aI W,aI wn,aI 6,aI r0,aI r1,aI r2,aI r3,zn,zn,zn] 0 false]=
  J8 (Zx E 8) (Z4 E fn (dp+1)) (Z9 12 J8 (Zx E 8) (Z4 E fn (dp+1)) kx kr f) kx kr (mk .bot 171 [(2,.ref 0 0 0),(3,.fn (.func 24) [.ref 1 0 0]),(4,.ref 2 0 0),(5,aI (Md.J0 W pub sec r).2.1),(6,aI (Md.J0 W pub sec r).2.2),(7,aI 2)]) [.cells [zi,zi,zi,zi,zi,zi,zi,zn,zn,zn] 0 false,.cells [.d (rD l)] 0 false,.cells [aI W,aI wn,aI 6,aI r0,aI (Md.J0 W pub sec r).1,aI r2,aI r3,zn,zn,zn] 0 false]:=by
 have w1:∀ z:Int,0<=z->z<100->IntKind.i64.wrap z=z:=fun z h1 h2=>YY (by omega) (by omega)
 have w2:∀ z:Int,0<=z->z<100->IntKind.u64.wrap z=z:=fun z h1 h2=>PQ (by omega) (by omega)
 have r4':∀ {α:Type} (l:List α),rep l 4=l++(l++(l++l)):=fun l=>by simp[rep]
 generalize hK:Z9 12 J8 _ _ kx kr (f+1)=KK
 first | (conv=>lhs;rw[J8]) | rw[J8]
 by_cases c1:r=1
 ·by_cases c2 : IntKind.i64.wrap (pub + W) <= 2
  ·simp only [eG, go_sem, Z3 S, Z2 S, zN0, zN1, zN2, zN3, zN4, zI0, zI1, zI2, zI3, reduceCtorEq, QE S, Qj, QG, QF, w1, w2, r4', QH S, C1, C5, C4, C3, C2, QD, Ck, Int.reduceMul, Int.reduceAdd, Int.toNat_zero, Int.reduceToNat, zI1, zI2, Int.cast_ofNat_Int, false_and, Md.J0, Md.QT, and_true, true_and, and_self, hr, c1, c2]
   rw[<-hK,Z8 (on S _ _ [2,3,4,5,6,7] (by decide) rfl) rfl _ _ _ _ _ _ _ _ _ rfl]
   simp only[eG,go_sem,Z3 S,Z2 S,zN0,zN1,zN2,zN3,zN4,zI0,zI1,zI2,zI3,reduceCtorEq,QE S]
  ·simp only [eG, go_sem, Z3 S, Z2 S, zN0, zN1, zN2, zN3, zN4, zI0, zI1, zI2, zI3, reduceCtorEq, QE S, Qj, QG, QF, w1, w2, r4', QH S, C1, C5, C4, C3, C2, QD, Ck, Int.reduceMul, Int.reduceAdd, Int.toNat_zero, Int.reduceToNat, zI1, zI2, Int.cast_ofNat_Int, false_and, Md.J0, Md.QT, and_true, true_and, and_self, hr, c1, c2]
   rw[<-hK,Z8 (on S _ _ [2,3,4,5,6,7] (by decide) rfl) rfl _ _ _ _ _ _ _ _ _ rfl]
   simp only[eG,go_sem,Z3 S,Z2 S,zN0,zN1,zN2,zN3,zN4,zI0,zI1,zI2,zI3,reduceCtorEq,QE S]
 ·by_cases c3 : r = 2
  ·by_cases c4 : IntKind.i64.wrap (sec + W) <= 2
   ·simp only [eG, go_sem, Z3 S, Z2 S, zN0, zN1, zN2, zN3, zN4, zI0, zI1, zI2, zI3, reduceCtorEq, QE S, Qj, QG, QF, w1, w2, r4', QH S, C1, C5, C4, C3, C2, QD, Ck, Int.reduceMul, Int.reduceAdd, Int.toNat_zero, Int.reduceToNat, zI1, zI2, Int.cast_ofNat_Int, false_and, Md.J0, Md.QT, and_true, true_and, and_self, hr, c1, c3, c4]
    rw[<-hK,Z8 (on S _ _ [2,3,4,5,6,7] (by decide) rfl) rfl _ _ _ _ _ _ _ _ _ rfl]
    simp only[eG,go_sem,Z3 S,Z2 S,zN0,zN1,zN2,zN3,zN4,zI0,zI1,zI2,zI3,reduceCtorEq,QE S]
   ·simp only [eG, go_sem, Z3 S, Z2 S, zN0, zN1, zN2, zN3, zN4, zI0, zI1, zI2, zI3, reduceCtorEq, QE S, Qj, QG, QF, w1, w2, r4', QH S, C1, C5, C4, C3, C2, QD, Ck, Int.reduceMul, Int.reduceAdd, Int.toNat_zero, Int.reduceToNat, zI1, zI2, Int.cast_ofNat_Int, false_and, Md.J0, Md.QT, and_true, true_and, and_self, hr, c1, c3, c4]
    rw[<-hK,Z8 (on S _ _ [2,3,4,5,6,7] (by decide) rfl) rfl _ _ _ _ _ _ _ _ _ rfl]
    simp only[eG,go_sem,Z3 S,Z2 S,zN0,zN1,zN2,zN3,zN4,zI0,zI1,zI2,zI3,reduceCtorEq,QE S]
  ·simp only [eG, go_sem, Z3 S, Z2 S, zN0, zN1, zN2, zN3, zN4, zI0, zI1, zI2, zI3, reduceCtorEq, QE S, Qj, QG, QF, w1, w2, r4', QH S, C1, C5, C4, C3, C2, QD, Ck, Int.reduceMul, Int.reduceAdd, Int.toNat_zero, Int.reduceToNat, zI1, zI2, Int.cast_ofNat_Int, false_and, Md.J0, Md.QT, and_true, true_and, and_self, hr, c1, c3]
   rw[<-hK,Z8 (on S _ _ [2,3,4,5,6,7] (by decide) rfl) rfl _ _ _ _ _ _ _ _ _ rfl]
   simp only[eG,go_sem,Z3 S,Z2 S,zN0,zN1,zN2,zN3,zN4,zI0,zI1,zI2,zI3,reduceCtorEq,QE S]
theorem Zg5 (dp:Nat)(l:List Int)(kx:Nat->K)(kr:K)(f:Nat)(W wn pub sec r0 r1 r2 r3 r:Int)(hr:Md.r4.getD (Md.YP (Md.ZZ (Md.kM l 1) 4) 3).toNat 0=r):
  J8 (Zx E 8) (Z4 E fn (dp+1)) (Z9 12 J8 (Zx E 8) (Z4 E fn (dp+1)) kx kr (f+1)) kx kr (mk .bot 171 [(2,.ref 0 0 0),(3,.fn (.func 24) [.ref 1 0 0]),(4,.ref 2 0 0),(5,aI pub),(6,aI sec),(7,aI 2)]) [.cells [zi,zi,zi,zi,zi,zi,zi,zn,zn,zn] 0 false,.cells [.d (rD l)] 0 false,.cells [aI W,aI wn,aI 6,aI r0,aI r1,aI r2,aI r3,zn,zn,zn] 0 false]=
  J8 (Zx E 8) (Z4 E fn (dp+1)) (Z9 12 J8 (Zx E 8) (Z4 E fn (dp+1)) kx kr f) kx kr (mk .bot 171 [(2,.ref 0 0 0),(3,.fn (.func 24) [.ref 1 0 0]),(4,.ref 2 0 0),(5,aI (Md.J0 W pub sec r).2.1),(6,aI (Md.J0 W pub sec r).2.2),(7,aI 3)]) [.cells [zi,zi,zi,zi,zi,zi,zi,zn,zn,zn] 0 false,.cells [.d (rD l)] 0 false,.cells [aI W,aI wn,aI 6,aI r0,aI r1,aI (Md.J0 W pub sec r).1,aI r3,zn,zn,zn] 0 false]:=by
 have w1:∀ z:Int,0<=z->z<100->IntKind.i64.wrap z=z:=fun z h1 h2=>YY (by omega) (by omega)
 have w2:∀ z:Int,0<=z->z<100->IntKind.u64.wrap z=z:=fun z h1 h2=>PQ (by omega) (by omega)
 have r4':∀ {α:Type} (l:List α),rep l 4=l++(l++(l++l)):=fun l=>by simp[rep]
 generalize hK:Z9 12 J8 _ _ kx kr (f+1)=KK
 first | (conv=>lhs;rw[J8]) | rw[J8]
 by_cases c1:r=1
 ·by_cases c2 : IntKind.i64.wrap (pub + W) <= 2
  ·simp only [eG, go_sem, Z3 S, Z2 S, zN0, zN1, zN2, zN3, zN4, zI0, zI1, zI2, zI3, reduceCtorEq, QE S, Qj, QG, QF, w1, w2, r4', QH S, C1, C5, C4, C3, C2, QD, Ck, Int.reduceMul, Int.reduceAdd, Int.toNat_zero, Int.reduceToNat, zI1, zI2, Int.cast_ofNat_Int, false_and, Md.J0, Md.QT, and_true, true_and, and_self, hr, c1, c2]
   rw[<-hK,Z8 (on S _ _ [2,3,4,5,6,7] (by decide) rfl) rfl _ _ _ _ _ _ _ _ _ rfl]
   simp only[eG,go_sem,Z3 S,Z2 S,zN0,zN1,zN2,zN3,zN4,zI0,zI1,zI2,zI3,reduceCtorEq,QE S]
  ·simp only [eG, go_sem, Z3 S, Z2 S, zN0, zN1, zN2, zN3, zN4, zI0, zI1, zI2, zI3, reduceCtorEq, QE S, Qj, QG, QF, w1, w2, r4', QH S, C1, C5, C4, C3, C2, QD, Ck, Int.reduceMul, Int.reduceAdd, Int.toNat_zero, Int.reduceToNat, zI1, zI2, Int.cast_ofNat_Int, false_and, Md.J0, Md.QT, and_true, true_and, and_self, hr, c1, c2]
   rw[<-hK,Z8 (on S _ _ [2,3,4,5,6,7] (by decide) rfl) rfl _ _ _ _ _ _ _ _ _ rfl]
   simp only[eG,go_sem,Z3 S,Z2 S,zN0,zN1,zN2,zN3,zN4,zI0,zI1,zI2,zI3,reduceCtorEq,QE S]
 ·by_cases c3 : r = 2
  ·by_cases c4 : IntKind.i64.wrap (sec + W) <= 2
   ·simp only [eG, go_sem, Z3 S, Z2 S, zN0, zN1, zN2, zN3, zN4, zI0, zI1, zI2, zI3, reduceCtorEq, QE S, Qj, QG, QF, w1, w2, r4', QH S, C1, C5, C4, C3, C2, QD, Ck, Int.reduceMul, Int.reduceAdd, Int.toNat_zero, Int.reduceToNat, zI1, zI2, Int.cast_ofNat_Int, false_and, Md.J0, Md.QT, and_true, true_and, and_self, hr, c1, c3, c4]
    rw[<-hK,Z8 (on S _ _ [2,3,4,5,6,7] (by decide) rfl) rfl _ _ _ _ _ _ _ _ _ rfl]
    simp only[eG,go_sem,Z3 S,Z2 S,zN0,zN1,zN2,zN3,zN4,zI0,zI1,zI2,zI3,reduceCtorEq,QE S]
   ·simp only [eG, go_sem, Z3 S, Z2 S, zN0, zN1, zN2, zN3, zN4, zI0, zI1, zI2, zI3, reduceCtorEq, QE S, Qj, QG, QF, w1, w2, r4', QH S, C1, C5, C4, C3, C2, QD, Ck, Int.reduceMul, Int.reduceAdd, Int.toNat_zero, Int.reduceToNat, zI1, zI2, Int.cast_ofNat_Int, false_and, Md.J0, Md.QT, and_true, true_and, and_self, hr, c1, c3, c4]
    rw[<-hK,Z8 (on S _ _ [2,3,4,5,6,7] (by decide) rfl) rfl _ _ _ _ _ _ _ _ _ rfl]
    simp only[eG,go_sem,Z3 S,Z2 S,zN0,zN1,zN2,zN3,zN4,zI0,zI1,zI2,zI3,reduceCtorEq,QE S]
  ·simp only [eG, go_sem, Z3 S, Z2 S, zN0, zN1, zN2, zN3, zN4, zI0, zI1, zI2, zI3, reduceCtorEq, QE S, Qj, QG, QF, w1, w2, r4', QH S, C1, C5, C4, C3, C2, QD, Ck, Int.reduceMul, Int.reduceAdd, Int.toNat_zero, Int.reduceToNat, zI1, zI2, Int.cast_ofNat_Int, false_and, Md.J0, Md.QT, and_true, true_and, and_self, hr, c1, c3]
   rw[<-hK,Z8 (on S _ _ [2,3,4,5,6,7] (by decide) rfl) rfl _ _ _ _ _ _ _ _ _ rfl]
   simp only[eG,go_sem,Z3 S,Z2 S,zN0,zN1,zN2,zN3,zN4,zI0,zI1,zI2,zI3,reduceCtorEq,QE S]
theorem Zg4 (dp:Nat)(l:List Int)(kx:Nat->K)(kr:K)(f:Nat)(W wn pub sec r0 r1 r2 r3 r:Int)(hr:Md.r4.getD (Md.YP (Md.ZZ (Md.kM l 1) 6) 3).toNat 0=r):
  J8 (Zx E 8) (Z4 E fn (dp+1)) (Z9 12 J8 (Zx E 8) (Z4 E fn (dp+1)) kx kr (f+1)) kx kr (mk .bot 171 [(2,.ref 0 0 0),(3,.fn (.func 24) [.ref 1 0 0]),(4,.ref 2 0 0),(5,aI pub),(6,aI sec),(7,aI 3)]) [.cells [zi,zi,zi,zi,zi,zi,zi,zn,zn,zn] 0 false,.cells [.d (rD l)] 0 false,.cells [aI W,aI wn,aI 6,aI r0,aI r1,aI r2,aI r3,zn,zn,zn] 0 false]=
  J8 (Zx E 8) (Z4 E fn (dp+1)) (Z9 12 J8 (Zx E 8) (Z4 E fn (dp+1)) kx kr f) kx kr (mk .bot 171 [(2,.ref 0 0 0),(3,.fn (.func 24) [.ref 1 0 0]),(4,.ref 2 0 0),(5,aI (Md.J0 W pub sec r).2.1),(6,aI (Md.J0 W pub sec r).2.2),(7,aI 4)]) [.cells [zi,zi,zi,zi,zi,zi,zi,zn,zn,zn] 0 false,.cells [.d (rD l)] 0 false,.cells [aI W,aI wn,aI 6,aI r0,aI r1,aI r2,aI (Md.J0 W pub sec r).1,zn,zn,zn] 0 false]:=by
 have w1:∀ z:Int,0<=z->z<100->IntKind.i64.wrap z=z:=fun z h1 h2=>YY (by omega) (by omega)
 have w2:∀ z:Int,0<=z->z<100->IntKind.u64.wrap z=z:=fun z h1 h2=>PQ (by omega) (by omega)
 have r4':∀ {α:Type} (l:List α),rep l 4=l++(l++(l++l)):=fun l=>by simp[rep]
 generalize hK:Z9 12 J8 _ _ kx kr (f+1)=KK
 first | (conv=>lhs;rw[J8]) | rw[J8]
 by_cases c1:r=1
 ·by_cases c2 : IntKind.i64.wrap (pub + W) <= 2
  ·simp only [eG, go_sem, Z3 S, Z2 S, zN0, zN1, zN2, zN3, zN4, zI0, zI1, zI2, zI3, reduceCtorEq, QE S, Qj, QG, QF, w1, w2, r4', QH S, C1, C5, C4, C3, C2, QD, Ck, Int.reduceMul, Int.reduceAdd, Int.toNat_zero, Int.reduceToNat, zI1, zI2, Int.cast_ofNat_Int, false_and, Md.J0, Md.QT, and_true, true_and, and_self, hr, c1, c2]
   rw[<-hK,Z8 (on S _ _ [2,3,4,5,6,7] (by decide) rfl) rfl _ _ _ _ _ _ _ _ _ rfl]
   simp only[eG,go_sem,Z3 S,Z2 S,zN0,zN1,zN2,zN3,zN4,zI0,zI1,zI2,zI3,reduceCtorEq,QE S]
  ·simp only [eG, go_sem, Z3 S, Z2 S, zN0, zN1, zN2, zN3, zN4, zI0, zI1, zI2, zI3, reduceCtorEq, QE S, Qj, QG, QF, w1, w2, r4', QH S, C1, C5, C4, C3, C2, QD, Ck, Int.reduceMul, Int.reduceAdd, Int.toNat_zero, Int.reduceToNat, zI1, zI2, Int.cast_ofNat_Int, false_and, Md.J0, Md.QT, and_true, true_and, and_self, hr, c1, c2]
   rw[<-hK,Z8 (on S _ _ [2,3,4,5,6,7] (by decide) rfl) rfl _ _ _ _ _ _ _ _ _ rfl]
   simp only[eG,go_sem,Z3 S,Z2 S,zN0,zN1,zN2,zN3,zN4,zI0,zI1,zI2,zI3,reduceCtorEq,QE S]
 ·by_cases c3 : r = 2
  ·by_cases c4 : IntKind.i64.wrap (sec + W) <= 2
   ·simp only [eG, go_sem, Z3 S, Z2 S, zN0, zN1, zN2, zN3, zN4, zI0, zI1, zI2, zI3, reduceCtorEq, QE S, Qj, QG, QF, w1, w2, r4', QH S, C1, C5, C4, C3, C2, QD, Ck, Int.reduceMul, Int.reduceAdd, Int.toNat_zero, Int.reduceToNat, zI1, zI2, Int.cast_ofNat_Int, false_and, Md.J0, Md.QT, and_true, true_and, and_self, hr, c1, c3, c4]
    rw[<-hK,Z8 (on S _ _ [2,3,4,5,6,7] (by decide) rfl) rfl _ _ _ _ _ _ _ _ _ rfl]
    simp only[eG,go_sem,Z3 S,Z2 S,zN0,zN1,zN2,zN3,zN4,zI0,zI1,zI2,zI3,reduceCtorEq,QE S]
   ·simp only [eG, go_sem, Z3 S, Z2 S, zN0, zN1, zN2, zN3, zN4, zI0, zI1, zI2, zI3, reduceCtorEq, QE S, Qj, QG, QF, w1, w2, r4', QH S, C1, C5, C4, C3, C2, QD, Ck, Int.reduceMul, Int.reduceAdd, Int.toNat_zero, Int.reduceToNat, zI1, zI2, Int.cast_ofNat_Int, false_and, Md.J0, Md.QT, and_true, true_and, and_self, hr, c1, c3, c4]
    rw[<-hK,Z8 (on S _ _ [2,3,4,5,6,7] (by decide) rfl) rfl _ _ _ _ _ _ _ _ _ rfl]
    simp only[eG,go_sem,Z3 S,Z2 S,zN0,zN1,zN2,zN3,zN4,zI0,zI1,zI2,zI3,reduceCtorEq,QE S]
  ·simp only [eG, go_sem, Z3 S, Z2 S, zN0, zN1, zN2, zN3, zN4, zI0, zI1, zI2, zI3, reduceCtorEq, QE S, Qj, QG, QF, w1, w2, r4', QH S, C1, C5, C4, C3, C2, QD, Ck, Int.reduceMul, Int.reduceAdd, Int.toNat_zero, Int.reduceToNat, zI1, zI2, Int.cast_ofNat_Int, false_and, Md.J0, Md.QT, and_true, true_and, and_self, hr, c1, c3]
   rw[<-hK,Z8 (on S _ _ [2,3,4,5,6,7] (by decide) rfl) rfl _ _ _ _ _ _ _ _ _ rfl]
   simp only[eG,go_sem,Z3 S,Z2 S,zN0,zN1,zN2,zN3,zN4,zI0,zI1,zI2,zI3,reduceCtorEq,QE S]
theorem Znk (dp:Nat)(l:List Int)(kx:Nat->K)(kr:K)(f:Nat)(hf:4<=f)(W wn:Int):
  J8 (Zx E 8) (Z4 E fn (dp+1)) (Z9 12 J8 (Zx E 8) (Z4 E fn (dp+1)) kx kr f) kx kr (mk .bot 171 [(2,.ref 0 0 0),(3,.fn (.func 24) [.ref 1 0 0]),(4,.ref 2 0 0),(5,aI 0),(6,aI 0),(7,aI 0)]) [.cells [zi,zi,zi,zi,zi,zi,zi,zn,zn,zn] 0 false,.cells [.d (rD l)] 0 false,.cells [aI W,aI wn,aI 6,aI 0,aI 0,aI 0,aI 0,zn,zn,zn] 0 false]=
  kx 0 (mk .bot 171 ((24,YA false)::(23,aI 4)::[(2,.ref 0 0 0),(3,.fn (.func 24) [.ref 1 0 0]),(4,.ref 2 0 0),(5,aI (Md.Jj l W).2.1),(6,aI (Md.Jj l W).2.2),(7,aI 4)])) [.cells [zi,zi,zi,zi,zi,zi,zi,zn,zn,zn] 0 false,.cells [.d (rD l)] 0 false,.cells [aI W,aI wn,aI 6,aI (Md.JT l W).1,aI (Md.JS l W).1,aI (Md.JR l W).1,aI (Md.Jj l W).1,zn,zn,zn] 0 false]:=by
 obtain⟨f,rfl⟩:∃ g,f=g+4:=⟨f-4,by omega⟩
 rw[Zg7 S dp l kx kr (f+3) W wn 0 0 0 0 0 0 _ rfl,Zg6 S dp l kx kr (f+2) W wn _ _ _ 0 0 0 _ rfl,Zg5 S dp l kx kr (f+1) W wn _ _ _ _ 0 0 _ rfl,Zg4 S dp l kx kr f W wn _ _ _ _ _ 0 _ rfl]
 generalize Z9 12 J8 _ _ kx kr f=KK
 first | (conv=>lhs;rw[J8]) | rw[J8]
 simp only[eG,go_sem,Z3 S,Z2 S,zN0,zN1,zN2,zN3,zN4,zI0,zI1,zI2,zI3,reduceCtorEq,QE S]
 rfl
end
end Go.Aug.Mc
