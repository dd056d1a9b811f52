import Derived.Test.YtmfdoekbjkgckaaGreatPc
import Derived.Test.YtmfdoekbjkgckaaGreatMl
import Derived.Test.YtmfdoekbjkgckaaGreatMc51
import Derived.Test.YtmfdoekbjkgckaaGreatMk4
namespace Go.Aug.Mc
open Go Go.Aug
set_option linter.unusedSimpArgs false
set_option linter.unusedVariables false
set_option maxHeartbeats 40000000
set_option maxRecDepth 200000
variable {E:Env} {fn:FuncId->Option (Env->cT->cT)}
section
variable (S:Sur E fn)
include S
end
section
variable (S:Sur E fn)
include S
end
structure Sm (X:Conf):Prop where
 buf:X.buf.length<1000000
 mem:X.state.mem.length<1000000
 stk:X.state.stack.length<1000000
 rsb:X.rsb.length<1000000
variable {E:Env} {fn:FuncId->Option (Env->cT->cT)}
section
variable (S:Sur E fn)
include S
theorem Z0o (dp:Nat){X Y:Conf}(hX:Sm X)(hY:Sm Y)(A:List Blk)(nb:Nat)(us:List Nat):ZX false E (Z5 E fn (dp+3)) 14 A nb (some ([ZY X,ZY Y],us))=some (.made (.d (vb (decide (Y3 X=Y3 Y)))) []):=by
 have h9:(Y3 X).length<1073741824:=by have:=Z3k X;have:=hX.buf;have:=hX.mem;have:=hX.stk;have:=hX.rsb;omega
 exact Z7.flat (Zav S dp X Y (by have:=hX.mem;omega) (by have:=hX.stk;omega) (by have:=hX.buf;omega) (by have:=hX.rsb;omega) (by have:=hY.mem;omega) (by have:=hY.stk;omega) (by have:=hY.buf;omega) (by have:=hY.rsb;omega) h9) (np S 14 (by decide)) rfl A nb us
end
open Nat renaming reduceLT -> zN0, reduceEqDiff -> zN1, reduceAdd -> zN2, reduceMul -> zN3, reduceLeDiff -> zN4
open Int renaming reduceEq -> zI0, reduceLT -> zI1, reduceLE -> zI2, reduceNeg -> zI3
instance clConf:Cl Conf:=⟨10,QU,fun _=>rfl⟩
theorem WJ (c:Conf):Cl.cells c=[vi c.state.regs.r0,vi c.state.regs.r1,vi c.state.regs.r2,vi c.state.regs.r3,rD c.state.mem,rD c.state.stack,vi c.state.pc,rD c.buf,rD c.rsb,vi c.end_]:=id rfl
theorem V5 (r:Bool)(x:Opd)(E:Env)(call:cT)(tm:List AV)(A:List Blk)(nb:Nat):EV r x E call tm A nb=one? (K7 A r (look tm x)):=id rfl
structure Ok9 (c:Conf):Prop where
 sm:Sm c
 hi:∀ x ∈ Y3 c,CB x
theorem Ok9.len {c:Conf}(h:Ok9 c):(Y3 c).length<1073741824:=by
 have:=Z3k c;have:=h.sm.buf;have:=h.sm.mem;have:=h.sm.stk;have:=h.sm.rsb;omega
theorem Z9f {a b c d:Conf}(ha:Ok9 a)(hb:Ok9 b)(hc:Ok9 c)(hd:Ok9 d):YF .eql (.d (.v (.string (JP ((JN a b).map Byt.n))))) (.d (.v (.string (JP ((JN c d).map Byt.n)))))=some (ZZ (decide (Y3 a=Y3 c/\Y3 b=Y3 d))):=by
 have h:YF .eql (.d (.v (.string (JP ((JN a b).map Byt.n))))) (.d (.v (.string (JP ((JN c d).map Byt.n)))))=some (.d (.v (.bool ((JP ((JN a b).map Byt.n)).toList==(JP ((JN c d).map Byt.n)).toList)))):=rfl
 rw[h]
 have e:((JP ((JN a b).map Byt.n)).toList==(JP ((JN c d).map Byt.n)).toList)=decide (Y3 a=Y3 c/\Y3 b=Y3 d):=by
  rw[Bool.eq_iff_iff,beq_iff_eq,decide_eq_true_eq,<-Zhi ha.hi hb.hi hc.hi hd.hi ha.len hc.len,<-Z9i]
  constructor
  ·intro h
   rw[ByteArray.toList_eq,ByteArray.toList_eq] at h
   exact ByteArray.ext (Array.toList_inj.1 h)
  ·intro h;rw[h]
 rw[e]
theorem VQ {cs:List Conf}{i:Nat}{X:Conf}(h:cs[i]? =some X)(kk:Option Nat):BE (.d (.lst (rC cs) cs.length kk)) (aI i) 10=some (.d (.vptr (Cl.cells X++rC (cs.drop (i+1))))):=by
 obtain⟨hi,rfl⟩:=List.getElem?_eq_some_iff.1 h
 exact VS hi rfl kk .i64
variable {E:Env} {fn:FuncId->Option (Env->cT->cT)}
section
variable (S:Sur E fn)
include S
theorem AF:E.lives 5 1=none/\E.lives 5 39=none:=⟨off S 5 1 (by decide) rfl,off S 5 39 (by decide) rfl⟩
theorem Z6c (hG:fn 81=some fun _ _ _ xs A=>D7 xs A)(dp:Nat){a b:Conf}(ha:Ok9 a)(hb:Ok9 b)(A:List Blk)(nb:Nat):ZX false E (Z5 E fn (dp+5)) 19 A nb (some ([ZY a,ZY b],[]))=some (.made (.d (rD (JN a b))) []):=by
 have h1:=ha.len
 have h2:=hb.len
 have h3:=ha.sm
 have h4:=hb.sm
 exact Z7.deep (Zbo S dp a b hG (by have:=h3.mem;omega) (by have:=h3.stk;omega) (by have:=h3.buf;omega) (by have:=h3.rsb;omega) h1 (by have:=h4.mem;omega) (by have:=h4.stk;omega) (by have:=h4.buf;omega) (by have:=h4.rsb;omega) h2) (np S 19 (by decide)) A nb
theorem Zil (hG:fn 81=some fun _ _ _ xs A=>D7 xs A)(dp:Nat)(x:Conf)(hx9:Ok9 x)(cs:List Conf)(hcs:∀ c ∈ cs,Ok9 c)(kk:Option Nat)(hl:cs.length<1000)(i j:Nat)(X Y:Conf)(hi:cs[i]? =some X)(hj:cs[j]? =some Y)(kx:Nat->K)(kr:K)(D:Option (AV×List Blk))
  (hx:∀ T,ZG .bot T 16=.ref 0 0 0->ZG .bot T 22=.d (.lst (rC cs) cs.length kk)->ZG .bot T 23=aI i->ZG .bot T 62=aI cs.length->ZG .bot T 63=aI i->ZG .bot T 67=aI cs.length->ZG .bot T 68=aI j->kx 4 (mk .bot 117 T) [.cells ((QU x).map .d) 0 false]=D):
  ∀(m k f:Nat),k+m=cs.length->m<=f->
  Hk (Zj E 5) (Z5 E fn (dp+12)) (Z9 30 Hk (Zj E 5) (Z5 E fn (dp+12)) kx kr f) kx kr (mk .bot 117 [(16,.ref 0 0 0),(22,.d (.lst (rC cs) cs.length kk)),(23,aI i),(24,aI j),(62,aI cs.length),(63,aI i),(67,aI cs.length),(68,aI j),(72,aI cs.length),(73,aI k)]) [.cells ((QU x).map .d) 0 false]=D:=by
 intro m
 induction m with
 | zero=>
  intro k f hk _
  obtain rfl:k=cs.length:=by omega
  generalize Z9 30 Hk _ _ kx _ f=KK
  first | (conv=>lhs;rw[Hk]) | rw[Hk]
  simp only[eG,go_sem,Z2 S,Z1 S,zN0,zN1,zN2,zN3,zN4,zI0,zI1,zI2,zI3,reduceCtorEq,AF S,Int.lt_irrefl]
  exact hx _ rfl rfl rfl rfl rfl rfl rfl
 | succ m ih=>
  intro k f hk hf
  obtain⟨f,rfl⟩:∃ g,f=g+1:=⟨f-1,by omega⟩
  obtain⟨Z,hZ⟩:=QB (show k<cs.length by omega)
  have hkl:(k:Int)<cs.length:=by omega
  have oX:=hcs X (List.mem_of_getElem? hi)
  have oY:=hcs Y (List.mem_of_getElem? hj)
  have oZ:=hcs Z (List.mem_of_getElem? hZ)
  have i1:=VQ hi kk
  have i2:=VQ hj kk
  have i3:=VQ hZ kk
  have s1:=fun(A:List Blk) (nb:Nat) (us:List Nat)=>Z0o S (dp+9) oX.sm hx9.sm A nb us
  have s2:=fun(A:List Blk) (nb:Nat) (us:List Nat)=>Z0o S (dp+9) oY.sm oZ.sm A nb us
  have c1:=fun(A:List Blk) (nb:Nat)=>Z6c S hG (dp+7) oX oY A nb
  have c2:=fun(A:List Blk) (nb:Nat)=>Z6c S hG (dp+7) hx9 oZ A nb
  have t:=Z9f oX oY hx9 oZ
  simp only[ZY,QU] at s1 s2 c1 c2
  have next:=ih (k+1) f (by omega) (by omega)
  generalize hK:Z9 30 Hk _ _ kx _ (f+1)=KK
  first | (conv=>lhs;rw[Hk]) | rw[Hk]
  by_cases P:Y3 X=Y3 x
  ·rw [decide_eq_true P] at s1
   by_cases Q:Y3 Y=Y3 Z
   ·rw [decide_eq_true Q] at s2
    rw[decide_eq_true ⟨P,Q⟩] at t
    simp only[eG,go_sem,Z2 S,Z1 S,zN0,zN1,zN2,zN3,zN4,zI0,zI1,zI2,zI3,reduceCtorEq,AF S,hkl,i1,i2,i3,WJ,s1,s2,c1,c2,V5,Uv,t,wi k (by omega),bne_self_eq_false,Bool.not_true,Bool.not_false]
    rw[<-hK,Z6 (on S _ _ [16,22,23,24,62,63,67,68,72,73] (by decide) rfl) rfl _ _ _ _ _ _ _ _ _ rfl]
    simp only[eG,go_sem,Z2 S,Z1 S,zN0,zN1,zN2,zN3,zN4,zI0,zI1,zI2,zI3,reduceCtorEq,AF S]
    exact next
   ·rw [decide_eq_false Q] at s2
    rw[decide_eq_false (fun h=>Q h.2)] at t
    simp only[eG,go_sem,Z2 S,Z1 S,zN0,zN1,zN2,zN3,zN4,zI0,zI1,zI2,zI3,reduceCtorEq,AF S,hkl,i1,i2,i3,WJ,s1,s2,c1,c2,V5,Uv,t,wi k (by omega),bne_self_eq_false,Bool.not_true,Bool.not_false]
    rw[<-hK,Z6 (on S _ _ [16,22,23,24,62,63,67,68,72,73] (by decide) rfl) rfl _ _ _ _ _ _ _ _ _ rfl]
    simp only[eG,go_sem,Z2 S,Z1 S,zN0,zN1,zN2,zN3,zN4,zI0,zI1,zI2,zI3,reduceCtorEq,AF S]
    exact next
  ·rw [decide_eq_false P] at s1
   rw[decide_eq_false (fun h=>P h.1)] at t
   simp only[eG,go_sem,Z2 S,Z1 S,zN0,zN1,zN2,zN3,zN4,zI0,zI1,zI2,zI3,reduceCtorEq,AF S,hkl,i1,i2,i3,WJ,s1,s2,c1,c2,V5,Uv,t,wi k (by omega),bne_self_eq_false,Bool.not_true,Bool.not_false]
   rw[<-hK,Z6 (on S _ _ [16,22,23,24,62,63,67,68,72,73] (by decide) rfl) rfl _ _ _ _ _ _ _ _ _ rfl]
   simp only[eG,go_sem,Z2 S,Z1 S,zN0,zN1,zN2,zN3,zN4,zI0,zI1,zI2,zI3,reduceCtorEq,AF S]
   exact next
theorem Zim (hG:fn 81=some fun _ _ _ xs A=>D7 xs A)(dp:Nat)(x:Conf)(hx9:Ok9 x)(cs:List Conf)(hcs:∀ c ∈ cs,Ok9 c)(kk:Option Nat)(hl:cs.length<1000)(i:Nat)(X:Conf)(hi:cs[i]? =some X)(kx:Nat->K)(kr:K)(D:Option (AV×List Blk))
  (hx:∀ T,ZG .bot T 16=.ref 0 0 0->ZG .bot T 22=.d (.lst (rC cs) cs.length kk)->ZG .bot T 62=aI cs.length->ZG .bot T 63=aI i->kx 2 (mk .bot 117 T) [.cells ((QU x).map .d) 0 false]=D):
  ∀(m j f:Nat),j+m=cs.length->m<=f->
  Hx (Zj E 5) (Z5 E fn (dp+12)) (Z9 24 Hx (Zj E 5) (Z5 E fn (dp+12)) kx kr f) kx kr (mk .bot 117 [(16,.ref 0 0 0),(22,.d (.lst (rC cs) cs.length kk)),(23,aI i),(62,aI cs.length),(63,aI i),(67,aI cs.length),(68,aI j)]) [.cells ((QU x).map .d) 0 false]=D:=by
 intro m
 induction m with
 | zero=>
  intro j f hk _
  obtain rfl:j=cs.length:=by omega
  generalize Z9 24 Hx _ _ kx _ f=KK
  first | (conv=>lhs;rw[Hx]) | rw[Hx]
  simp only[eG,go_sem,Z2 S,Z1 S,zN0,zN1,zN2,zN3,zN4,zI0,zI1,zI2,zI3,reduceCtorEq,AF S,Int.lt_irrefl]
  exact hx _ rfl rfl rfl rfl
 | succ m ih=>
  intro j f hk hf
  obtain⟨f,rfl⟩:∃ g,f=g+1:=⟨f-1,by omega⟩
  obtain⟨Y,hj⟩:=QB (show j<cs.length by omega)
  have hkl:(j:Int)<cs.length:=by omega
  have next:=ih (j+1) f (by omega) (by omega)
  have inner:=fun(kx':Nat->K) (kr':K) (D':Option (AV×List Blk)) hx'=>Zil S hG dp x hx9 cs hcs kk hl i j X Y hi hj kx' kr' D' hx' cs.length 0 999999999999999999999999999999 (by omega) (by omega)
  simp only[Int.cast_ofNat_Int] at inner
  generalize hK:Z9 24 Hx _ _ kx _ (f+1)=KK
  first | (conv=>lhs;rw[Hx]) | rw[Hx]
  simp only[eG,go_sem,Z2 S,Z1 S,zN0,zN1,zN2,zN3,zN4,zI0,zI1,zI2,zI3,reduceCtorEq,AF S,hkl]
  rw[ZU,Z6 (on S _ _ [16,22,23,24,62,63,67,68,72,73] (by decide) rfl) rfl _ _ _ _ _ _ _ _ _ rfl]
  simp only[eG,go_sem,Z2 S,Z1 S,zN0,zN1,zN2,zN3,zN4,zI0,zI1,zI2,zI3,reduceCtorEq,AF S]
  refine inner _ _ _ ?_
  intro T t16 t22 t23 t62 t63 t67 t68
  simp only[eG,go_sem,Z2 S,Z1 S,zN0,zN1,zN2,zN3,zN4,zI0,zI1,zI2,zI3,reduceCtorEq,AF S,t16,t22,t23,t62,t63,t67,t68,wi j (by omega)]
  rw[<-hK,Z6 (on S _ _ [16,22,23,62,63,67,68] (by decide) rfl) rfl _ _ _ _ _ _ _ _ _ rfl]
  simp only[eG,go_sem,Z2 S,Z1 S,zN0,zN1,zN2,zN3,zN4,zI0,zI1,zI2,zI3,reduceCtorEq,AF S,t16,t22,t23,t62,t63,t67,t68]
  exact next
theorem Zin (hG:fn 81=some fun _ _ _ xs A=>D7 xs A)(dp:Nat)(x:Conf)(hx9:Ok9 x)(cs:List Conf)(hcs:∀ c ∈ cs,Ok9 c)(kk:Option Nat)(hl:cs.length<1000)(kx:Nat->K)(kr:K)(D:Option (AV×List Blk))
  (hx:∀ T,kx 0 (mk .bot 117 T) [.cells ((QU x).map .d) 0 false]=D):
  ∀(m i f:Nat),i+m=cs.length->m<=f->
  Hv (Zj E 5) (Z5 E fn (dp+12)) (Z9 18 Hv (Zj E 5) (Z5 E fn (dp+12)) kx kr f) kx kr (mk .bot 117 [(16,.ref 0 0 0),(22,.d (.lst (rC cs) cs.length kk)),(62,aI cs.length),(63,aI i)]) [.cells ((QU x).map .d) 0 false]=D:=by
 intro m
 induction m with
 | zero=>
  intro i f hk _
  obtain rfl:i=cs.length:=by omega
  generalize Z9 18 Hv _ _ kx _ f=KK
  first | (conv=>lhs;rw[Hv]) | rw[Hv]
  simp only[eG,go_sem,Z2 S,Z1 S,zN0,zN1,zN2,zN3,zN4,zI0,zI1,zI2,zI3,reduceCtorEq,AF S,Int.lt_irrefl]
  exact hx _
 | succ m ih=>
  intro i f hk hf
  obtain⟨f,rfl⟩:∃ g,f=g+1:=⟨f-1,by omega⟩
  obtain⟨X,hi⟩:=QB (show i<cs.length by omega)
  have hkl:(i:Int)<cs.length:=by omega
  have next:=ih (i+1) f (by omega) (by omega)
  have inner:=fun(kx':Nat->K) (kr':K) (D':Option (AV×List Blk)) hx'=>Zim S hG dp x hx9 cs hcs kk hl i X hi kx' kr' D' hx' cs.length 0 999999999999999999999999999999 (by omega) (by omega)
  simp only[Int.cast_ofNat_Int] at inner
  generalize hK:Z9 18 Hv _ _ kx _ (f+1)=KK
  first | (conv=>lhs;rw[Hv]) | rw[Hv]
  simp only[eG,go_sem,Z2 S,Z1 S,zN0,zN1,zN2,zN3,zN4,zI0,zI1,zI2,zI3,reduceCtorEq,AF S,hkl]
  rw[ZU,Z6 (on S _ _ [16,22,23,62,63,67,68] (by decide) rfl) rfl _ _ _ _ _ _ _ _ _ rfl]
  simp only[eG,go_sem,Z2 S,Z1 S,zN0,zN1,zN2,zN3,zN4,zI0,zI1,zI2,zI3,reduceCtorEq,AF S]
  refine inner _ _ _ ?_
  intro T t16 t22 t62 t63
  simp only[eG,go_sem,Z2 S,Z1 S,zN0,zN1,zN2,zN3,zN4,zI0,zI1,zI2,zI3,reduceCtorEq,AF S,t16,t22,t62,t63,wi i (by omega)]
  rw[<-hK,Z6 (on S _ _ [16,22,62,63] (by decide) rfl) rfl _ _ _ _ _ _ _ _ _ rfl]
  simp only[eG,go_sem,Z2 S,Z1 S,zN0,zN1,zN2,zN3,zN4,zI0,zI1,zI2,zI3,reduceCtorEq,AF S,t16,t22,t62,t63]
  exact next
omit S in
theorem XG {N:Int}{p:Prog}:∀(o:List Dir) {c:Conf},Hi c->Hi (Md.KU N p o c)
 | [],_,h=>h
 | d::o,_,h=>XG o (h.say d)
omit S in
theorem V4 {p:Prog}(hp:Md.Fine p)(hN:ZT p.mems<=1000){s:State}{c:Conf}{o:List Dir}(hs:SOk (ZT p.mems) s)(h:WInv (ZT p.mems) p (Md.DU s) c o):Ok9 c:=by
 obtain⟨q1,q2,q3,q4,q5,_⟩:=VU hp h.inv hN ⟨0,0⟩
 have hm:=h.inv.mem
 have hi:Hi c:=by rw[<-h.run];exact XG o hs.hi
 exact⟨⟨by omega,by omega,by omega,by omega⟩,Zfm hp h.inv hi hN⟩
theorem Zbp (ha:E.prim 15=some KT)(hG:fn 81=some fun _ _ _ xs A=>D7 xs A)(dp:Nat)(m l:List Int)(how:Int)(a b w:List Int):Z5 E fn (dp+13) 5 [.d (rD m),.d (rD l),aI how,.d (rD a),.d (rD b),.d (rD w)] []=some (ZZ true,[]):=by
 have hp:=Zea m
 have hN:=Zeb m
 have hml:=Ze8 m
 obtain⟨s,s',hSt,o1,o2⟩:=Za6 S (dp+7) (Md.make m) (Ze7 m) hml l how
 obtain⟨x,ox,hX,iX⟩:=UJ S (dp+4) (Md.make m) hp _ hN s (o1.inv hp) a
 obtain⟨y,oy,hY,iY⟩:=UJ S (dp+4) (Md.make m) hp _ hN s' (o2.inv hp) b
 obtain⟨z,oz,hZ,iZ⟩:=UJ S (dp+4) (Md.make m) hp _ hN s (o1.inv hp) w
 have kx:=V4 hp hN o1 iX
 have ky:=V4 hp hN o2 iY
 have kz:=V4 hp hN o1 iZ
 have cS:=fun(A:List Blk) (nb:Nat)=>Z7.deep hSt (np S 9 (by decide)) A nb
 have cX:=fun(A:List Blk) (nb:Nat)=>Z7.deep hX (np S 18 (by decide)) A nb
 have cY:=fun(A:List Blk) (nb:Nat)=>Z7.deep hY (np S 18 (by decide)) A nb
 have cZ:=fun(A:List Blk) (nb:Nat)=>Z7.deep hZ (np S 18 (by decide)) A nb
 simp only[ZP,YH,JD,P8,ZY,QU] at cS cX cY cZ
 have hcs:∀ c ∈ [x,y,z],Ok9 c:=by
  intro c hc
  simp only[List.mem_cons,List.mem_nil_iff,or_false] at hc
  rcases hc with rfl | rfl | rfl<;>assumption
 have go:=fun(kx':Nat->K) (kr':K) (D:Option (AV×List Blk)) hx=>Zin S hG dp x kx [x,y,z] hcs (some 3) (by show 3<1000;decide) kx' kr' D hx 3 0 999999999999999999999999999999 rfl (by omega)
 simp only[Int.cast_ofNat_Int] at go
 show Z5 E fn (dp+12+1) 5 [.d (rD m),.d (rD l),aI how,.d (rD a),.d (rD b),.d (rD w)] []=_
 rw[Yx,S.Z47,Yw,Z7s,Yq _ _ _ _ _ _ _ _ rfl]
 simp only[eG,go_sem,Z2 S,Z1 S,zN0,zN1,zN2,zN3,zN4,zI0,zI1,zI2,zI3,reduceCtorEq,AF S,Zhz S,cS,cX,cY,cZ,Z11,ZB,ZC,ZD,ZE,Option.map_some]
 rw[ZU,Z6 (on S _ _ [16,22,62,63] (by decide) rfl) rfl _ _ _ _ _ _ _ _ _ rfl]
 simp only[eG,go_sem,Z2 S,Z1 S,zN0,zN1,zN2,zN3,zN4,zI0,zI1,zI2,zI3,reduceCtorEq,AF S]
 refine go _ _ _ ?_
 intro T
 simp only[eG,go_sem,Z2 S,Z1 S,zN0,zN1,zN2,zN3,zN4,zI0,zI1,zI2,zI3,reduceCtorEq,AF S,Zi0 ha]
end
end Go.Aug.Mc
