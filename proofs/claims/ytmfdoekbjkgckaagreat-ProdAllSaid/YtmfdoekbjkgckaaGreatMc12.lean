import Derived.Test.YtmfdoekbjkgckaaGreatEvPc
import Derived.Test.YtmfdoekbjkgckaaGreatMc9
import Derived.Test.YtmfdoekbjkgckaaGreatMc3
namespace Go.Aug
open Go
set_option linter.unusedSimpArgs false
theorem Az (E:Env)(l:Nat->Option (List Nat))(m:Nat)(call:cT)(tm:List AV)(A:List Blk)(nb:Nat)(g:FuncId)(args:List Opd)(h:Yv g E.br=true):
  oK (.f g) args { br:=E.br,th:=E.th,prim:=E.prim,back:=E.back,lives:=E.lives,live:=l,nb0:=m } call tm A nb=F1 call g (args.map (look tm)) A (Q8 A 0 100000 ((args.map (look tm)).flatMap (YV 8)) []):=by
 show H4 { br:=E.br,th:=E.th,prim:=E.prim,back:=E.back,lives:=E.lives,live:=l,nb0:=m } call A nb (some (g,args.map (look tm)++[]))=_
 rw[List.append_nil]
 show EE { br:=E.br,th:=E.th,prim:=E.prim,back:=E.back,lives:=E.lives,live:=l,nb0:=m } call g (args.map (look tm)) A nb=_
 unfold EE
 show(bif Yv g E.br then _ else _)=_
 rw[h,cond_true]
theorem F0 (call:cT)(f:FuncId)(args:List AV)(A:List Blk)(ids:List Nat):F1 call f args A ids=HX A ids (YD A ids) (call f (args.map (Yw A 0 ids 8)) (Y9 A 0 ids)):=id rfl
theorem FU (A:List Blk)(ids vs:List Nat)(x:AV)(B:List Blk):HX A ids vs (some (x,B))=bif Nat.ble ids.length B.length&&EF vs B then some (.turned (QR ids vs A.length 8 x) (BF ids vs A.length A ids vs B++(B.drop ids.length).map (JW ids vs A.length 0))) else none:=id rfl
theorem H9 (A:List Blk)(ids vs:List Nat)(b:Bool)(x y:Option (AV×List Blk)):HX A ids vs (bif b then x else y)=bif b then HX A ids vs x else HX A ids vs y:=by cases b<;>rfl
def Z1m:Option Blk->Nat
 | some (.cells _ v _)=>v
 | _=>0
theorem FV (cs:List AV)(v:Nat)(ro:Bool):Z1m (some (.cells cs v ro))=v:=id rfl
theorem Fk (A:List Blk):YD A []=[]:=id rfl
theorem Fq (A:List Blk)(i:Nat)(l:List Nat):YD A (i::l)=Z1m A[i]? ::YD A l:=by
 show(QP A i).getD 0::YD A l=_
 unfold QP
 cases A[i]? with
 | none=>rfl
 | some b=>cases b<;>rfl
theorem Gx (B:List Blk):EF [] B=true:=id rfl
theorem Gz (v:Nat)(vs:List Nat)(cs:List AV)(w:Nat)(ro:Bool)(bs:List Blk):EF (v::vs) (.cells cs w ro::bs)=EF vs bs:=id rfl
theorem G1 (ids vs:List Nat)(nb n:Nat)(y:DV):QR ids vs nb (n+1) (.d y)=.d y:=id rfl
theorem G2 (ids vs:List Nat)(nb n:Nat)(cs:List AV):QR ids vs nb (n+1) (.agg cs)=.agg (cs.map (QR ids vs nb n)):=id rfl
theorem FZ (ids vs:List Nat)(nb n:Nat)(cs:List AV):QR ids vs nb (n+1) (.tup cs)=.tup (cs.map (QR ids vs nb n)):=id rfl
def VU (o len sz:Nat)(k:Option Nat)(v0 v nb:Nat):Option Nat->AV
 | some i=>.sref i v0 o len sz k
 | none=>.sref nb v o len sz k
theorem G3 (o len sz:Nat)(k:Option Nat)(v0 v nb i:Nat):VU o len sz k v0 v nb (some i)=.sref i v0 o len sz k:=id rfl
theorem G4 (o len sz:Nat)(k:Option Nat)(v0 v nb:Nat):VU o len sz k v0 v nb none=.sref nb v o len sz k:=id rfl
theorem G0 (ids vs:List Nat)(nb n m v o len sz:Nat)(k:Option Nat):QR ids vs nb (n+1) (.sref m v o len sz k)=VU o len sz k (vs.getD m 0+v) v (nb+(m-ids.length)) ids[m]? :=by
 show(match ids[m]? with | some i=>AV.sref i (vs.getD m 0+v) o len sz k | none=>.sref (nb+(m-ids.length)) v o len sz k)=_
 cases ids[m]? <;>rfl
theorem Fw (ids vs:List Nat)(nb n:Nat):(QR ids vs nb (n+1)) ∘ AV.d=AV.d:=rfl
theorem Fz (ids vs:List Nat)(nb n:Nat)(l:List DV):(l.map AV.d).map (QR ids vs nb (n+1))=l.map AV.d:=by rw[List.map_map,Fw]
theorem Fv (ids vs:List Nat)(nb dv:Nat)(cs:List AV)(v:Nat)(ro:Bool):JW ids vs nb dv (.cells cs v ro)=.cells (cs.map (QR ids vs nb 8)) (dv+v) ro:=id rfl
theorem FC (ids vs:List Nat)(nb:Nat)(A:List Blk)(us:List Nat)(bs:List Blk):BF ids vs nb A [] us bs=A:=by cases us<;>cases bs<;>rfl
theorem Gj (ids vs:List Nat)(nb:Nat)(A:List Blk)(i:Nat)(is:List Nat)(v:Nat)(us:List Nat)(b:Blk)(bs:List Blk):BF ids vs nb A (i::is) (v::us) (b::bs)=BF ids vs nb (A.set i (JW ids vs nb v b)) is us bs:=id rfl
theorem Q5 (n0:Nat)(x:AV)(A:List Blk):CN n0 (some (x,A))=some (Yw A n0 (Q8 A n0 100000 (YV 8 x++(A.take n0).flatMap fun b=>C7 (some b)) []) 8 x,Y9 A n0 (Q8 A n0 100000 (YV 8 x++(A.take n0).flatMap fun b=>C7 (some b)) [])):=id rfl
def W3 (n0 v:Nat):Option Blk->Option Nat->Option (Nat×Nat)
 | some (.cells _ v' _),some m=>if v'=v then some (n0+m,0) else none
 | some (.iter _ _),some m=>if 0=v then some (n0+m,0) else none
 | _,_=>none
theorem YZ (n0 v v':Nat)(cs:List AV)(ro:Bool)(m:Nat):W3 n0 v (some (.cells cs v' ro)) (some m)=if v'=v then some (n0+m,0) else none:=id rfl
theorem Z9k {α:Type}(a b:Nat)(x y:α):(bif Nat.beq a b then x else y)=if a=b then x else y:=by
 by_cases h:a=b
 ·subst h;simp
 ·have:Nat.beq a b=false:=by
   cases hb:Nat.beq a b with
   | false=>rfl
   | true=>exact absurd (Nat.eq_of_beq_eq_true hb) h
  rw[this,if_neg h];rfl
theorem YY (A:List Blk)(n0:Nat)(ids:List Nat)(i v:Nat):spot A n0 ids i v=if i<n0 then some (i,v) else W3 n0 v A[i]? (QM ids i):=by
 show(bif Nat.blt i n0 then _ else _)=_
 by_cases h:i<n0
 ·rw[show Nat.blt i n0=true from Nat.ble_eq_true_of_le h,if_pos h];rfl
 ·have hb:Nat.blt i n0=false:=by
   cases hq:Nat.blt i n0 with
   | false=>rfl
   | true=>exact absurd (Nat.le_of_ble_eq_true hq) h
  rw[hb,cond_false,if_neg h]
  unfold QP
  cases A[i]? with
  | none=>rfl
  | some b=>
   cases b with
   | cells cs v' ro=>
    cases QM ids i with
    | none=>rfl
    | some m=>exact Z9k _ _ _ _
   | iter s p=>
    cases QM ids i with
    | none=>rfl
    | some m=>exact Z9k _ _ _ _
   | free=>rfl
theorem Q1 (A:List Blk)(n0:Nat)(ids:List Nat):Y9 A n0 ids=(A.take n0).map (AG A n0 ids true)++ids.map fun i=>AG A n0 ids false (A.getD i .free):=id rfl
theorem Q2 (A:List Blk)(n0:Nat)(ids:List Nat)(keep:Bool)(cs:List AV)(v:Nat)(ro:Bool):AG A n0 ids keep (.cells cs v ro)=.cells (cs.map (Yw A n0 ids 8)) (bif keep then v else 0) ro:=id rfl
theorem ZG (len s nb:Nat)(cs:List AV):HH true len s nb (some cs)=N4 len s nb cs (D6 cs):=id rfl
theorem ZH (len s nb:Nat)(cs:List AV)(ds:List DV):N4 len s nb cs (some ds)=some (.made (.d (.lst ds len (some len))) []):=id rfl
theorem ZJ:D6 []=some []:=id rfl
theorem ZK (x:DV)(l:List AV):D6 (.d x::l)=(D6 l).map (x:: ·):=id rfl
section
variable {l:List Ent} {k:Nat} {e:Ent}
theorem Zka (h:k<l.length):(l.set k e)[k]? =some e:=by rw[List.getElem?_set_self h]
theorem Z0b (h:k<l.length)(j:Nat)(hj:j<=8):((rC (l.set k e)).map AV.d).drop (k*8+j)=((Cl.cells e).map AV.d).drop j++((rC (l.drop (k+1))).map AV.d):=by
 have e2:l.set k e=l.take k++e::l.drop (k+1):=List.set_eq_take_append_cons_drop.trans (if_pos h)
 have e3:rC (l.set k e)=rC (l.take k)++(Cl.cells e++rC (l.drop (k+1))):=by rw[e2,EN];rfl
 have hl:(rC (l.take k)).length=k*8:=by rw[QS,List.length_take,Nat.min_eq_left (by omega)];rfl
 have hl':((rC (l.take k)).map AV.d).length=k*8:=by rw[List.length_map,hl]
 rw[e3]
 simp only[List.map_append]
 rw[<-hl',<-List.drop_drop,List.drop_left,List.drop_append_of_le_length (by simpa [Z8y] using hj)]
section
variable (h:k<l.length)
include h
theorem BH:BD false 1 (((rC (l.set k e)).map AV.d).drop (k*8))=some (.d (vi e.pc)):=by
 have:=Z0b (e:=e) h 0 (by decide)
 rw[Nat.add_zero] at this;rw[this];rfl
theorem AN:BD false 1 (((rC (l.set k e)).map AV.d).drop (k*8+2))=some (.d (vi e.addr)):=by rw[Z0b h 2 (by decide)];rfl
theorem Z52:BD false 1 (((rC (l.set k e)).map AV.d).drop (k*8+4))=some (.d (vi e.next)):=by rw[Z0b h 4 (by decide)];rfl
theorem wr (i v o:Nat)(A:List Blk)(e':Ent)(x:DV)(h1:AV.one (.d x)=true)(ho:o<8)(hs:splice (Cl.cells e) o [x]=Cl.cells e'):
  storeAt A i v (k*8+o) [.d x] 1 (some (.cells ((rC (l.set k e)).map .d) v false))=some (A.set i (.cells ((rC (l.set k e')).map .d) v false)):=by
 have:=MN (A:=A) (i:=i) (v:=v) (o:=o) (n:=1) (e':=e') (xs:=[.d x]) [x] (Zka (e:=e) h) rfl rfl (by simp[h1]) hs (by simp;exact ho) 8 rfl (k*8+o) rfl
 rw[this,List.set_set]
theorem C4 (i v:Nat)(A:List Blk)(n:Int):storeAt A i v (k*8+1) [.d (vi n)] 1 (some (.cells ((rC (l.set k e)).map .d) v false))=some (A.set i (.cells ((rC (l.set k { e with val:=n })).map .d) v false)):=wr h i v 1 A _ _ rfl (by decide) rfl
theorem C3 (i v:Nat)(A:List Blk)(n:Int):storeAt A i v (k*8+2) [.d (vi n)] 1 (some (.cells ((rC (l.set k e)).map .d) v false))=some (A.set i (.cells ((rC (l.set k { e with addr:=n })).map .d) v false)):=wr h i v 2 A _ _ rfl (by decide) rfl
theorem C2 (i v:Nat)(A:List Blk)(n:Int):storeAt A i v (k*8+3) [.d (vi n)] 1 (some (.cells ((rC (l.set k e)).map .d) v false))=some (A.set i (.cells ((rC (l.set k { e with frm:=n })).map .d) v false)):=wr h i v 3 A _ _ rfl (by decide) rfl
theorem Zc8 (i v:Nat)(A:List Blk)(n:Int):storeAt A i v (k*8+4) [.d (vi n)] 1 (some (.cells ((rC (l.set k e)).map .d) v false))=some (A.set i (.cells ((rC (l.set k { e with next:=n })).map .d) v false)):=wr h i v 4 A _ _ rfl (by decide) rfl
theorem B1 (i v:Nat)(A:List Blk)(b:Bool):storeAt A i v (k*8+6) [.d (vb b)] 1 (some (.cells ((rC (l.set k e)).map .d) v false))=some (A.set i (.cells ((rC (l.set k { e with known:=b })).map .d) v false)):=wr h i v 6 A _ _ rfl (by decide) rfl
theorem B0 (i v:Nat)(A:List Blk)(b:Bool):storeAt A i v (k*8+7) [.d (vb b)] 1 (some (.cells ((rC (l.set k e)).map .d) v false))=some (A.set i (.cells ((rC (l.set k { e with fault:=b })).map .d) v false)):=wr h i v 7 A _ _ rfl (by decide) rfl
end
theorem AB (n:Nat)(hn:n<=l.length):n*8<=((rC l).map AV.d).length:=by
 rw[List.length_map,QS];exact Nat.mul_le_mul_right _ hn
theorem AR (A:List Blk)(m n:Nat):YJ (deep A (m+1)) (((rC l).map AV.d).take (n*8))=some (rC (l.take n),[]):=by
 rw[<-List.map_take,show n*8=n*Cl.n Ent from rfl,Rv,GC]
theorem AE:DV.lst (rC (l.set k e)) l.length none=rD (l.set k e):=by
 unfold rD;rw[List.length_set]
theorem AF (n:Nat)(hn:n=l.length):(l.set k e).take n=l.set k e:=List.take_of_length_le (by rw[List.length_set];omega)
end
end Go.Aug
namespace Go.Aug.Mc
open Go Go.Aug
set_option linter.unusedSimpArgs false
set_option linter.unusedVariables false
set_option maxHeartbeats 40000000
variable {E:Env} {fn:FuncId->Option (Env->cT->cT)}
section
variable (S:Sur E fn)
include S
theorem Z42:E.lives 123 7=none:=off S 123 7 (by decide) rfl
theorem GP (dp:Nat)(l:List Ent)(e:Ent)(i to r0 r1 r2 r3 pc en:Int)(mm sk rb:List Int)(h0:0<=i)(h1:i.toNat<l.length)(hl:l.length<1073741824):
  Z5 E fn (dp+1) 123 [.agg [.d (vi r0),.d (vi r1),.d (vi r2),.d (vi r3),.d (rD mm),.d (rD sk),.d (vi pc),.sref 0 0 0 l.length 8 none,.d (rD rb),.d (vi en)],.d (vi i),.d (vi to)] [.cells ((rC (l.set i.toNat e)).map .d) 0 false]=
  bif decide (e.next=to) then some (.tup [.agg [.d (vi r0),.d (vi r1),.d (vi r2),.d (vi r3),.d (rD mm),.d (rD sk),.d (vi pc),.sref 0 0 0 l.length 8 none,.d (rD rb),.d (vi en)],.d (.lst [vi 3,vi to] 1 (some 1))],[.cells ((rC (l.set i.toNat e)).map .d) 0 false])
  else some (.tup [.agg [.d (vi r0),.d (vi r1),.d (vi r2),.d (vi r3),.d (rD mm),.d (rD sk),.d (vi to),.sref 0 0 0 (i.toNat+1) 8 none,.d (rD rb),.d (vi en)],.d (.lst [vi 3,vi to] 1 (some 1))],[.cells ((rC (l.set i.toNat { e with next:=to })).map .d) 0 false]):=by
 have hi:i<l.length:=by omega
 have w1:IntKind.i64.wrap (i+1)=i+1:=YX (by omega) (by omega)
 have bd:=HZ l.length .i64 (i+1) (by omega) (by omega)
 have t1:(i+1).toNat=i.toNat+1:=by omega
 rw[ZU,S.Z6n,ZW,Zav,ZY _ _ _ _ _ _ _ _ rfl]
 by_cases h:e.next=to
 ·simp only[go_sem,Z2 S,Z1 S,Nat.reduceLT,Nat.reduceEqDiff,Nat.reduceAdd,Nat.reduceMul,Nat.reduceLeDiff,Int.reduceEq,Int.reduceLT,Int.reduceLE,Int.reduceNeg,reduceCtorEq,Z42 S,Q5,YY,YZ,Q1,Q2,List.take_succ_cons,List.take_zero,ZG,ZH,ZJ,ZK,Z8,Option.map_some,h0,hi,Z52 h1,h,Bool.not_true,Nat.zero_add]
 ·simp only[go_sem,Z2 S,Z1 S,Nat.reduceLT,Nat.reduceEqDiff,Nat.reduceAdd,Nat.reduceMul,Nat.reduceLeDiff,Int.reduceEq,Int.reduceLT,Int.reduceLE,Int.reduceNeg,reduceCtorEq,Z42 S,Q5,YY,YZ,Q1,Q2,List.take_succ_cons,List.take_zero,ZG,ZH,ZJ,ZK,Z8,Option.map_some,h0,hi,Z52 h1,h,Bool.not_false,Nat.zero_add,Zc8 h1,w1,bd,t1,Nat.zero_mul,Nat.add_zero,Nat.sub_zero,Option.map_none,ne_eq,not_true_eq_false,and_false]
end
open Nat renaming reduceLT -> zN0, reduceEqDiff -> zN1, reduceAdd -> zN2, reduceMul -> zN3, reduceLeDiff -> zN4
open Int renaming reduceEq -> zI0, reduceLT -> zI1, reduceLE -> zI2, reduceNeg -> zI3
def Zj (l:List MemT):Int:=(l.map fun m=>min (max m.n 0) 16).sum
theorem Mk:∀ l:List MemT,0<=Zj l/\Zj l<=16*l.length
 | []=>by simp[Zj]
 | m::l=>by
  have:=Mk l
  simp only[Zj,List.map_cons,List.sum_cons,List.length_cons] at this ⊢
  omega
theorem UZ {l:List MemT}{i:Nat}{m:MemT}(h:l[i]? =some m):Zj (l.take (i+1))=Zj (l.take i)+min (max m.n 0) 16:=by
 unfold Zj
 rw[Z21 h,List.map_append,List.sum_append]
 simp
variable {E:Env} {fn:FuncId->Option (Env->cT->cT)}
section
variable (S:Sur E fn)
include S
theorem P8:E.lives 140 1=none:=off S 140 1 (by decide) rfl
theorem Zj6 (dp:Nat)(l:List MemT)(hl:l.length<1073741824)(kx:Nat->K)(D:Int)
  (hx:∀ T,ZE .bot T 3=aI (Zj l)->Zw (kx 0 (mk .bot 21 T) [])=some (vi D)):
  ∀(m k fuel:Nat),k+m=l.length->m<=fuel->Zw (NG (Zq E 140) (Z5 E fn dp) (Z9 8 NG (Zq E 140) (Z5 E fn dp) kx (Y0 0 [.tmp 2]) fuel) kx (Y0 0 [.tmp 2])
   (mk .bot 21 [(3,aI (Zj (l.take k))),(7,.d (rD l)),(8,aI l.length),(9,aI k)]) [])=some (vi D):=by
 intro m
 induction m with
 | zero=>
  intro k fuel hk _
  generalize Z9 8 NG _ _ kx _ fuel=KK
  rw[NG,List.take_of_length_le (by omega)]
  simp only[eG,go_sem,Z2 S,Z1 S,zN0,zN1,zN2,zN3,zN4,zI0,zI1,zI2,zI3,reduceCtorEq,P8 S,show ¬(k:Int)<l.length by omega]
  exact hx _ rfl
 | succ m ih=>
  intro k fuel hk hf
  obtain⟨e,he⟩:=QB (show k<l.length by omega)
  obtain⟨fuel,rfl⟩:∃ m,fuel=m+1:=⟨fuel-1,by omega⟩
  generalize hK:Z9 8 NG _ _ kx _ (fuel+1)=KK
  rw[NG]
  have hb:=Mk (l.take k)
  have hbl:(l.take k).length<=l.length:=by simp;omega
  have hw:IntKind.i64.wrap (Zj (l.take k)+min (max e.n 0) 16)=Zj (l.take (k+1)):=by
   rw[UZ he]
   exact YX (by omega) (by omega)
  simp only[eG,go_sem,Z2 S,Z1 S,zN0,zN1,zN2,zN3,zN4,zI0,zI1,zI2,zI3,reduceCtorEq,P8 S,show(k:Int)<l.length by omega,Zv he,wi k (by omega),hw]
  rw[<-hK,Z7 (on S _ _ [3,7,8,9] (by decide) rfl) rfl _ _ _ _ _ _ _ _ _ rfl]
  simp only[eG,go_sem,Z2 S,Z1 S,zN0,zN1,zN2,zN3,zN4,zI0,zI1,zI2,zI3,reduceCtorEq,P8 S]
  exact ih (k+1) fuel (by omega) (by omega)
theorem Zfs (dp:Nat)(p:Prog)(hm:p.mems.length<1073741824):Z6 E fn (dp+1) 140 [ZD p] (vi (Zj p.mems)):=by
 unfold Z6
 show Zw (Z5 E fn (dp+1) 140 [.d (ZD p)] [])=_
 rw[ZU,S.Z7x,ZW,Zc5,ZY _ _ _ _ _ _ _ _ rfl]
 simp only[eG,go_sem,Z2 S,Z1 S,zN0,zN1,zN2,zN3,zN4,zI0,zI1,zI2,zI3,reduceCtorEq,P8 S]
 rw[Y2,Z7 (on S _ _ [3,7,8,9] (by decide) rfl) rfl _ _ _ _ _ _ _ _ _ rfl]
 simp only[eG,go_sem,Z2 S,Z1 S,zN0,zN1,zN2,zN3,zN4,zI0,zI1,zI2,zI3,reduceCtorEq,P8 S]
 refine Zj6 S dp p.mems hm _ (Zj p.mems) ?_ p.mems.length 0 _ (by omega) (by omega)
 intro T h3
 simp only[eG,go_sem,Z2 S,Z1 S,zN0,zN1,zN2,zN3,zN4,zI0,zI1,zI2,zI3,reduceCtorEq,P8 S,h3]
theorem Zmm (dp:Nat)(p_w p_wn p_fu p_r0 p_r1 p_r2 p_r3:Int)(p_ms:List MemT)(p_ls:List Label)(p_is:List Ins)(hm:(⟨p_w,p_wn,p_fu,⟨p_r0,p_r1,p_r2,p_r3⟩,p_ms,p_ls,p_is⟩:Prog).mems.length<1073741824)(A:List Blk)(nb:Nat)(us:List Nat):Y1 false E (Z5 E fn (dp+1)) 140 A nb (some ([.agg [vi p_w,vi p_wn,vi p_fu,vi p_r0,vi p_r1,vi p_r2,vi p_r3,rD p_ms,rD p_ls,rD p_is]],us))=some (.made (.d (vi (Zj (⟨p_w,p_wn,p_fu,⟨p_r0,p_r1,p_r2,p_r3⟩,p_ms,p_ls,p_is⟩:Prog).mems))) []):=
 Z6.flat (Zfs S dp (⟨p_w,p_wn,p_fu,⟨p_r0,p_r1,p_r2,p_r3⟩,p_ms,p_ls,p_is⟩:Prog) hm) (np S 140 (by decide)) (rfl) A nb us
theorem Zec (dp:Nat)(p:Prog)(a b:Int)(hm:p.mems.length<1073741824):Z6 E fn (dp+4) 107 [ZD p,vi a,vi b] (.tup [vi (Md.Y4 p.w (a+b)),vb (decide (Md.Y4 p.w (a+b)<Zj p.mems))]):=by
 unfold Z6
 show Zw (Z5 E fn (dp+3+1) 107 [.d (ZD p),.d (vi a),.d (vi b)] [])=_
 rw[ZU,S.Z6d,ZW,Zal,ZY _ _ _ _ _ _ _ _ rfl]
 simp only[eG,go_sem,Z2 S,Z1 S,zN0,zN1,zN2,zN3,zN4,zI0,zI1,zI2,zI3,reduceCtorEq,Z93 S,Md.JS,Zmm S,hm]
theorem Z94 (dp:Nat)(p_w p_wn p_fu p_r0 p_r1 p_r2 p_r3:Int)(p_ms:List MemT)(p_ls:List Label)(p_is:List Ins)(a b:Int)(hm:(⟨p_w,p_wn,p_fu,⟨p_r0,p_r1,p_r2,p_r3⟩,p_ms,p_ls,p_is⟩:Prog).mems.length<1073741824)(A:List Blk)(nb:Nat)(us:List Nat):Y1 false E (Z5 E fn (dp+4)) 107 A nb (some ([.agg [vi p_w,vi p_wn,vi p_fu,vi p_r0,vi p_r1,vi p_r2,vi p_r3,rD p_ms,rD p_ls,rD p_is],vi a,vi b],us))=some (.made (.d (.tup [vi (Md.Y4 (⟨p_w,p_wn,p_fu,⟨p_r0,p_r1,p_r2,p_r3⟩,p_ms,p_ls,p_is⟩:Prog).w (a+b)),vb (decide (Md.Y4 (⟨p_w,p_wn,p_fu,⟨p_r0,p_r1,p_r2,p_r3⟩,p_ms,p_ls,p_is⟩:Prog).w (a+b)<Zj (⟨p_w,p_wn,p_fu,⟨p_r0,p_r1,p_r2,p_r3⟩,p_ms,p_ls,p_is⟩:Prog).mems))])) []):=
 Z6.flat (Zec S dp (⟨p_w,p_wn,p_fu,⟨p_r0,p_r1,p_r2,p_r3⟩,p_ms,p_ls,p_is⟩:Prog) a b hm) (np S 107 (by decide)) (rfl) A nb us
end
section
variable (S:Sur E fn)
include S
theorem Ej:E.lives 137 1=none/\E.lives 137 19=none/\E.lives 137 25=none:=⟨off S 137 1 (by decide) rfl,off S 137 19 (by decide) rfl,off S 137 25 (by decide) rfl⟩
theorem Zj0 (dp:Nat)(p:Prog)(mem:List Int)(l:List Ent)(addr:Int)(hl:l.length<1073741824)(kx:Nat->K)
  (hx:∀ T,ZE .bot T 1=.d (rD mem)->ZE .bot T 4=aI addr->∀ A,Zw (kx 0 (mk .bot 65 T) (.cells ((ZX p).map .d) 0 false::A))=some (.tup [vi (Md.QK p mem addr []).1,vi (Md.QK p mem addr []).2.1,vb (Md.QK p mem addr []).2.2])):
  ∀(k fuel:Nat),k<=l.length->k<fuel->Zw (NF (Zq E 137) (Z5 E fn (dp+1)) (Z9 8 NF (Zq E 137) (Z5 E fn (dp+1)) kx (Y0 0 [.tmp 10,.tmp 11,.tmp 12]) fuel) kx (Y0 0 [.tmp 10,.tmp 11,.tmp 12])
   (mk .bot 65 [(1,.d (rD mem)),(4,aI addr),(5,.ref 0 0 0),(13,.d (rD l)),(14,aI ((k:Int)-1))]) [.cells ((ZX p).map .d) 0 false])=
   some (.tup [vi (Md.QK p mem addr (l.take k).reverse).1,vi (Md.QK p mem addr (l.take k).reverse).2.1,vb (Md.QK p mem addr (l.take k).reverse).2.2]):=by
 intro k
 induction k with
 | zero=>
  intro fuel _ hf
  generalize Z9 8 NF _ _ kx _ fuel=KK
  rw[NF]
  simp only[eG,go_sem,Z2 S,Z1 S,zN0,zN1,zN2,zN3,zN4,zI0,zI1,zI2,zI3,reduceCtorEq,Ej S,show ¬(((0:Nat):Int)-1>=0) by omega,List.take_zero,List.reverse_nil]
  exact hx _ rfl rfl []
 | succ k ih=>
  intro fuel hk hf
  obtain⟨e,he⟩:=QB (show k<l.length by omega)
  obtain⟨fuel,rfl⟩:∃ m,fuel=m+1:=⟨fuel-1,by omega⟩
  rw[show(((k+1:Nat):Int)-1)=(k:Int) by omega,Tk he]
  generalize hK:Z9 8 NF _ _ kx _ (fuel+1)=KK
  rw[NF]
  have hlen:(l.take k).reverse.length=k:=by simp;omega
  by_cases h1:(Md.at_ p e.pc).kind=3
  ·cases h2 : e.known with
   | true=>
    by_cases h3:e.addr=addr
    ·cases h4:e.done<;>simp only[eG,go_sem,Z2 S,Z1 S,zN0,zN1,zN2,zN3,zN4,zI0,zI1,zI2,zI3,reduceCtorEq,Ej S,Zv he,D8 S,Int.natCast_nonneg,ge_iff_le,wd k (by omega),Bool.not_true,Bool.not_false,h1,h2,eq_true h3,h4,Md.QK,Md.GN,hlen]
    ·simp only [eG, go_sem, Z2 S, Z1 S, zN0, zN1, zN2, zN3, zN4, zI0, zI1, zI2, zI3, reduceCtorEq, Ej S, Zv he, D8 S, Int.natCast_nonneg, ge_iff_le, wd k (by omega), Bool.not_true, Bool.not_false, h1, h2, eq_false h3, Md.QK, Md.GN]
     rw[<-hK,Z7 (on S _ _ [1,4,5,13,14] (by decide) rfl) rfl _ _ _ _ _ _ _ _ _ rfl]
     simp only[eG,go_sem,Z2 S,Z1 S,zN0,zN1,zN2,zN3,zN4,zI0,zI1,zI2,zI3,reduceCtorEq,Ej S,Zv he,D8 S,Int.natCast_nonneg,ge_iff_le,wd k (by omega),Bool.not_true,Bool.not_false]
     exact ih fuel (by omega) (by omega)
   | false=>
    simp only[eG,go_sem,Z2 S,Z1 S,zN0,zN1,zN2,zN3,zN4,zI0,zI1,zI2,zI3,reduceCtorEq,Ej S,Zv he,D8 S,Int.natCast_nonneg,ge_iff_le,wd k (by omega),Bool.not_true,Bool.not_false,h1,h2,Md.QK,Md.GN]
    rw[<-hK,Z7 (on S _ _ [1,4,5,13,14] (by decide) rfl) rfl _ _ _ _ _ _ _ _ _ rfl]
    simp only[eG,go_sem,Z2 S,Z1 S,zN0,zN1,zN2,zN3,zN4,zI0,zI1,zI2,zI3,reduceCtorEq,Ej S,Zv he,D8 S,Int.natCast_nonneg,ge_iff_le,wd k (by omega),Bool.not_true,Bool.not_false]
    exact ih fuel (by omega) (by omega)
  ·simp only [eG, go_sem, Z2 S, Z1 S, zN0, zN1, zN2, zN3, zN4, zI0, zI1, zI2, zI3, reduceCtorEq, Ej S, Zv he, D8 S, Int.natCast_nonneg, ge_iff_le, wd k (by omega), Bool.not_true, Bool.not_false, eq_false h1, Md.QK, Md.GN]
   rw[<-hK,Z7 (on S _ _ [1,4,5,13,14] (by decide) rfl) rfl _ _ _ _ _ _ _ _ _ rfl]
   simp only[eG,go_sem,Z2 S,Z1 S,zN0,zN1,zN2,zN3,zN4,zI0,zI1,zI2,zI3,reduceCtorEq,Ej S,Zv he,D8 S,Int.natCast_nonneg,ge_iff_le,wd k (by omega),Bool.not_true,Bool.not_false]
   exact ih fuel (by omega) (by omega)
theorem Zff (dp:Nat)(p:Prog)(mem:List Int)(l:List Ent)(i addr:Int)(hl:l.length<1073741824):Z6 E fn (dp+3) 137 [ZD p,rD mem,rD l,vi i,vi addr] (.tup [vi (Md.load p mem l i addr).1,vi (Md.load p mem l i addr).2.1,vb (Md.load p mem l i addr).2.2]):=by
 unfold Z6
 show Zw (Z5 E fn (dp+2+1) 137 [.d (ZD p),.d (rD mem),.d (rD l),.d (vi i),.d (vi addr)] [])=_
 rw[ZU,S.Z7i,ZW,Zbq,ZY _ _ _ _ _ _ _ _ rfl]
 have hcl:=HU l i
 have e:(Md.cut l i).take (Md.cut l i).length=Md.cut l i:=List.take_of_length_le (by omega)
 have e2:Md.load p mem l i addr=Md.QK p mem addr ((Md.cut l i).take (Md.cut l i).length).reverse:=by rw[e];rfl
 rw[e2]
 simp only[eG,go_sem,Z2 S,Z1 S,zN0,zN1,zN2,zN3,zN4,zI0,zI1,zI2,zI3,reduceCtorEq,Ej S,Z0j S,hl,wd _ (show(Md.cut l i).length<4611686018427387904 by omega)]
 rw[Y2,Z7 (on S _ _ [1,4,5,13,14] (by decide) rfl) rfl _ _ _ _ _ _ _ _ _ rfl]
 simp only[eG,go_sem,Z2 S,Z1 S,zN0,zN1,zN2,zN3,zN4,zI0,zI1,zI2,zI3,reduceCtorEq,Ej S]
 refine Zj0 S (dp+1) p mem (Md.cut l i) addr (by omega) _ ?_ _ _ (Nat.le_refl _) (by omega)
 intro T h1 h4 A
 by_cases h:addr<0
 ·simp only[eG,go_sem,Z2 S,Z1 S,zN0,zN1,zN2,zN3,zN4,zI0,zI1,zI2,zI3,reduceCtorEq,Ej S,h1,h4,h,Md.QK]
 ·by_cases h2 : (mem.length : Int) <= addr
  ·simp only[eG,go_sem,Z2 S,Z1 S,zN0,zN1,zN2,zN3,zN4,zI0,zI1,zI2,zI3,reduceCtorEq,Ej S,h1,h4,h,ge_iff_le,h2,Md.QK]
  ·obtain ⟨e, he⟩ := QB (show addr.toNat < mem.length by omega)
   simp only[eG,go_sem,Z2 S,Z1 S,zN0,zN1,zN2,zN3,zN4,zI0,zI1,zI2,zI3,reduceCtorEq,Ej S,h1,h4,h,ge_iff_le,h2,Md.QK,DW (show 0<=addr by omega) he,he,Option.getD_some]
theorem Zmg (dp:Nat)(p_w p_wn p_fu p_r0 p_r1 p_r2 p_r3:Int)(p_ms:List MemT)(p_ls:List Label)(p_is:List Ins)(mem:List Int)(l:List Ent)(i addr:Int)(hl:l.length<1073741824)(A:List Blk)(nb:Nat)(us:List Nat):Y1 false E (Z5 E fn (dp+3)) 137 A nb (some ([.agg [vi p_w,vi p_wn,vi p_fu,vi p_r0,vi p_r1,vi p_r2,vi p_r3,rD p_ms,rD p_ls,rD p_is],rD mem,rD l,vi i,vi addr],us))=some (.made (.d (.tup [vi (Md.load (⟨p_w,p_wn,p_fu,⟨p_r0,p_r1,p_r2,p_r3⟩,p_ms,p_ls,p_is⟩:Prog) mem l i addr).1,vi (Md.load (⟨p_w,p_wn,p_fu,⟨p_r0,p_r1,p_r2,p_r3⟩,p_ms,p_ls,p_is⟩:Prog) mem l i addr).2.1,vb (Md.load (⟨p_w,p_wn,p_fu,⟨p_r0,p_r1,p_r2,p_r3⟩,p_ms,p_ls,p_is⟩:Prog) mem l i addr).2.2])) []):=
 Z6.flat (Zff S dp (⟨p_w,p_wn,p_fu,⟨p_r0,p_r1,p_r2,p_r3⟩,p_ms,p_ls,p_is⟩:Prog) mem l i addr hl) (np S 137 (by decide)) (rfl) A nb us
end
section
variable (S:Sur E fn)
include S
theorem X2:E.lives 148 7=none/\E.lives 148 17=none/\E.lives 148 19=none:=⟨off S 148 7 (by decide) rfl,off S 148 17 (by decide) rfl,off S 148 19 (by decide) rfl⟩
theorem Zmn (dp:Nat)(l:List Ent)(A:List Blk)(nb:Nat):Y1 false E (Z5 E fn (dp+1)) 155 A nb (some ([rD l],[]))=some (.made (.d (.fn (.func 157) [.vptr [rD l]])) []):=by
 have h:Z6 E fn (dp+1) 155 [rD l] (.fn (.func 157) [.vptr [rD l]]):=by
  unfold Z6
  show Zw (Z5 E fn (dp+1) 155 [.d (rD l)] [])=_
  rw[ZU,S.Z6b,ZW,Zaj,ZY _ _ _ _ _ _ _ _ rfl]
  simp only[eG,go_sem,Z2 S,Z1 S,Nat.reduceLT,Nat.reduceEqDiff,Nat.reduceAdd,Nat.reduceMul,Nat.reduceLeDiff,Int.reduceEq,Int.reduceLT,Int.reduceLE,Int.reduceNeg,reduceCtorEq,Qq]
 exact h.deep (np S 155 (by decide)) A nb
theorem Zdn (dp:Nat)(p:Prog)(of:Regs)(l:List Ent)(r:Int)(hl:l.length<1073741824)(kn:K)(kx:Nat->K)(D:Int)(d:AV)(T:List (Nat×AV))
  (h5:ZE d T 5=.ref 0 0 0) (h9:ZE d T 9=.ref 2 0 0) (h10:ZE d T 10=.ref 3 0 0) (h11:ZE d T 11=.ref 4 0 0)
  (hx:∀ A,Zw (kn (mk d 50 T) (.cells ((ZX p).map .d) 0 false:: .cells ((E4 of).map .d) 0 false:: .cells [aI r] 0 false:: .cells [zi] 0 false:: .cells [zb] 0 false::A))=some (.tup [vi D,vb true])):
  ∀(k:Nat),k<=l.length->∀ es,C0 (rC l) 8 true k=some es->∀ A,Zw (HB VD VC [26,27] (Zq E 148) (Z5 E fn (dp+1)) kn kx (Y0 0 [.cell 10 false 1,.cell 11 false 1]) (mk d 50 T) es (.cells ((ZX p).map .d) 0 false:: .cells ((E4 of).map .d) 0 false:: .cells [aI r] 0 false:: .cells [zi] 0 false:: .cells [zb] 0 false::A))=
   some (.tup [vi (Md.CY p r D (l.take k).reverse).1,vb (Md.CY p r D (l.take k).reverse).2]):=by
 intro k
 induction k with
 | zero=>
  intro _ es hes A
  have:es=[]:=by simpa [C0] using hes.symm
  subst this
  exact hx A
 | succ k ih=>
  intro hk es hes A
  obtain⟨e,he⟩:=QB (show k<l.length by omega)
  obtain⟨es0,h0⟩:=Z13 (s:=8) rfl l k (by omega)
  have:=Zn3 (s:=8) rfl he h0 hes
  subst this
  rw[Tk he]
  have ih':=fun A'=>ih (by omega) es0 h0 A'
  rw[HB]
  generalize hK:(fun(x:List AV) (A2:List Blk)=>HB VD VC [26,27] (Zq E 148) (Z5 E fn (dp+1)) kn kx (Y0 0 [.cell 10 false 1,.cell 11 false 1]) (mk d 50 T) es0 A2)=KK
  rw[VD,VC]
  by_cases h1:Md.BZ (Md.at_ p e.pc)=true
  ·by_cases h2 : (Md.at_ p e.pc).d = r
   ·cases h3:e.done<;>simp only[eG,go_sem,Z2 S,Z1 S,Nat.reduceLT,Nat.reduceEqDiff,Nat.reduceAdd,Nat.reduceMul,Nat.reduceLeDiff,Int.reduceEq,Int.reduceLT,Int.reduceLE,Int.reduceNeg,reduceCtorEq,X2 S,h5,h9,h10,h11,D8 S,Z0k S,Md.CY,Md.Ck,h1,eq_true h2,h3]
   ·simp only [eG, go_sem, Z2 S, Z1 S, Nat.reduceLT, Nat.reduceEqDiff, Nat.reduceAdd, Nat.reduceMul, Nat.reduceLeDiff, Int.reduceEq, Int.reduceLT, Int.reduceLE, Int.reduceNeg, reduceCtorEq, X2 S, h5, h9, h10, h11, D8 S, Z0k S, Md.CY, Md.Ck, h1, eq_false h2]
    rw[<-hK]
    exact ih' _
  ·have h1' : Md.BZ (Md.at_ p e.pc) = false := by simpa using h1
   simp only[eG,go_sem,Z2 S,Z1 S,Nat.reduceLT,Nat.reduceEqDiff,Nat.reduceAdd,Nat.reduceMul,Nat.reduceLeDiff,Int.reduceEq,Int.reduceLT,Int.reduceLE,Int.reduceNeg,reduceCtorEq,X2 S,h5,h9,h10,h11,D8 S,Z0k S,Md.CY,Md.Ck,h1']
   rw[<-hK]
   exact ih' _
end
end Go.Aug.Mc
