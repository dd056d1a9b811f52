import Derived.Test.YtmfdoekbjkgckaaGreatEvPc
import Derived.Test.YtmfdoekbjkgckaaGreatMc9
import Derived.Test.YtmfdoekbjkgckaaGreatMc3
namespace Go.Aug
open Go
set_option linter.unusedSimpArgs false
theorem J1 (E:Env)(l:Nat->Option (List Nat))(m:Nat)(call:cT)(tm:List AV)(A:List Blk)(nb:Nat)(g:FuncId)(args:List Opd)(h:Yj g E.br=true):
  oK (.f g) args { br:=E.br,th:=E.th,prim:=E.prim,back:=E.back,lives:=E.lives,live:=l,nb0:=m } call tm A nb=G7 call g (args.map (look tm)) A (QD A 0 100000 ((args.map (look tm)).flatMap (Q2 8)) []):=by
 show K2 { br:=E.br,th:=E.th,prim:=E.prim,back:=E.back,lives:=E.lives,live:=l,nb0:=m } call A nb (some (g,args.map (look tm)++[]))=_
 rw[List.append_nil]
 show FQ { br:=E.br,th:=E.th,prim:=E.prim,back:=E.back,lives:=E.lives,live:=l,nb0:=m } call g (args.map (look tm)) A nb=_
 unfold FQ
 show(bif Yj g E.br then _ else _)=_
 rw[h,cond_true]
theorem Aj (call:cT)(f:FuncId)(args:List AV)(A:List Blk)(ids:List Nat):G7 call f args A ids=G8 A ids (YF A ids) (call f (args.map (Yz A 0 ids 8)) (Yq A 0 ids)):=id rfl
theorem AN (A:List Blk)(ids vs:List Nat)(x:AV)(B:List Blk):G8 A ids vs (some (x,B))=bif Nat.ble ids.length B.length&&FR vs B then some (.turned (J2 ids vs A.length 8 x) (CK ids vs A.length A ids vs B++(B.drop ids.length).map (B4 ids vs A.length 0))) else none:=id rfl
theorem B3 (A:List Blk)(ids vs:List Nat)(b:Bool)(x y:Option (AV×List Blk)):G8 A ids vs (bif b then x else y)=bif b then G8 A ids vs x else G8 A ids vs y:=by cases b<;>rfl
theorem EC (A:List Blk)(ids vs:List Nat)(b:Prop) [Decidable b] (x y:Option (AV×List Blk)):G8 A ids vs (if b then x else y)=if b then G8 A ids vs x else G8 A ids vs y:=by split<;>rfl
def Z3m:Option Blk->Nat
 | some (.cells _ v _)=>v
 | _=>0
theorem AP (cs:List AV)(v:Nat)(ro:Bool):Z3m (some (.cells cs v ro))=v:=id rfl
theorem Aq (A:List Blk):YF A []=[]:=id rfl
theorem Ax (A:List Blk)(i:Nat)(l:List Nat):YF A (i::l)=Z3m A[i]? ::YF A l:=by
 show(QZ A i).getD 0::YF A l=_
 unfold QZ
 cases A[i]? with
 | none=>rfl
 | some b=>cases b<;>rfl
theorem AZ (B:List Blk):FR [] B=true:=id rfl
theorem B0 (v:Nat)(vs:List Nat)(cs:List AV)(w:Nat)(ro:Bool)(bs:List Blk):FR (v::vs) (.cells cs w ro::bs)=FR vs bs:=id rfl
theorem AS (ids vs:List Nat)(nb n:Nat)(y:DV):J2 ids vs nb (n+1) (.d y)=.d y:=id rfl
theorem AU (ids vs:List Nat)(nb n:Nat)(cs:List AV):J2 ids vs nb (n+1) (.agg cs)=.agg (cs.map (J2 ids vs nb n)):=id rfl
theorem AQ (ids vs:List Nat)(nb n:Nat)(cs:List AV):J2 ids vs nb (n+1) (.tup cs)=.tup (cs.map (J2 ids vs nb n)):=id rfl
def XB (o len sz:Nat)(k:Option Nat)(v0 v nb:Nat):Option Nat->AV
 | some i=>.sref i v0 o len sz k
 | none=>.sref nb v o len sz k
theorem AW (o len sz:Nat)(k:Option Nat)(v0 v nb i:Nat):XB o len sz k v0 v nb (some i)=.sref i v0 o len sz k:=id rfl
theorem AX (o len sz:Nat)(k:Option Nat)(v0 v nb:Nat):XB o len sz k v0 v nb none=.sref nb v o len sz k:=id rfl
theorem AR (ids vs:List Nat)(nb n m v o len sz:Nat)(k:Option Nat):J2 ids vs nb (n+1) (.sref m v o len sz k)=XB o len sz k (vs.getD m 0+v) v (nb+(m-ids.length)) ids[m]? :=by
 show(match ids[m]? with | some i=>AV.sref i (vs.getD m 0+v) o len sz k | none=>.sref (nb+(m-ids.length)) v o len sz k)=_
 cases ids[m]? <;>rfl
theorem GB (ids vs:List Nat)(nb n:Nat):(J2 ids vs nb (n+1)) ∘ AV.d=AV.d:=rfl
theorem Az (ids vs:List Nat)(nb n:Nat)(l:List DV):(l.map AV.d).map (J2 ids vs nb (n+1))=l.map AV.d:=by rw[List.map_map,GB]
theorem Aw (ids vs:List Nat)(nb dv:Nat)(cs:List AV)(v:Nat)(ro:Bool):B4 ids vs nb dv (.cells cs v ro)=.cells (cs.map (J2 ids vs nb 8)) (dv+v) ro:=id rfl
theorem AC (ids vs:List Nat)(nb:Nat)(A:List Blk)(us:List Nat)(bs:List Blk):CK ids vs nb A [] us bs=A:=by cases us<;>cases bs<;>rfl
theorem AY (ids vs:List Nat)(nb:Nat)(A:List Blk)(i:Nat)(is:List Nat)(v:Nat)(us:List Nat)(b:Blk)(bs:List Blk):CK ids vs nb A (i::is) (v::us) (b::bs)=CK ids vs nb (A.set i (B4 ids vs nb v b)) is us bs:=id rfl
theorem Eq (b:Bool)(x y:List AV)(f:AV->AV):(bif b then x else y).map f=bif b then x.map f else y.map f:=by cases b<;>rfl
theorem YR (n0:Nat)(x:AV)(A:List Blk):DE n0 (some (x,A))=some (Yz A n0 (QD A n0 100000 (Q2 8 x++(A.take n0).flatMap fun b=>Dx (some b)) []) 8 x,Yq A n0 (QD A n0 100000 (Q2 8 x++(A.take n0).flatMap fun b=>Dx (some b)) [])):=id rfl
def XM (n0 v:Nat):Option Blk->Option Nat->Option (Nat×Nat)
 | some (.cells _ v' _),some m=>if v'=v then some (n0+m,0) else none
 | some (.iter _ _),some m=>if 0=v then some (n0+m,0) else none
 | _,_=>none
theorem YH (n0 v v':Nat)(cs:List AV)(ro:Bool)(m:Nat):XM n0 v (some (.cells cs v' ro)) (some m)=if v'=v then some (n0+m,0) else none:=id rfl
theorem Zcx {α:Type}(a b:Nat)(x y:α):(bif Nat.beq a b then x else y)=if a=b then x else y:=by
 by_cases h:a=b
 ·subst h;simp
 ·have:Nat.beq a b=false:=by
   cases hb:Nat.beq a b with
   | false=>rfl
   | true=>exact absurd (Nat.eq_of_beq_eq_true hb) h
  rw[this,if_neg h];rfl
theorem YG (A:List Blk)(n0:Nat)(ids:List Nat)(i v:Nat):spot A n0 ids i v=if i<n0 then some (i,v) else XM n0 v A[i]? (QY ids i):=by
 show(bif Nat.blt i n0 then _ else _)=_
 by_cases h:i<n0
 ·rw[show Nat.blt i n0=true from Nat.ble_eq_true_of_le h,if_pos h];rfl
 ·have hb:Nat.blt i n0=false:=by
   cases hq:Nat.blt i n0 with
   | false=>rfl
   | true=>exact absurd (Nat.le_of_ble_eq_true hq) h
  rw[hb,cond_false,if_neg h]
  unfold QZ
  cases A[i]? with
  | none=>rfl
  | some b=>
   cases b with
   | cells cs v' ro=>
    cases QY ids i with
    | none=>rfl
    | some m=>exact Zcx _ _ _ _
   | iter s p=>
    cases QY ids i with
    | none=>rfl
    | some m=>exact Zcx _ _ _ _
   | free=>rfl
theorem YK (A:List Blk)(n0:Nat)(ids:List Nat):Yq A n0 ids=(A.take n0).map (BJ A n0 ids true)++ids.map fun i=>BJ A n0 ids false (A.getD i .free):=id rfl
theorem YM (A:List Blk)(n0:Nat)(ids:List Nat)(keep:Bool)(cs:List AV)(v:Nat)(ro:Bool):BJ A n0 ids keep (.cells cs v ro)=.cells (cs.map (Yz A n0 ids 8)) (bif keep then v else 0) ro:=id rfl
theorem ZD (len s nb:Nat)(cs:List AV):Kv true len s nb (some cs)=P7 len s nb cs (Ez cs):=id rfl
theorem ZE (len s nb:Nat)(cs:List AV)(ds:List DV):P7 len s nb cs (some ds)=some (.made (.d (.lst ds len (some len))) []):=id rfl
theorem ZF:Ez []=some []:=id rfl
theorem ZG (x:DV)(l:List AV):Ez (.d x::l)=(Ez l).map (x:: ·):=id rfl
section
variable {l:List Ent} {k:Nat} {e:Ent}
theorem Zpl (h:k<l.length):(l.set k e)[k]? =some e:=by rw[List.getElem?_set_self h]
theorem TP (h:k<l.length)(j:Nat)(hj:j<=8):((rC (l.set k e)).map AV.d).drop (k*8+j)=((Cl.cells e).map AV.d).drop j++((rC (l.drop (k+1))).map AV.d):=by
 have e2:l.set k e=l.take k++e::l.drop (k+1):=List.set_eq_take_append_cons_drop.trans (if_pos h)
 have e3:rC (l.set k e)=rC (l.take k)++(Cl.cells e++rC (l.drop (k+1))):=by rw[e2,ER];rfl
 have hl:(rC (l.take k)).length=k*8:=by rw[QX,List.length_take,Nat.min_eq_left (by omega)];rfl
 have hl':((rC (l.take k)).map AV.d).length=k*8:=by rw[List.length_map,hl]
 rw[e3]
 simp only[List.map_append]
 rw[<-hl',<-List.drop_drop,List.drop_left,List.drop_append_of_le_length (by simpa [Z2b] using hj)]
section
variable (h:k<l.length)
include h
theorem CN:BH false 1 (((rC (l.set k e)).map AV.d).drop (k*8))=some (.d (vi e.pc)):=by
 have:=TP (e:=e) h 0 (by decide)
 rw[Nat.add_zero] at this;rw[this];rfl
theorem BM:BH false 1 (((rC (l.set k e)).map AV.d).drop (k*8+2))=some (.d (vi e.addr)):=by rw[TP h 2 (by decide)];rfl
theorem Z7b:BH false 1 (((rC (l.set k e)).map AV.d).drop (k*8+4))=some (.d (vi e.next)):=by rw[TP h 4 (by decide)];rfl
theorem wr (i v o:Nat)(A:List Blk)(e':Ent)(x:DV)(h1:AV.one (.d x)=true)(ho:o<8)(hs:splice (Cl.cells e) o [x]=Cl.cells e'):
  storeAt A i v (k*8+o) [.d x] 1 (some (.cells ((rC (l.set k e)).map .d) v false))=some (A.set i (.cells ((rC (l.set k e')).map .d) v false)):=by
 have:=Mw (A:=A) (i:=i) (v:=v) (o:=o) (n:=1) (e':=e') (xs:=[.d x]) [x] (Zpl (e:=e) h) rfl rfl (by simp[h1]) hs (by simp;exact ho) 8 rfl (k*8+o) rfl
 rw[this,List.set_set]
theorem D9 (i v:Nat)(A:List Blk)(n:Int):storeAt A i v (k*8+1) [.d (vi n)] 1 (some (.cells ((rC (l.set k e)).map .d) v false))=some (A.set i (.cells ((rC (l.set k { e with val:=n })).map .d) v false)):=wr h i v 1 A _ _ rfl (by decide) rfl
theorem D8 (i v:Nat)(A:List Blk)(n:Int):storeAt A i v (k*8+2) [.d (vi n)] 1 (some (.cells ((rC (l.set k e)).map .d) v false))=some (A.set i (.cells ((rC (l.set k { e with addr:=n })).map .d) v false)):=wr h i v 2 A _ _ rfl (by decide) rfl
theorem CU (i v:Nat)(A:List Blk)(n:Int):storeAt A i v (k*8+3) [.d (vi n)] 1 (some (.cells ((rC (l.set k e)).map .d) v false))=some (A.set i (.cells ((rC (l.set k { e with frm:=n })).map .d) v false)):=wr h i v 3 A _ _ rfl (by decide) rfl
theorem Zgh (i v:Nat)(A:List Blk)(n:Int):storeAt A i v (k*8+4) [.d (vi n)] 1 (some (.cells ((rC (l.set k e)).map .d) v false))=some (A.set i (.cells ((rC (l.set k { e with next:=n })).map .d) v false)):=wr h i v 4 A _ _ rfl (by decide) rfl
theorem C1 (i v:Nat)(A:List Blk)(b:Bool):storeAt A i v (k*8+6) [.d (vb b)] 1 (some (.cells ((rC (l.set k e)).map .d) v false))=some (A.set i (.cells ((rC (l.set k { e with known:=b })).map .d) v false)):=wr h i v 6 A _ _ rfl (by decide) rfl
theorem C0 (i v:Nat)(A:List Blk)(b:Bool):storeAt A i v (k*8+7) [.d (vb b)] 1 (some (.cells ((rC (l.set k e)).map .d) v false))=some (A.set i (.cells ((rC (l.set k { e with fault:=b })).map .d) v false)):=wr h i v 7 A _ _ rfl (by decide) rfl
end
theorem BC (n:Nat)(hn:n<=l.length):n*8<=((rC l).map AV.d).length:=by
 rw[List.length_map,QX];exact Nat.mul_le_mul_right _ hn
theorem BR (A:List Blk)(m n:Nat):YQ (deep A (m+1)) (((rC l).map AV.d).take (n*8))=some (rC (l.take n),[]):=by
 rw[<-List.map_take,show n*8=n*Cl.n Ent from rfl,SM,HE]
theorem BF:DV.lst (rC (l.set k e)) l.length none=rD (l.set k e):=by
 unfold rD;rw[List.length_set]
theorem BG (n:Nat)(hn:n=l.length):(l.set k e).take n=l.set k e:=List.take_of_length_le (by rw[List.length_set];omega)
end
end Go.Aug
namespace Go.Aug.Mc
open Go Go.Aug
set_option linter.unusedSimpArgs false
set_option linter.unusedVariables false
set_option maxHeartbeats 40000000
variable {E:Env} {fn:FuncId->Option (Env->cT->cT)}
section
variable (S:Sur E fn)
include S
theorem Z67:E.lives 123 7=none:=off S 123 7 (by decide) rfl
theorem HP (dp:Nat)(l:List Ent)(e:Ent)(i to r0 r1 r2 r3 pc en:Int)(mm sk rb:List Int)(h0:0<=i)(h1:i.toNat<l.length)(hl:l.length<1073741824):
  Z4 E fn (dp+1) 123 [.agg [.d (vi r0),.d (vi r1),.d (vi r2),.d (vi r3),.d (rD mm),.d (rD sk),.d (vi pc),.sref 0 0 0 l.length 8 none,.d (rD rb),.d (vi en)],.d (vi i),.d (vi to)] [.cells ((rC (l.set i.toNat e)).map .d) 0 false]=
  bif decide (e.next=to) then some (.tup [.agg [.d (vi r0),.d (vi r1),.d (vi r2),.d (vi r3),.d (rD mm),.d (rD sk),.d (vi pc),.sref 0 0 0 l.length 8 none,.d (rD rb),.d (vi en)],.d (.lst [vi 3,vi to] 1 (some 1))],[.cells ((rC (l.set i.toNat e)).map .d) 0 false])
  else some (.tup [.agg [.d (vi r0),.d (vi r1),.d (vi r2),.d (vi r3),.d (rD mm),.d (rD sk),.d (vi to),.sref 0 0 0 (i.toNat+1) 8 none,.d (rD rb),.d (vi en)],.d (.lst [vi 3,vi to] 1 (some 1))],[.cells ((rC (l.set i.toNat { e with next:=to })).map .d) 0 false]):=by
 have hi:i<l.length:=by omega
 have w1:IntKind.i64.wrap (i+1)=i+1:=Q4 (by omega) (by omega)
 have bd:=H3 l.length .i64 (i+1) (by omega) (by omega)
 have t1:(i+1).toNat=i.toNat+1:=by omega
 rw[ZK,S.Z9b,ZM,Zek,ZP _ _ _ _ _ _ _ _ rfl]
 by_cases h:e.next=to
 ·simp only[go_sem,Z3 S,Z2 S,Nat.reduceLT,Nat.reduceEqDiff,Nat.reduceAdd,Nat.reduceMul,Nat.reduceLeDiff,Int.reduceEq,Int.reduceLT,Int.reduceLE,Int.reduceNeg,reduceCtorEq,Z67 S,YR,YG,YH,YK,YM,List.take_succ_cons,List.take_zero,ZD,ZE,ZF,ZG,Z9,Option.map_some,h0,hi,Z7b h1,h,Bool.not_true,Nat.zero_add]
 ·simp only[go_sem,Z3 S,Z2 S,Nat.reduceLT,Nat.reduceEqDiff,Nat.reduceAdd,Nat.reduceMul,Nat.reduceLeDiff,Int.reduceEq,Int.reduceLT,Int.reduceLE,Int.reduceNeg,reduceCtorEq,Z67 S,YR,YG,YH,YK,YM,List.take_succ_cons,List.take_zero,ZD,ZE,ZF,ZG,Z9,Option.map_some,h0,hi,Z7b h1,h,Bool.not_false,Nat.zero_add,Zgh h1,w1,bd,t1,Nat.zero_mul,Nat.add_zero,Nat.sub_zero,Option.map_none,ne_eq,not_true_eq_false,and_false]
end
open Nat renaming reduceLT -> zN0, reduceEqDiff -> zN1, reduceAdd -> zN2, reduceMul -> zN3, reduceLeDiff -> zN4
open Int renaming reduceEq -> zI0, reduceLT -> zI1, reduceLE -> zI2, reduceNeg -> zI3
def Z7 (l:List MemT):Int:=(l.map fun m=>min (max m.n 0) 16).sum
theorem Nk:∀ l:List MemT,0<=Z7 l/\Z7 l<=16*l.length
 | []=>by simp[Z7]
 | m::l=>by
  have:=Nk l
  simp only[Z7,List.map_cons,List.sum_cons,List.length_cons] at this ⊢
  omega
theorem WH {l:List MemT}{i:Nat}{m:MemT}(h:l[i]? =some m):Z7 (l.take (i+1))=Z7 (l.take i)+min (max m.n 0) 16:=by
 unfold Z7
 rw[XH h,List.map_append,List.sum_append]
 simp
def R3 (p:Prog)(x:Ins)(a b d:Int):Int:=if x.kind=4 then(if a=0 then d else b) else Md.DP p.w x.op a b
def R1 (p:Prog)(x:Ins)(pc a b:Int):Int:=if x.kind=7 then min a p.ins.length else if Md.DP p.w x.op a b=0 then Md.ZY (pc+1) else x.target
variable {E:Env} {fn:FuncId->Option (Env->cT->cT)}
section
variable (S:Sur E fn)
include S
theorem RF:E.lives 140 1=none:=off S 140 1 (by decide) rfl
theorem Z0r:E.lives 101 7=none/\E.lives 101 9=none:=⟨off S 101 7 (by decide) rfl,off S 101 9 (by decide) rfl⟩
theorem Z0q:E.lives 103 7=none/\E.lives 103 13=none:=⟨off S 103 7 (by decide) rfl,off S 103 13 (by decide) rfl⟩
theorem Z65:E.lives 136 9=none:=off S 136 9 (by decide) rfl
theorem Zog (dp:Nat)(l:List MemT)(hl:l.length<1073741824)(kx:Nat->K)(D:Int)
  (hx:∀ T,ZT .bot T 3=aI (Z7 l)->Zk (kx 0 (mk .bot 21 T) [])=some (vi D)):
  ∀(m k fuel:Nat),k+m=l.length->m<=fuel->Zk (PN (Zq E 140) (Z4 E fn dp) (Zj 8 PN (Zq E 140) (Z4 E fn dp) kx (ZX 0 [.tmp 2]) fuel) kx (ZX 0 [.tmp 2])
   (mk .bot 21 [(3,aI (Z7 (l.take k))),(7,.d (rD l)),(8,aI l.length),(9,aI k)]) [])=some (vi D):=by
 intro m
 induction m with
 | zero=>
  intro k fuel hk _
  generalize Zj 8 PN _ _ kx _ fuel=KK
  rw[PN,List.take_of_length_le (by omega)]
  simp only[eG,go_sem,Z3 S,Z2 S,zN0,zN1,zN2,zN3,zN4,zI0,zI1,zI2,zI3,reduceCtorEq,RF S,show ¬(k:Int)<l.length by omega]
  exact hx _ rfl
 | succ m ih=>
  intro k fuel hk hf
  obtain⟨e,he⟩:=YX (show k<l.length by omega)
  obtain⟨fuel,rfl⟩:∃ m,fuel=m+1:=⟨fuel-1,by omega⟩
  generalize hK:Zj 8 PN _ _ kx _ (fuel+1)=KK
  rw[PN]
  have hb:=Nk (l.take k)
  have hbl:(l.take k).length<=l.length:=by simp;omega
  have hw:IntKind.i64.wrap (Z7 (l.take k)+min (max e.n 0) 16)=Z7 (l.take (k+1)):=by
   rw[WH he]
   exact Q4 (by omega) (by omega)
  simp only[eG,go_sem,Z3 S,Z2 S,zN0,zN1,zN2,zN3,zN4,zI0,zI1,zI2,zI3,reduceCtorEq,RF S,show(k:Int)<l.length by omega,Zz he,wi k (by omega),hw]
  rw[<-hK,Z8 (on S _ _ [3,7,8,9] (by decide) rfl) rfl _ _ _ _ _ _ _ _ _ rfl]
  simp only[eG,go_sem,Z3 S,Z2 S,zN0,zN1,zN2,zN3,zN4,zI0,zI1,zI2,zI3,reduceCtorEq,RF S]
  exact ih (k+1) fuel (by omega) (by omega)
theorem Zkt (dp:Nat)(p:Prog)(hm:p.mems.length<1073741824):Z6 E fn (dp+1) 140 [Zw p] (vi (Z7 p.mems)):=by
 unfold Z6
 show Zk (Z4 E fn (dp+1) 140 [.d (Zw p)] [])=_
 rw[ZK,S.Zb6,ZM,Zgf,ZP _ _ _ _ _ _ _ _ rfl]
 simp only[eG,go_sem,Z3 S,Z2 S,zN0,zN1,zN2,zN3,zN4,zI0,zI1,zI2,zI3,reduceCtorEq,RF S]
 rw[Y9,Z8 (on S _ _ [3,7,8,9] (by decide) rfl) rfl _ _ _ _ _ _ _ _ _ rfl]
 simp only[eG,go_sem,Z3 S,Z2 S,zN0,zN1,zN2,zN3,zN4,zI0,zI1,zI2,zI3,reduceCtorEq,RF S]
 refine Zog S dp p.mems hm _ (Z7 p.mems) ?_ p.mems.length 0 _ (by omega) (by omega)
 intro T h3
 simp only[eG,go_sem,Z3 S,Z2 S,zN0,zN1,zN2,zN3,zN4,zI0,zI1,zI2,zI3,reduceCtorEq,RF S,h3]
theorem Zs4 (dp:Nat)(p_w p_wn p_fu p_r0 p_r1 p_r2 p_r3:Int)(p_ms:List MemT)(p_ls:List Label)(p_is:List Ins)(hm:(⟨p_w,p_wn,p_fu,⟨p_r0,p_r1,p_r2,p_r3⟩,p_ms,p_ls,p_is⟩:Prog).mems.length<1073741824)(A:List Blk)(nb:Nat)(us:List Nat):ZH false E (Z4 E fn (dp+1)) 140 A nb (some ([.agg [vi p_w,vi p_wn,vi p_fu,vi p_r0,vi p_r1,vi p_r2,vi p_r3,rD p_ms,rD p_ls,rD p_is]],us))=some (.made (.d (vi (Z7 (⟨p_w,p_wn,p_fu,⟨p_r0,p_r1,p_r2,p_r3⟩,p_ms,p_ls,p_is⟩:Prog).mems))) []):=
 Z6.flat (Zkt S dp (⟨p_w,p_wn,p_fu,⟨p_r0,p_r1,p_r2,p_r3⟩,p_ms,p_ls,p_is⟩:Prog) hm) (np S 140 (by decide)) (rfl) A nb us
theorem Zip (dp:Nat)(p:Prog)(x:Ins)(a b d:Int):Z6 E fn (dp+5) 101 [Zw p,.agg (Cl.cells x),vi a,vi b,vi d] (vi (R3 p x a b d)):=by
 unfold Z6
 show Zk (Z4 E fn (dp+4+1) 101 [.d (Zw p),.d (.agg (Cl.cells x)),.d (vi a),.d (vi b),.d (vi d)] [])=_
 rw[ZK,S.Z8p,ZM,Zdz,ZP _ _ _ _ _ _ _ _ rfl]
 by_cases h:x.kind=4
 ·by_cases h2 : a = 0
  ·simp only[eG,go_sem,Z3 S,Z2 S,zN0,zN1,zN2,zN3,zN4,zI0,zI1,zI2,zI3,reduceCtorEq,Z0r S,h,eq_true h2,R3,Bool.not_true,Bool.not_false]
  ·simp only[eG,go_sem,Z3 S,Z2 S,zN0,zN1,zN2,zN3,zN4,zI0,zI1,zI2,zI3,reduceCtorEq,Z0r S,h,eq_false h2,R3,Bool.not_true,Bool.not_false]
 ·simp only[eG,go_sem,Z3 S,Z2 S,zN0,zN1,zN2,zN3,zN4,zI0,zI1,zI2,zI3,reduceCtorEq,Z0r S,h,R3,Z2e S]
theorem Zrp (dp:Nat)(p_w p_wn p_fu p_r0 p_r1 p_r2 p_r3:Int)(p_ms:List MemT)(p_ls:List Label)(p_is:List Ins)(x_k x_o x_d:Int)(x_ag:Bool)(x_an:Int)(x_bg:Bool)(x_bn:Int)(x_nm:ByteArray)(x_tg a b d:Int)(A:List Blk)(nb:Nat)(us:List Nat):ZH false E (Z4 E fn (dp+5)) 101 A nb (some ([.agg [vi p_w,vi p_wn,vi p_fu,vi p_r0,vi p_r1,vi p_r2,vi p_r3,rD p_ms,rD p_ls,rD p_is],.agg [vi x_k,vi x_o,vi x_d,vb x_ag,vi x_an,vb x_bg,vi x_bn,vt x_nm,vi x_tg],vi a,vi b,vi d],us))=some (.made (.d (vi (R3 (⟨p_w,p_wn,p_fu,⟨p_r0,p_r1,p_r2,p_r3⟩,p_ms,p_ls,p_is⟩:Prog) (⟨x_k,x_o,x_d,⟨x_ag,x_an⟩,⟨x_bg,x_bn⟩,x_nm,x_tg⟩:Ins) a b d))) []):=
 Z6.flat (Zip S dp (⟨p_w,p_wn,p_fu,⟨p_r0,p_r1,p_r2,p_r3⟩,p_ms,p_ls,p_is⟩:Prog) (⟨x_k,x_o,x_d,⟨x_ag,x_an⟩,⟨x_bg,x_bn⟩,x_nm,x_tg⟩:Ins) a b d ) (np S 101 (by decide)) (rfl) A nb us
theorem Zio (dp:Nat)(p:Prog)(x:Ins)(pc a b:Int):Z6 E fn (dp+5) 103 [Zw p,.agg (Cl.cells x),vi pc,vi a,vi b] (vi (R1 p x pc a b)):=by
 unfold Z6
 show Zk (Z4 E fn (dp+4+1) 103 [.d (Zw p),.d (.agg (Cl.cells x)),.d (vi pc),.d (vi a),.d (vi b)] [])=_
 rw[ZK,S.Z8o,ZM,Zdy,ZP _ _ _ _ _ _ _ _ rfl]
 by_cases h:x.kind=7
 ·simp only[eG,go_sem,Z3 S,Z2 S,zN0,zN1,zN2,zN3,zN4,zI0,zI1,zI2,zI3,reduceCtorEq,Z0q S,h,R1]
 ·by_cases h2 : Md.DP p.w x.op a b = 0
  ·simp only[eG,go_sem,Z3 S,Z2 S,zN0,zN1,zN2,zN3,zN4,zI0,zI1,zI2,zI3,reduceCtorEq,Z0q S,h,R1,Z2e S,h2,Bool.not_true,Bool.not_false,Md.ZY]
  ·simp only[eG,go_sem,Z3 S,Z2 S,zN0,zN1,zN2,zN3,zN4,zI0,zI1,zI2,zI3,reduceCtorEq,Z0q S,h,R1,Z2e S,h2,Bool.not_true,Bool.not_false,Md.ZY]
theorem Zro (dp:Nat)(p_w p_wn p_fu p_r0 p_r1 p_r2 p_r3:Int)(p_ms:List MemT)(p_ls:List Label)(p_is:List Ins)(x_k x_o x_d:Int)(x_ag:Bool)(x_an:Int)(x_bg:Bool)(x_bn:Int)(x_nm:ByteArray)(x_tg pc a b:Int)(A:List Blk)(nb:Nat)(us:List Nat):ZH false E (Z4 E fn (dp+5)) 103 A nb (some ([.agg [vi p_w,vi p_wn,vi p_fu,vi p_r0,vi p_r1,vi p_r2,vi p_r3,rD p_ms,rD p_ls,rD p_is],.agg [vi x_k,vi x_o,vi x_d,vb x_ag,vi x_an,vb x_bg,vi x_bn,vt x_nm,vi x_tg],vi pc,vi a,vi b],us))=some (.made (.d (vi (R1 (⟨p_w,p_wn,p_fu,⟨p_r0,p_r1,p_r2,p_r3⟩,p_ms,p_ls,p_is⟩:Prog) (⟨x_k,x_o,x_d,⟨x_ag,x_an⟩,⟨x_bg,x_bn⟩,x_nm,x_tg⟩:Ins) pc a b))) []):=
 Z6.flat (Zio S dp (⟨p_w,p_wn,p_fu,⟨p_r0,p_r1,p_r2,p_r3⟩,p_ms,p_ls,p_is⟩:Prog) (⟨x_k,x_o,x_d,⟨x_ag,x_an⟩,⟨x_bg,x_bn⟩,x_nm,x_tg⟩:Ins) pc a b ) (np S 103 (by decide)) (rfl) A nb us
theorem Zir (dp:Nat)(p:Prog)(a b:Int)(hm:p.mems.length<1073741824):Z6 E fn (dp+4) 107 [Zw p,vi a,vi b] (.tup [vi (Md.Y2 p.w (a+b)),vb (decide (Md.Y2 p.w (a+b)<Z7 p.mems))]):=by
 unfold Z6
 show Zk (Z4 E fn (dp+3+1) 107 [.d (Zw p),.d (vi a),.d (vi b)] [])=_
 rw[ZK,S.Z8r,ZM,Ze1,ZP _ _ _ _ _ _ _ _ rfl]
 simp only[eG,go_sem,Z3 S,Z2 S,zN0,zN1,zN2,zN3,zN4,zI0,zI1,zI2,zI3,reduceCtorEq,Z2d S,Md.A0,Zs4 S,hm]
theorem TX (dp:Nat)(p_w p_wn p_fu p_r0 p_r1 p_r2 p_r3:Int)(p_ms:List MemT)(p_ls:List Label)(p_is:List Ins)(a b:Int)(hm:(⟨p_w,p_wn,p_fu,⟨p_r0,p_r1,p_r2,p_r3⟩,p_ms,p_ls,p_is⟩:Prog).mems.length<1073741824)(A:List Blk)(nb:Nat)(us:List Nat):ZH false E (Z4 E fn (dp+4)) 107 A nb (some ([.agg [vi p_w,vi p_wn,vi p_fu,vi p_r0,vi p_r1,vi p_r2,vi p_r3,rD p_ms,rD p_ls,rD p_is],vi a,vi b],us))=some (.made (.d (.tup [vi (Md.Y2 (⟨p_w,p_wn,p_fu,⟨p_r0,p_r1,p_r2,p_r3⟩,p_ms,p_ls,p_is⟩:Prog).w (a+b)),vb (decide (Md.Y2 (⟨p_w,p_wn,p_fu,⟨p_r0,p_r1,p_r2,p_r3⟩,p_ms,p_ls,p_is⟩:Prog).w (a+b)<Z7 (⟨p_w,p_wn,p_fu,⟨p_r0,p_r1,p_r2,p_r3⟩,p_ms,p_ls,p_is⟩:Prog).mems))])) []):=
 Z6.flat (Zir S dp (⟨p_w,p_wn,p_fu,⟨p_r0,p_r1,p_r2,p_r3⟩,p_ms,p_ls,p_is⟩:Prog) a b hm) (np S 107 (by decide)) (rfl) A nb us
theorem Z04 (dp:Nat)(l:List Int)(hl:l.length<1073741824):Z6 E fn (dp+1) 136 [rD l] (.tup [vi (Md.Cz l),rD l.dropLast,vb (decide (l.length≠0))]):=by
 unfold Z6
 show Zk (Z4 E fn (dp+1) 136 [.d (rD l)] [])=_
 rw[ZK,S.Z92,ZM,Zeb,ZP _ _ _ _ _ _ _ _ rfl]
 by_cases h:l.length=0
 ·have : l = [] := List.length_eq_zero_iff.1 h
  subst this
  simp only[eG,go_sem,Z3 S,Z2 S,zN0,zN1,zN2,zN3,zN4,zI0,zI1,zI2,zI3,reduceCtorEq,Z65 S,List.length_nil,Int.natCast_eq_zero,Md.Cz]
  rfl
 ·have hlast:l[l.length-1]? =some (Md.Cz l):=by
   unfold Md.Cz
   rw[List.getLast?_eq_getElem?]
   obtain⟨e,he⟩:=YX (show l.length-1<l.length by omega)
   rw[he];rfl
  have w2:IntKind.i64.wrap ((l.length:Int)-1)=((l.length-1:Nat):Int):=by rw[Q4 (by omega) (by omega)];omega
  have bd:=H3 l.length .i64 ((l.length-1:Nat):Int) (by omega) (by omega)
  have hdl:l.take (l.length-1)=l.dropLast:=List.dropLast_eq_take.symm
  have hdn:l.dropLast.length<1073741824:=by simp;omega
  simp only[eG,go_sem,Z3 S,Z2 S,zN0,zN1,zN2,zN3,zN4,zI0,zI1,zI2,zI3,reduceCtorEq,Z65 S,eq_false h,Int.natCast_eq_zero,w2,bd,Zz hlast,Int.toNat_natCast,List.drop_zero,Nat.sub_zero,hdl,U0 S hdn,ne_eq,not_false_eq_true]
theorem S3 (dp:Nat)(l:List Int)(hl:l.length<1073741824)(A:List Blk)(nb:Nat):ZH false E (Z4 E fn (dp+1)) 136 A nb (some ([rD l],[]))=some (.made (.d (.tup [vi (Md.Cz l),rD l.dropLast,vb (decide (l.length≠0))])) []):=
 Z6.deep (Z04 S dp l hl) (np S 136 (by decide)) A nb
theorem Zgp (dp:Nat)(l:List Int)(hl:l.length<1073741824)(hf:DV.flat 8 (.tup [vi (Md.Cz l),rD l.dropLast,vb (decide (l.length≠0))])=false)(A:List Blk)(nb ui:Nat)(us:List Nat):ZH false E (Z4 E fn (dp+1)) 136 A nb (some ([rD l],ui::us))=some (.turned (.d (.tup [vi (Md.Cz l),rD l.dropLast,vb (decide (l.length≠0))])) (YT A (ui::us))):=
 Z6.used (Z04 S dp l hl) (np S 136 (by decide)) hf A nb ui us
end
section
variable (S:Sur E fn)
include S
theorem FB:E.lives 137 1=none/\E.lives 137 19=none/\E.lives 137 25=none:=⟨off S 137 1 (by decide) rfl,off S 137 19 (by decide) rfl,off S 137 25 (by decide) rfl⟩
theorem FD:E.lives 108 1=none/\E.lives 108 15=none:=⟨off S 108 1 (by decide) rfl,off S 108 15 (by decide) rfl⟩
theorem Zo8 (dp:Nat)(p:Prog)(mem:List Int)(l:List Ent)(addr:Int)(hl:l.length<1073741824)(kx:Nat->K)
  (hx:∀ T,ZT .bot T 1=.d (rD mem)->ZT .bot T 4=aI addr->∀ A,Zk (kx 0 (mk .bot 65 T) (.cells ((ZZ p).map .d) 0 false::A))=some (.tup [vi (Md.J5 p mem addr []).1,vi (Md.J5 p mem addr []).2.1,vb (Md.J5 p mem addr []).2.2])):
  ∀(k fuel:Nat),k<=l.length->k<fuel->Zk (PM (Zq E 137) (Z4 E fn (dp+1)) (Zj 8 PM (Zq E 137) (Z4 E fn (dp+1)) kx (ZX 0 [.tmp 10,.tmp 11,.tmp 12]) fuel) kx (ZX 0 [.tmp 10,.tmp 11,.tmp 12])
   (mk .bot 65 [(1,.d (rD mem)),(4,aI addr),(5,.ref 0 0 0),(13,.d (rD l)),(14,aI ((k:Int)-1))]) [.cells ((ZZ p).map .d) 0 false])=
   some (.tup [vi (Md.J5 p mem addr (l.take k).reverse).1,vi (Md.J5 p mem addr (l.take k).reverse).2.1,vb (Md.J5 p mem addr (l.take k).reverse).2.2]):=by
 intro k
 induction k with
 | zero=>
  intro fuel _ hf
  generalize Zj 8 PM _ _ kx _ fuel=KK
  rw[PM]
  simp only[eG,go_sem,Z3 S,Z2 S,zN0,zN1,zN2,zN3,zN4,zI0,zI1,zI2,zI3,reduceCtorEq,FB S,show ¬(((0:Nat):Int)-1>=0) by omega,List.take_zero,List.reverse_nil]
  exact hx _ rfl rfl []
 | succ k ih=>
  intro fuel hk hf
  obtain⟨e,he⟩:=YX (show k<l.length by omega)
  obtain⟨fuel,rfl⟩:∃ m,fuel=m+1:=⟨fuel-1,by omega⟩
  rw[show(((k+1:Nat):Int)-1)=(k:Int) by omega,UJ he]
  generalize hK:Zj 8 PM _ _ kx _ (fuel+1)=KK
  rw[PM]
  have hlen:(l.take k).reverse.length=k:=by simp;omega
  by_cases h1:(Md.at_ p e.pc).kind=3
  ·cases h2 : e.known with
   | true=>
    by_cases h3:e.addr=addr
    ·cases h4:e.done<;>simp only[eG,go_sem,Z3 S,Z2 S,zN0,zN1,zN2,zN3,zN4,zI0,zI1,zI2,zI3,reduceCtorEq,FB S,Zz he,Yx S,Int.natCast_nonneg,ge_iff_le,wd k (by omega),Bool.not_true,Bool.not_false,h1,h2,eq_true h3,h4,Md.J5,Md.HN,hlen]
    ·simp only [eG, go_sem, Z3 S, Z2 S, zN0, zN1, zN2, zN3, zN4, zI0, zI1, zI2, zI3, reduceCtorEq, FB S, Zz he, Yx S, Int.natCast_nonneg, ge_iff_le, wd k (by omega), Bool.not_true, Bool.not_false, h1, h2, eq_false h3, Md.J5, Md.HN]
     rw[<-hK,Z8 (on S _ _ [1,4,5,13,14] (by decide) rfl) rfl _ _ _ _ _ _ _ _ _ rfl]
     simp only[eG,go_sem,Z3 S,Z2 S,zN0,zN1,zN2,zN3,zN4,zI0,zI1,zI2,zI3,reduceCtorEq,FB S,Zz he,Yx S,Int.natCast_nonneg,ge_iff_le,wd k (by omega),Bool.not_true,Bool.not_false]
     exact ih fuel (by omega) (by omega)
   | false=>
    simp only[eG,go_sem,Z3 S,Z2 S,zN0,zN1,zN2,zN3,zN4,zI0,zI1,zI2,zI3,reduceCtorEq,FB S,Zz he,Yx S,Int.natCast_nonneg,ge_iff_le,wd k (by omega),Bool.not_true,Bool.not_false,h1,h2,Md.J5,Md.HN]
    rw[<-hK,Z8 (on S _ _ [1,4,5,13,14] (by decide) rfl) rfl _ _ _ _ _ _ _ _ _ rfl]
    simp only[eG,go_sem,Z3 S,Z2 S,zN0,zN1,zN2,zN3,zN4,zI0,zI1,zI2,zI3,reduceCtorEq,FB S,Zz he,Yx S,Int.natCast_nonneg,ge_iff_le,wd k (by omega),Bool.not_true,Bool.not_false]
    exact ih fuel (by omega) (by omega)
  ·simp only [eG, go_sem, Z3 S, Z2 S, zN0, zN1, zN2, zN3, zN4, zI0, zI1, zI2, zI3, reduceCtorEq, FB S, Zz he, Yx S, Int.natCast_nonneg, ge_iff_le, wd k (by omega), Bool.not_true, Bool.not_false, eq_false h1, Md.J5, Md.HN]
   rw[<-hK,Z8 (on S _ _ [1,4,5,13,14] (by decide) rfl) rfl _ _ _ _ _ _ _ _ _ rfl]
   simp only[eG,go_sem,Z3 S,Z2 S,zN0,zN1,zN2,zN3,zN4,zI0,zI1,zI2,zI3,reduceCtorEq,FB S,Zz he,Yx S,Int.natCast_nonneg,ge_iff_le,wd k (by omega),Bool.not_true,Bool.not_false]
   exact ih fuel (by omega) (by omega)
theorem Zk6 (dp:Nat)(p:Prog)(mem:List Int)(l:List Ent)(i addr:Int)(hl:l.length<1073741824):Z6 E fn (dp+3) 137 [Zw p,rD mem,rD l,vi i,vi addr] (.tup [vi (Md.load p mem l i addr).1,vi (Md.load p mem l i addr).2.1,vb (Md.load p mem l i addr).2.2]):=by
 unfold Z6
 show Zk (Z4 E fn (dp+2+1) 137 [.d (Zw p),.d (rD mem),.d (rD l),.d (vi i),.d (vi addr)] [])=_
 rw[ZK,S.Zad,ZM,Zfm,ZP _ _ _ _ _ _ _ _ rfl]
 have hcl:=K1 l i
 have e:(Md.cut l i).take (Md.cut l i).length=Md.cut l i:=List.take_of_length_le (by omega)
 have e2:Md.load p mem l i addr=Md.J5 p mem addr ((Md.cut l i).take (Md.cut l i).length).reverse:=by rw[e];rfl
 rw[e2]
 simp only[eG,go_sem,Z3 S,Z2 S,zN0,zN1,zN2,zN3,zN4,zI0,zI1,zI2,zI3,reduceCtorEq,FB S,PD S,hl,wd _ (show(Md.cut l i).length<4611686018427387904 by omega)]
 rw[Y9,Z8 (on S _ _ [1,4,5,13,14] (by decide) rfl) rfl _ _ _ _ _ _ _ _ _ rfl]
 simp only[eG,go_sem,Z3 S,Z2 S,zN0,zN1,zN2,zN3,zN4,zI0,zI1,zI2,zI3,reduceCtorEq,FB S]
 refine Zo8 S (dp+1) p mem (Md.cut l i) addr (by omega) _ ?_ _ _ (Nat.le_refl _) (by omega)
 intro T h1 h4 A
 by_cases h:addr<0
 ·simp only[eG,go_sem,Z3 S,Z2 S,zN0,zN1,zN2,zN3,zN4,zI0,zI1,zI2,zI3,reduceCtorEq,FB S,h1,h4,h,Md.J5]
 ·by_cases h2 : (mem.length : Int) <= addr
  ·simp only[eG,go_sem,Z3 S,Z2 S,zN0,zN1,zN2,zN3,zN4,zI0,zI1,zI2,zI3,reduceCtorEq,FB S,h1,h4,h,ge_iff_le,h2,Md.J5]
  ·obtain ⟨e, he⟩ := YX (show addr.toNat < mem.length by omega)
   simp only[eG,go_sem,Z3 S,Z2 S,zN0,zN1,zN2,zN3,zN4,zI0,zI1,zI2,zI3,reduceCtorEq,FB S,h1,h4,h,ge_iff_le,h2,Md.J5,E5 (show 0<=addr by omega) he,he,Option.getD_some]
theorem Zs1 (dp:Nat)(p_w p_wn p_fu p_r0 p_r1 p_r2 p_r3:Int)(p_ms:List MemT)(p_ls:List Label)(p_is:List Ins)(mem:List Int)(l:List Ent)(i addr:Int)(hl:l.length<1073741824)(A:List Blk)(nb:Nat)(us:List Nat):ZH false E (Z4 E fn (dp+3)) 137 A nb (some ([.agg [vi p_w,vi p_wn,vi p_fu,vi p_r0,vi p_r1,vi p_r2,vi p_r3,rD p_ms,rD p_ls,rD p_is],rD mem,rD l,vi i,vi addr],us))=some (.made (.d (.tup [vi (Md.load (⟨p_w,p_wn,p_fu,⟨p_r0,p_r1,p_r2,p_r3⟩,p_ms,p_ls,p_is⟩:Prog) mem l i addr).1,vi (Md.load (⟨p_w,p_wn,p_fu,⟨p_r0,p_r1,p_r2,p_r3⟩,p_ms,p_ls,p_is⟩:Prog) mem l i addr).2.1,vb (Md.load (⟨p_w,p_wn,p_fu,⟨p_r0,p_r1,p_r2,p_r3⟩,p_ms,p_ls,p_is⟩:Prog) mem l i addr).2.2])) []):=
 Z6.flat (Zk6 S dp (⟨p_w,p_wn,p_fu,⟨p_r0,p_r1,p_r2,p_r3⟩,p_ms,p_ls,p_is⟩:Prog) mem l i addr hl) (np S 137 (by decide)) (rfl) A nb us
theorem Zo9 (dp:Nat)(p:Prog)(l:List Ent)(i addr:Int)(hl:l.length<1073741824)(kx:Nat->K)
  (hx:∀ T A,Zk (kx 0 (mk .bot 51 T) A)=some (.tup [vi 0,vb false])):
  ∀(m k fuel:Nat),(k+m=l.length∨(m=0/\l.length<=k))->k<=l.length+1->m<=fuel->Zk (PU (Zq E 108) (Z4 E fn (dp+1)) (Zj 6 PU (Zq E 108) (Z4 E fn (dp+1)) kx (ZX 0 [.tmp 8,.tmp 9]) fuel) kx (ZX 0 [.tmp 8,.tmp 9])
   (mk .bot 51 [(1,.d (rD l)),(2,aI i),(3,aI addr),(4,.ref 0 0 0),(10,aI k)]) [.cells ((ZZ p).map .d) 0 false])=
   some (.tup [vi (Md.JW p i addr k (l.drop k)).1,vb (Md.JW p i addr k (l.drop k)).2]):=by
 intro m
 induction m with
 | zero=>
  intro k fuel hk hk2 _
  generalize Zj 6 PU _ _ kx _ fuel=KK
  rw[PU,List.drop_of_length_le (by omega)]
  simp only[eG,go_sem,Z3 S,Z2 S,zN0,zN1,zN2,zN3,zN4,zI0,zI1,zI2,zI3,reduceCtorEq,FD S,show ¬(k:Int)<l.length by omega,Md.JW]
  exact hx _ _
 | succ m ih=>
  intro k fuel hk hk2 hf
  obtain⟨e,he⟩:=YX (show k<l.length by omega)
  obtain⟨fuel,rfl⟩:∃ m,fuel=m+1:=⟨fuel-1,by omega⟩
  generalize hK:Zj 6 PU _ _ kx _ (fuel+1)=KK
  rw[PU,JQ he]
  have h2:(k:Int)<l.length:=by omega
  by_cases k2:(Md.at_ p e.pc).kind=2
  ·cases hk : e.known with
   | true=>
    by_cases ha:e.addr=addr
    ·by_cases hfr : e.frm < i
     ·simp only[eG,go_sem,Z3 S,Z2 S,zN0,zN1,zN2,zN3,zN4,zI0,zI1,zI2,zI3,reduceCtorEq,FD S,Zz he,Yx S,wi k (by omega),h2,k2,hk,eq_true ha,hfr,Md.JW,Md.FK]
     ·simp only [eG, go_sem, Z3 S, Z2 S, zN0, zN1, zN2, zN3, zN4, zI0, zI1, zI2, zI3, reduceCtorEq, FD S, Zz he, Yx S, wi k (by omega), h2, k2, hk, eq_true ha, hfr, Md.JW, Md.FK]
      rw[<-hK,Z8 (on S _ _ [1,2,3,4,10] (by decide) rfl) rfl _ _ _ _ _ _ _ _ _ rfl]
      simp only[eG,go_sem,Z3 S,Z2 S,zN0,zN1,zN2,zN3,zN4,zI0,zI1,zI2,zI3,reduceCtorEq,FD S,Zz he,Yx S,wi k (by omega),h2]
      exact ih (k+1) fuel (by omega) (by omega) (by omega)
    ·simp only [eG, go_sem, Z3 S, Z2 S, zN0, zN1, zN2, zN3, zN4, zI0, zI1, zI2, zI3, reduceCtorEq, FD S, Zz he, Yx S, wi k (by omega), h2, k2, hk, eq_false ha, Md.JW, Md.FK]
     rw[<-hK,Z8 (on S _ _ [1,2,3,4,10] (by decide) rfl) rfl _ _ _ _ _ _ _ _ _ rfl]
     simp only[eG,go_sem,Z3 S,Z2 S,zN0,zN1,zN2,zN3,zN4,zI0,zI1,zI2,zI3,reduceCtorEq,FD S,Zz he,Yx S,wi k (by omega),h2]
     exact ih (k+1) fuel (by omega) (by omega) (by omega)
   | false=>
    simp only[eG,go_sem,Z3 S,Z2 S,zN0,zN1,zN2,zN3,zN4,zI0,zI1,zI2,zI3,reduceCtorEq,FD S,Zz he,Yx S,wi k (by omega),h2,k2,hk,Md.JW,Md.FK]
    rw[<-hK,Z8 (on S _ _ [1,2,3,4,10] (by decide) rfl) rfl _ _ _ _ _ _ _ _ _ rfl]
    simp only[eG,go_sem,Z3 S,Z2 S,zN0,zN1,zN2,zN3,zN4,zI0,zI1,zI2,zI3,reduceCtorEq,FD S,Zz he,Yx S,wi k (by omega),h2]
    exact ih (k+1) fuel (by omega) (by omega) (by omega)
  ·simp only [eG, go_sem, Z3 S, Z2 S, zN0, zN1, zN2, zN3, zN4, zI0, zI1, zI2, zI3, reduceCtorEq, FD S, Zz he, Yx S, wi k (by omega), h2, eq_false k2, Md.JW, Md.FK]
   rw[<-hK,Z8 (on S _ _ [1,2,3,4,10] (by decide) rfl) rfl _ _ _ _ _ _ _ _ _ rfl]
   simp only[eG,go_sem,Z3 S,Z2 S,zN0,zN1,zN2,zN3,zN4,zI0,zI1,zI2,zI3,reduceCtorEq,FD S,Zz he,Yx S,wi k (by omega),h2]
   exact ih (k+1) fuel (by omega) (by omega) (by omega)
theorem Zk7 (dp:Nat)(p:Prog)(l:List Ent)(i addr:Int)(hl:l.length<1073741824)(hi0:i<4611686018427387904)(hi1: -4611686018427387904<i):Z6 E fn (dp+2) 108 [Zw p,rD l,vi i,vi addr] (.tup [vi (Md.JM p l i addr).1,vb (Md.JM p l i addr).2]):=by
 unfold Z6
 show Zk (Z4 E fn (dp+1+1) 108 [.d (Zw p),.d (rD l),.d (vi i),.d (vi addr)] [])=_
 rw[ZK,S.Zae,ZM,Zfn,ZP _ _ _ _ _ _ _ _ rfl]
 have hh:Md.Cv l i<=l.length+1:=by unfold Md.Cv;omega
 have hr:max (IntKind.i64.wrap (min i (l.length:Int)+1)) 0=(Md.Cv l i:Int):=by rw[Q4 (by omega) (by omega)];unfold Md.Cv;omega
 simp only[eG,go_sem,Z3 S,Z2 S,zN0,zN1,zN2,zN3,zN4,zI0,zI1,zI2,zI3,reduceCtorEq,FD S,hr]
 rw[Y9,Z8 (on S _ _ [1,2,3,4,10] (by decide) rfl) rfl _ _ _ _ _ _ _ _ _ rfl]
 simp only[eG,go_sem,Z3 S,Z2 S,zN0,zN1,zN2,zN3,zN4,zI0,zI1,zI2,zI3,reduceCtorEq,FD S]
 refine Zo9 S dp p l i addr hl _ ?_ (l.length-Md.Cv l i) (Md.Cv l i) _ (by omega) hh (by omega)
 intro T A
 simp only[eG,go_sem,Z3 S,Z2 S,zN0,zN1,zN2,zN3,zN4,zI0,zI1,zI2,zI3,reduceCtorEq,FD S]
theorem Zck (dp:Nat)(p_w p_wn p_fu p_r0 p_r1 p_r2 p_r3:Int)(p_ms:List MemT)(p_ls:List Label)(p_is:List Ins)(l:List Ent)(i addr:Int)(hl:l.length<1073741824)(hi0:i<4611686018427387904)(hi1: -4611686018427387904<i)(A:List Blk)(nb:Nat)(us:List Nat):ZH false E (Z4 E fn (dp+2)) 108 A nb (some ([.agg [vi p_w,vi p_wn,vi p_fu,vi p_r0,vi p_r1,vi p_r2,vi p_r3,rD p_ms,rD p_ls,rD p_is],rD l,vi i,vi addr],us))=some (.made (.d (.tup [vi (Md.JM (⟨p_w,p_wn,p_fu,⟨p_r0,p_r1,p_r2,p_r3⟩,p_ms,p_ls,p_is⟩:Prog) l i addr).1,vb (Md.JM (⟨p_w,p_wn,p_fu,⟨p_r0,p_r1,p_r2,p_r3⟩,p_ms,p_ls,p_is⟩:Prog) l i addr).2])) []):=
 Z6.flat (Zk7 S dp (⟨p_w,p_wn,p_fu,⟨p_r0,p_r1,p_r2,p_r3⟩,p_ms,p_ls,p_is⟩:Prog) l i addr hl hi0 hi1) (np S 108 (by decide)) (rfl) A nb us
end
theorem GK {α:Type} [Cl α] {l:List α}(h:l.length=0)(i:Nat):YJ i l=.d (.lst [] 0 (some 0)):=by rw[List.length_eq_zero_iff.1 h];rfl
theorem GJ {α:Type} [Cl α] {l:List α}(h:l.length=0):Yw l=[]:=by rw[List.length_eq_zero_iff.1 h];rfl
variable {E:Env} {fn:FuncId->Option (Env->cT->cT)}
section
variable (S:Sur E fn)
include S
theorem Z0m:E.lives 148 7=none/\E.lives 148 17=none/\E.lives 148 19=none:=⟨off S 148 7 (by decide) rfl,off S 148 17 (by decide) rfl,off S 148 19 (by decide) rfl⟩
theorem Zm3 (dp:Nat)(r0 r1 r2 r3:Int)(mm sk:List Int)(pc:Int)(hm:mm.length<1073741824)(hs:sk.length<1073741824):
  Z4 E fn (dp+1) 115 [.d (.agg [vi r0,vi r1,vi r2,vi r3,rD mm,rD sk,vi pc])] []=some (.agg [aI r0,aI r1,aI r2,aI r3,YJ 0 mm,YJ (Yw mm).length sk,aI pc],Yw mm++Yw sk):=by
 rw[ZK,S.Zb5,ZM,Zge,ZP _ _ _ _ _ _ _ _ rfl]
 by_cases h1:mm.length=0<;>by_cases h2:sk.length=0
 ·simp only[eG,go_sem,Z3 S,Z2 S,zN0,zN1,zN2,zN3,zN4,zI0,zI1,zI2,zI3,reduceCtorEq,E9 S hm,E9 S hs,GK h1,GJ h1,GK h2,GJ h2]
 ·simp only[eG,go_sem,Z3 S,Z2 S,zN0,zN1,zN2,zN3,zN4,zI0,zI1,zI2,zI3,reduceCtorEq,E9 S hm,E9 S hs,GK h1,GJ h1,ZC h2,ZB h2]
 ·simp only[eG,go_sem,Z3 S,Z2 S,zN0,zN1,zN2,zN3,zN4,zI0,zI1,zI2,zI3,reduceCtorEq,E9 S hm,E9 S hs,ZC h1,ZB h1,GK h2,GJ h2]
 ·simp only[eG,go_sem,Z3 S,Z2 S,zN0,zN1,zN2,zN3,zN4,zI0,zI1,zI2,zI3,reduceCtorEq,E9 S hm,E9 S hs,ZC h1,ZB h1,ZC h2,ZB h2]
theorem Vv (dp:Nat)(r0 r1 r2 r3:Int)(mm sk:List Int)(pc:Int)(hm:mm.length<1073741824)(hs:sk.length<1073741824)(A:List Blk)(nb:Nat):
  ZH true E (Z4 E fn (dp+1)) 115 A nb (some ([.agg [vi r0,vi r1,vi r2,vi r3,rD mm,rD sk,vi pc]],[]))=some (.made (.agg [aI r0,aI r1,aI r2,aI r3,YJ nb mm,YJ (nb+(Yw mm).length) sk,aI pc]) (Yw mm++Yw sk)):=by
 have h:=Zm3 S dp r0 r1 r2 r3 mm sk pc hm hs
 have hr:JN E (Z4 E fn (dp+1)) 115 [.agg [vi r0,vi r1,vi r2,vi r3,rD mm,rD sk,vi pc]]=some (.agg [aI r0,aI r1,aI r2,aI r3,YJ 0 mm,YJ (Yw mm).length sk,aI pc],Yw mm++Yw sk):=by
  unfold JN
  rw[np S 115 (by decide)]
  exact h
 simp only[ZH,hr,F0,cond_true]
 by_cases h1:mm.length=0<;>by_cases h2:sk.length=0
 ·have e1 : mm = [] := List.length_eq_zero_iff.1 h1
  have e2:sk=[]:=List.length_eq_zero_iff.1 h2
  subst e1 e2
  rfl
 ·have e1 : mm = [] := List.length_eq_zero_iff.1 h1
  subst e1
  simp[Y4,Y3,ZC h2,ZB h2,Av,DY,DS,B5,Yj,Cl.n]
 ·have e2 : sk = [] := List.length_eq_zero_iff.1 h2
  subst e2
  simp[Y4,Y3,ZC h1,ZB h1,Av,DY,DS,B5,Yj,Cl.n]
 ·simp[ZC h1,ZB h1,ZC h2,ZB h2,Av,DY,DS,B5,Yj,Cl.n]
theorem Z5n (dp:Nat)(r0 r1 r2 r3:Int)(mm sk:List Int)(pc:Int)(bf:List Ent)(rb:List Int)(en:Int)(hm:mm.length<1073741824)(hs:sk.length<1073741824)(hb:bf.length<1073741824)(hr:rb.length<1073741824):
  Z4 E fn (dp+2) 67 [.d (.agg [vi r0,vi r1,vi r2,vi r3,rD mm,rD sk,vi pc,rD bf,rD rb,vi en])] []=some (.agg [aI r0,aI r1,aI r2,aI r3,YJ 0 mm,YJ (Yw mm).length sk,aI pc,.d (rD bf),.d (rD rb),aI en],Yw mm++Yw sk):=by
 rw[ZK,S.Zb0,ZM,Zg9,ZP _ _ _ _ _ _ _ _ rfl]
 by_cases h1:mm.length=0<;>by_cases h2:sk.length=0
 ·simp only[eG,go_sem,Z3 S,Z2 S,zN0,zN1,zN2,zN3,zN4,zI0,zI1,zI2,zI3,reduceCtorEq,Vv S,hm,hs,U1 S hb,U0 S hr,GK h1,GJ h1,GK h2,GJ h2]
 ·simp only[eG,go_sem,Z3 S,Z2 S,zN0,zN1,zN2,zN3,zN4,zI0,zI1,zI2,zI3,reduceCtorEq,Vv S,hm,hs,U1 S hb,U0 S hr,GK h1,GJ h1,ZC h2,ZB h2]
 ·simp only[eG,go_sem,Z3 S,Z2 S,zN0,zN1,zN2,zN3,zN4,zI0,zI1,zI2,zI3,reduceCtorEq,Vv S,hm,hs,U1 S hb,U0 S hr,ZC h1,ZB h1,GK h2,GJ h2]
 ·simp only[eG,go_sem,Z3 S,Z2 S,zN0,zN1,zN2,zN3,zN4,zI0,zI1,zI2,zI3,reduceCtorEq,Vv S,hm,hs,U1 S hb,U0 S hr,ZC h1,ZB h1,ZC h2,ZB h2]
theorem Zkq (dp:Nat)(c:Conf)(hm:c.state.mem.length<1073741824)(hs:c.state.stack.length<1073741824)(hb:c.buf.length<1073741824)(hr:c.rsb.length<1073741824):Z6 E fn (dp+2) 67 [ZA c] (ZA c):=by
 unfold Z6
 show Zk (Z4 E fn (dp+1+1) 67 [.d (ZA c)] [])=_
 have h:=Z5n S dp c.state.regs.r0 c.state.regs.r1 c.state.regs.r2 c.state.regs.r3 c.state.mem c.state.stack c.state.pc c.buf c.rsb c.end_ hm hs hb hr
 show Zk (Z4 E fn (dp+2) 67 [.d (.agg [vi c.state.regs.r0,vi c.state.regs.r1,vi c.state.regs.r2,vi c.state.regs.r3,rD c.state.mem,rD c.state.stack,vi c.state.pc,rD c.buf,rD c.rsb,vi c.end_])] [])=_
 rw[h]
 by_cases h1:c.state.mem.length=0<;>by_cases h2:c.state.stack.length=0
 ·have e1 : c.state.mem = [] := List.length_eq_zero_iff.1 h1
  have e2:c.state.stack=[]:=List.length_eq_zero_iff.1 h2
  simp only[eG,go_sem,Z3 S,Z2 S,zN0,zN1,zN2,zN3,zN4,zI0,zI1,zI2,zI3,reduceCtorEq,e1,e2,Y4,Y3]
 ·have e1 : c.state.mem = [] := List.length_eq_zero_iff.1 h1
  have n2:c.state.stack≠[]:=fun e=>h2 (by rw[e];rfl)
  have d2:deep [.cells ((rC c.state.stack).map .d) 0 false] 7 (.sref 0 0 0 c.state.stack.length 1 none)=some (.lst (rC c.state.stack) c.state.stack.length none,[0]):=BS rfl n2 5 _ 1 none rfl rfl
  simp only[eG,go_sem,Z3 S,Z2 S,zN0,zN1,zN2,zN3,zN4,zI0,zI1,zI2,zI3,reduceCtorEq,e1,Y4,Y3,ZC h2,ZB h2,d2];rfl
 ·have e2 : c.state.stack = [] := List.length_eq_zero_iff.1 h2
  have n1:c.state.mem≠[]:=fun e=>h1 (by rw[e];rfl)
  have d1:deep [.cells ((rC c.state.mem).map .d) 0 false] 7 (.sref 0 0 0 c.state.mem.length 1 none)=some (.lst (rC c.state.mem) c.state.mem.length none,[0]):=BS rfl n1 5 _ 1 none rfl rfl
  simp only[eG,go_sem,Z3 S,Z2 S,zN0,zN1,zN2,zN3,zN4,zI0,zI1,zI2,zI3,reduceCtorEq,e2,Y4,Y3,ZC h1,ZB h1,d1];rfl
 ·have n2 : c.state.stack ≠ [] := fun e => h2 (by rw [e]; rfl)
  have n1:c.state.mem≠[]:=fun e=>h1 (by rw[e];rfl)
  have d1:deep [.cells ((rC c.state.mem).map .d) 0 false,.cells ((rC c.state.stack).map .d) 0 false] 7 (.sref 0 0 0 c.state.mem.length 1 none)=some (.lst (rC c.state.mem) c.state.mem.length none,[0]):=BS rfl n1 5 _ 1 none rfl rfl
  have d2:deep [.cells ((rC c.state.mem).map .d) 0 false,.cells ((rC c.state.stack).map .d) 0 false] 7 (.sref 1 0 0 c.state.stack.length 1 none)=some (.lst (rC c.state.stack) c.state.stack.length none,[1]):=BS rfl n2 5 _ 1 none rfl rfl
  simp only[eG,go_sem,Z3 S,Z2 S,zN0,zN1,zN2,zN3,zN4,zI0,zI1,zI2,zI3,reduceCtorEq,ZC h1,ZB h1,ZC h2,ZB h2,d1,d2];rfl
theorem Z2h (dp:Nat)(c_r0 c_r1 c_r2 c_r3:Int)(c_mm c_st:List Int)(c_pc:Int)(c_bf:List Ent)(c_rb:List Int)(c_en:Int)(hm:(⟨⟨⟨c_r0,c_r1,c_r2,c_r3⟩,c_mm,c_st,c_pc⟩,c_bf,c_rb,c_en⟩:Conf).state.mem.length<1073741824)(hs:(⟨⟨⟨c_r0,c_r1,c_r2,c_r3⟩,c_mm,c_st,c_pc⟩,c_bf,c_rb,c_en⟩:Conf).state.stack.length<1073741824)(hb:(⟨⟨⟨c_r0,c_r1,c_r2,c_r3⟩,c_mm,c_st,c_pc⟩,c_bf,c_rb,c_en⟩:Conf).buf.length<1073741824)(hr:(⟨⟨⟨c_r0,c_r1,c_r2,c_r3⟩,c_mm,c_st,c_pc⟩,c_bf,c_rb,c_en⟩:Conf).rsb.length<1073741824)(A:List Blk)(nb:Nat):ZH false E (Z4 E fn (dp+2)) 67 A nb (some ([.agg [vi c_r0,vi c_r1,vi c_r2,vi c_r3,rD c_mm,rD c_st,vi c_pc,rD c_bf,rD c_rb,vi c_en]],[]))=some (.made (.d (ZA (⟨⟨⟨c_r0,c_r1,c_r2,c_r3⟩,c_mm,c_st,c_pc⟩,c_bf,c_rb,c_en⟩:Conf))) []):=
 Z6.deep (Zkq S dp (⟨⟨⟨c_r0,c_r1,c_r2,c_r3⟩,c_mm,c_st,c_pc⟩,c_bf,c_rb,c_en⟩:Conf) hm hs hb hr) (np S 67 (by decide)) A nb
theorem Zs5 (dp:Nat)(l:List Ent)(A:List Blk)(nb:Nat):ZH false E (Z4 E fn (dp+1)) 155 A nb (some ([rD l],[]))=some (.made (.d (.fn (.func 157) [.vptr [rD l]])) []):=by
 have h:Z6 E fn (dp+1) 155 [rD l] (.fn (.func 157) [.vptr [rD l]]):=by
  unfold Z6
  show Zk (Z4 E fn (dp+1) 155 [.d (rD l)] [])=_
  rw[ZK,S.Z8n,ZM,Zdx,ZP _ _ _ _ _ _ _ _ rfl]
  simp only[eG,go_sem,Z3 S,Z2 S,zN0,zN1,zN2,zN3,zN4,zI0,zI1,zI2,zI3,reduceCtorEq,QE]
 exact h.deep (np S 155 (by decide)) A nb
theorem Zhv (dp:Nat)(p:Prog)(of:Regs)(l:List Ent)(r:Int)(hl:l.length<1073741824)(kn:K)(kx:Nat->K)(D:Int)(d:AV)(T:List (Nat×AV))
  (h5:ZT d T 5=.ref 0 0 0) (h9:ZT d T 9=.ref 2 0 0) (h10:ZT d T 10=.ref 3 0 0) (h11:ZT d T 11=.ref 4 0 0)
  (hx:∀ A,Zk (kn (mk d 50 T) (.cells ((ZZ p).map .d) 0 false:: .cells ((CX of).map .d) 0 false:: .cells [aI r] 0 false:: .cells [zi] 0 false:: .cells [zb] 0 false::A))=some (.tup [vi D,vb true])):
  ∀(k:Nat),k<=l.length->∀ es,D6 (rC l) 8 true k=some es->∀ A,Zk (Kj X5 X4 [26,27] (Zq E 148) (Z4 E fn (dp+1)) kn kx (ZX 0 [.cell 10 false 1,.cell 11 false 1]) (mk d 50 T) es (.cells ((ZZ p).map .d) 0 false:: .cells ((CX of).map .d) 0 false:: .cells [aI r] 0 false:: .cells [zi] 0 false:: .cells [zb] 0 false::A))=
   some (.tup [vi (Md.E6 p r D (l.take k).reverse).1,vb (Md.E6 p r D (l.take k).reverse).2]):=by
 intro k
 induction k with
 | zero=>
  intro _ es hes A
  have:es=[]:=by simpa [D6] using hes.symm
  subst this
  exact hx A
 | succ k ih=>
  intro hk es hes A
  obtain⟨e,he⟩:=YX (show k<l.length by omega)
  obtain⟨es0,h0⟩:=Z30 (s:=8) rfl l k (by omega)
  have:=Zsm (s:=8) rfl he h0 hes
  subst this
  rw[UJ he]
  have ih':=fun A'=>ih (by omega) es0 h0 A'
  rw[Kj]
  generalize hK:(fun(x:List AV) (A2:List Blk)=>Kj X5 X4 [26,27] (Zq E 148) (Z4 E fn (dp+1)) kn kx (ZX 0 [.cell 10 false 1,.cell 11 false 1]) (mk d 50 T) es0 A2)=KK
  rw[X5,X4]
  by_cases h1:Md.D5 (Md.at_ p e.pc)=true
  ·by_cases h2 : (Md.at_ p e.pc).d = r
   ·cases h3:e.done<;>simp only[eG,go_sem,Z3 S,Z2 S,zN0,zN1,zN2,zN3,zN4,zI0,zI1,zI2,zI3,reduceCtorEq,Z0m S,h5,h9,h10,h11,Yx S,Z2f S,Md.E6,Md.DF,h1,eq_true h2,h3]
   ·simp only [eG, go_sem, Z3 S, Z2 S, zN0, zN1, zN2, zN3, zN4, zI0, zI1, zI2, zI3, reduceCtorEq, Z0m S, h5, h9, h10, h11, Yx S, Z2f S, Md.E6, Md.DF, h1, eq_false h2]
    rw[<-hK]
    exact ih' _
  ·have h1' : Md.D5 (Md.at_ p e.pc) = false := by simpa using h1
   simp only[eG,go_sem,Z3 S,Z2 S,zN0,zN1,zN2,zN3,zN4,zI0,zI1,zI2,zI3,reduceCtorEq,Z0m S,h5,h9,h10,h11,Yx S,Z2f S,Md.E6,Md.DF,h1']
   rw[<-hK]
   exact ih' _
end
end Go.Aug.Mc
