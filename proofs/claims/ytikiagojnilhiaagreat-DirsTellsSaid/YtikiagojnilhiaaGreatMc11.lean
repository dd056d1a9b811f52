import Derived.Test.YtikiagojnilhiaaGreatEvPc
import Derived.Test.YtikiagojnilhiaaGreatMc9
import Derived.Test.YtikiagojnilhiaaGreatMc2
import Derived.Test.YtikiagojnilhiaaGreatMc5
namespace Go.Aug
open Go
set_option linter.unusedSimpArgs false
theorem o_callB (E:Env)(l:Nat->Option (List Nat))(m:Nat)(call:CallT)(tm:List AV)(A:List Blk)(nb:Nat)(g:FuncId)(args:List Opd)(h:memN g E.br=true):
  oCall (.f g) args { br:=E.br,th:=E.th,prim:=E.prim,back:=E.back,lives:=E.lives,live:=l,nb0:=m } call tm A nb=brGo call g (args.map (look tm)) A (reach A 0 100000 ((args.map (look tm)).flatMap (refsOf 8)) []):=by
 show callA { br:=E.br,th:=E.th,prim:=E.prim,back:=E.back,lives:=E.lives,live:=l,nb0:=m } call A nb (some (g,args.map (look tm)++[]))=_
 rw[List.append_nil]
 show evCall { br:=E.br,th:=E.th,prim:=E.prim,back:=E.back,lives:=E.lives,live:=l,nb0:=m } call g (args.map (look tm)) A nb=_
 unfold evCall
 show(bif memN g E.br then _ else _)=_
 rw[h,cond_true]
theorem br_go (call:CallT)(f:FuncId)(args:List AV)(A:List Blk)(ids:List Nat):brGo call f args A ids=brBack A ids (versOf A ids) (call f (args.map (ren A 0 ids 8)) (renH A 0 ids)):=id rfl
theorem br_back (A:List Blk)(ids vs:List Nat)(x:AV)(B:List Blk):brBack A ids vs (some (x,B))=bif Nat.ble ids.length B.length&&brOk vs B then some (.turned (unr ids vs A.length 8 x) (putAll ids vs A.length A ids vs B++(B.drop ids.length).map (unrB ids vs A.length 0))) else none:=id rfl
theorem br_backB (A:List Blk)(ids vs:List Nat)(b:Bool)(x y:Option (AV×List Blk)):brBack A ids vs (bif b then x else y)=bif b then brBack A ids vs x else brBack A ids vs y:=by cases b<;>rfl
theorem br_backI (A:List Blk)(ids vs:List Nat)(b:Prop) [Decidable b] (x y:Option (AV×List Blk)):brBack A ids vs (if b then x else y)=if b then brBack A ids vs x else brBack A ids vs y:=by split<;>rfl
def verO:Option Blk->Nat
 | some (.cells _ v _)=>v
 | _=>0
theorem ver_some (cs:List AV)(v:Nat)(ro:Bool):verO (some (.cells cs v ro))=v:=id rfl
theorem ver_nil (A:List Blk):versOf A []=[]:=id rfl
theorem ver_cons (A:List Blk)(i:Nat)(l:List Nat):versOf A (i::l)=verO A[i]? ::versOf A l:=by
 show(blkVer A i).getD 0::versOf A l=_
 unfold blkVer
 cases A[i]? with
 | none=>rfl
 | some b=>cases b<;>rfl
theorem ok_nil (B:List Blk):brOk [] B=true:=id rfl
theorem ok_cons (v:Nat)(vs:List Nat)(cs:List AV)(w:Nat)(ro:Bool)(bs:List Blk):brOk (v::vs) (.cells cs w ro::bs)=brOk vs bs:=id rfl
theorem un_d (ids vs:List Nat)(nb n:Nat)(y:DV):unr ids vs nb (n+1) (.d y)=.d y:=id rfl
theorem un_agg (ids vs:List Nat)(nb n:Nat)(cs:List AV):unr ids vs nb (n+1) (.agg cs)=.agg (cs.map (unr ids vs nb n)):=id rfl
theorem un_tup (ids vs:List Nat)(nb n:Nat)(cs:List AV):unr ids vs nb (n+1) (.tup cs)=.tup (cs.map (unr ids vs nb n)):=id rfl
def unS (o len sz:Nat)(k:Option Nat)(v0 v nb:Nat):Option Nat->AV
 | some i=>.sref i v0 o len sz k
 | none=>.sref nb v o len sz k
theorem unS_some (o len sz:Nat)(k:Option Nat)(v0 v nb i:Nat):unS o len sz k v0 v nb (some i)=.sref i v0 o len sz k:=id rfl
theorem unS_none (o len sz:Nat)(k:Option Nat)(v0 v nb:Nat):unS o len sz k v0 v nb none=.sref nb v o len sz k:=id rfl
theorem un_sref (ids vs:List Nat)(nb n m v o len sz:Nat)(k:Option Nat):unr ids vs nb (n+1) (.sref m v o len sz k)=unS o len sz k (vs.getD m 0+v) v (nb+(m-ids.length)) ids[m]? :=by
 show(match ids[m]? with | some i=>AV.sref i (vs.getD m 0+v) o len sz k | none=>.sref (nb+(m-ids.length)) v o len sz k)=_
 cases ids[m]? <;>rfl
theorem un_comp (ids vs:List Nat)(nb n:Nat):(unr ids vs nb (n+1)) ∘ AV.d=AV.d:=rfl
theorem un_map (ids vs:List Nat)(nb n:Nat)(l:List DV):(l.map AV.d).map (unr ids vs nb (n+1))=l.map AV.d:=by rw[List.map_map,un_comp]
theorem unB_cells (ids vs:List Nat)(nb dv:Nat)(cs:List AV)(v:Nat)(ro:Bool):unrB ids vs nb dv (.cells cs v ro)=.cells (cs.map (unr ids vs nb 8)) (dv+v) ro:=id rfl
theorem put_nil (ids vs:List Nat)(nb:Nat)(A:List Blk)(us:List Nat)(bs:List Blk):putAll ids vs nb A [] us bs=A:=by cases us<;>cases bs<;>rfl
theorem put_cons (ids vs:List Nat)(nb:Nat)(A:List Blk)(i:Nat)(is:List Nat)(v:Nat)(us:List Nat)(b:Blk)(bs:List Blk):putAll ids vs nb A (i::is) (v::us) (b::bs)=putAll ids vs nb (A.set i (unrB ids vs nb v b)) is us bs:=id rfl
theorem map_iteB (b:Bool)(x y:List AV)(f:AV->AV):(bif b then x else y).map f=bif b then x.map f else y.map f:=by cases b<;>rfl
theorem end_b (n0:Nat)(x:AV)(A:List Blk):endN n0 (some (x,A))=some (ren A n0 (reach A n0 100000 (refsOf 8 x++(A.take n0).flatMap fun b=>refsB (some b)) []) 8 x,renH A n0 (reach A n0 100000 (refsOf 8 x++(A.take n0).flatMap fun b=>refsB (some b)) [])):=id rfl
def spN (n0 v:Nat):Option Blk->Option Nat->Option (Nat×Nat)
 | some (.cells _ v' _),some m=>if v'=v then some (n0+m,0) else none
 | some (.iter _ _),some m=>if 0=v then some (n0+m,0) else none
 | _,_=>none
theorem spN_some (n0 v v':Nat)(cs:List AV)(ro:Bool)(m:Nat):spN n0 v (some (.cells cs v' ro)) (some m)=if v'=v then some (n0+m,0) else none:=id rfl
theorem beq_ite {α:Type}(a b:Nat)(x y:α):(bif Nat.beq a b then x else y)=if a=b then x else y:=by
 by_cases h:a=b
 ·subst h;simp
 ·have:Nat.beq a b=false:=by
   cases hb:Nat.beq a b with
   | false=>rfl
   | true=>exact absurd (Nat.eq_of_beq_eq_true hb) h
  rw[this,if_neg h];rfl
theorem sp_lt (A:List Blk)(n0:Nat)(ids:List Nat)(i v:Nat):spot A n0 ids i v=if i<n0 then some (i,v) else spN n0 v A[i]? (idx ids i):=by
 show(bif Nat.blt i n0 then _ else _)=_
 by_cases h:i<n0
 ·rw[show Nat.blt i n0=true from Nat.ble_eq_true_of_le h,if_pos h];rfl
 ·have hb:Nat.blt i n0=false:=by
   cases hq:Nat.blt i n0 with
   | false=>rfl
   | true=>exact absurd (Nat.le_of_ble_eq_true hq) h
  rw[hb,cond_false,if_neg h]
  unfold blkVer
  cases A[i]? with
  | none=>rfl
  | some b=>
   cases b with
   | cells cs v' ro=>
    cases idx ids i with
    | none=>rfl
    | some m=>exact beq_ite _ _ _ _
   | iter s p=>
    cases idx ids i with
    | none=>rfl
    | some m=>exact beq_ite _ _ _ _
   | free=>rfl
theorem rH_N (A:List Blk)(n0:Nat)(ids:List Nat):renH A n0 ids=(A.take n0).map (renB A n0 ids true)++ids.map fun i=>renB A n0 ids false (A.getD i .free):=id rfl
theorem rB_cells (A:List Blk)(n0:Nat)(ids:List Nat)(keep:Bool)(cs:List AV)(v:Nat)(ro:Bool):renB A n0 ids keep (.cells cs v ro)=.cells (cs.map (ren A n0 ids 8)) (bif keep then v else 0) ro:=id rfl
theorem sw_t (len s nb:Nat)(cs:List AV):mkSW true len s nb (some cs)=mkSD len s nb cs (deepL cs):=id rfl
theorem sw_s (len s nb:Nat)(cs:List AV)(ds:List DV):mkSD len s nb cs (some ds)=some (.made (.d (.lst ds len (some len))) []):=id rfl
theorem dl_nil:deepL []=some []:=id rfl
theorem dl_cons (x:DV)(l:List AV):deepL (.d x::l)=(deepL l).map (x:: ·):=id rfl
section
variable {l:List Ent} {k:Nat} {e:Ent}
theorem get_set (h:k<l.length):(l.set k e)[k]? =some e:=by rw[List.getElem?_set_self h]
theorem drop_set (h:k<l.length)(j:Nat)(hj:j<=8):((rowC (l.set k e)).map AV.d).drop (k*8+j)=((Cl.cells e).map AV.d).drop j++((rowC (l.drop (k+1))).map AV.d):=by
 have e2:l.set k e=l.take k++e::l.drop (k+1):=List.set_eq_take_append_cons_drop.trans (if_pos h)
 have e3:rowC (l.set k e)=rowC (l.take k)++(Cl.cells e++rowC (l.drop (k+1))):=by rw[e2,rowC_app];rfl
 have hl:(rowC (l.take k)).length=k*8:=by rw[rowC_len,List.length_take,Nat.min_eq_left (by omega)];rfl
 have hl':((rowC (l.take k)).map AV.d).length=k*8:=by rw[List.length_map,hl]
 rw[e3]
 simp only[List.map_append]
 rw[<-hl',<-List.drop_drop,List.drop_left,List.drop_append_of_le_length (by simpa [cl_ent] using hj)]
section
variable (h:k<l.length)
include h
theorem ld0:takeVar false 1 (((rowC (l.set k e)).map AV.d).drop (k*8))=some (.d (vi e.pc)):=by
 have:=drop_set (e:=e) h 0 (by decide)
 rw[Nat.add_zero] at this;rw[this];rfl
theorem ld2:takeVar false 1 (((rowC (l.set k e)).map AV.d).drop (k*8+2))=some (.d (vi e.addr)):=by rw[drop_set h 2 (by decide)];rfl
theorem ld4:takeVar false 1 (((rowC (l.set k e)).map AV.d).drop (k*8+4))=some (.d (vi e.next)):=by rw[drop_set h 4 (by decide)];rfl
theorem wr (i v o:Nat)(A:List Blk)(e':Ent)(x:DV)(h1:AV.one (.d x)=true)(ho:o<8)(hs:splice (Cl.cells e) o [x]=Cl.cells e'):
  storeAt A i v (k*8+o) [.d x] 1 (some (.cells ((rowC (l.set k e)).map .d) v false))=some (A.set i (.cells ((rowC (l.set k e')).map .d) v false)):=by
 have:=st_row (A:=A) (i:=i) (v:=v) (o:=o) (n:=1) (e':=e') (xs:=[.d x]) [x] (get_set (e:=e) h) rfl rfl (by simp[h1]) hs (by simp;exact ho) 8 rfl (k*8+o) rfl
 rw[this,List.set_set]
theorem wr1 (i v:Nat)(A:List Blk)(n:Int):storeAt A i v (k*8+1) [.d (vi n)] 1 (some (.cells ((rowC (l.set k e)).map .d) v false))=some (A.set i (.cells ((rowC (l.set k { e with val:=n })).map .d) v false)):=wr h i v 1 A _ _ rfl (by decide) rfl
theorem wr2 (i v:Nat)(A:List Blk)(n:Int):storeAt A i v (k*8+2) [.d (vi n)] 1 (some (.cells ((rowC (l.set k e)).map .d) v false))=some (A.set i (.cells ((rowC (l.set k { e with addr:=n })).map .d) v false)):=wr h i v 2 A _ _ rfl (by decide) rfl
theorem wr3 (i v:Nat)(A:List Blk)(n:Int):storeAt A i v (k*8+3) [.d (vi n)] 1 (some (.cells ((rowC (l.set k e)).map .d) v false))=some (A.set i (.cells ((rowC (l.set k { e with frm:=n })).map .d) v false)):=wr h i v 3 A _ _ rfl (by decide) rfl
theorem wr4 (i v:Nat)(A:List Blk)(n:Int):storeAt A i v (k*8+4) [.d (vi n)] 1 (some (.cells ((rowC (l.set k e)).map .d) v false))=some (A.set i (.cells ((rowC (l.set k { e with next:=n })).map .d) v false)):=wr h i v 4 A _ _ rfl (by decide) rfl
theorem wr6 (i v:Nat)(A:List Blk)(b:Bool):storeAt A i v (k*8+6) [.d (vb b)] 1 (some (.cells ((rowC (l.set k e)).map .d) v false))=some (A.set i (.cells ((rowC (l.set k { e with known:=b })).map .d) v false)):=wr h i v 6 A _ _ rfl (by decide) rfl
theorem wr7 (i v:Nat)(A:List Blk)(b:Bool):storeAt A i v (k*8+7) [.d (vb b)] 1 (some (.cells ((rowC (l.set k e)).map .d) v false))=some (A.set i (.cells ((rowC (l.set k { e with fault:=b })).map .d) v false)):=wr h i v 7 A _ _ rfl (by decide) rfl
end
theorem dp_len (n:Nat)(hn:n<=l.length):n*8<=((rowC l).map AV.d).length:=by
 rw[List.length_map,rowC_len];exact Nat.mul_le_mul_right _ hn
theorem dp_take (A:List Blk)(m n:Nat):mapD (deep A (m+1)) (((rowC l).map AV.d).take (n*8))=some (rowC (l.take n),[]):=by
 rw[<-List.map_take,show n*8=n*Cl.n Ent from rfl,rowC_take,mapD_dd]
theorem w_foldS:DV.lst (rowC (l.set k e)) l.length none=rowD (l.set k e):=by
 unfold rowD;rw[List.length_set]
theorem take_all (n:Nat)(hn:n=l.length):(l.set k e).take n=l.set k e:=List.take_of_length_le (by rw[List.length_set];omega)
end
end Go.Aug
namespace Go.Aug.Mc
open Go Go.Aug
set_option linter.unusedSimpArgs false
set_option linter.unusedVariables false
set_option maxHeartbeats 40000000
variable {E:Env} {fn:FuncId->Option (Env->CallT->CallT)}
section
variable (S:Sur E fn)
include S
theorem o88_29:E.lives 88 7=none:=off S 88 7 (by decide) rfl
theorem goes_go (dp:Nat)(l:List Ent)(e:Ent)(i to r0 r1 r2 r3 pc en:Int)(mm sk rb:List Int)(h0:0<=i)(h1:i.toNat<l.length)(hl:l.length<1073741824):
  evC E fn (dp+1) 88 [.agg [.d (vi r0),.d (vi r1),.d (vi r2),.d (vi r3),.d (rowD mm),.d (rowD sk),.d (vi pc),.sref 0 0 0 l.length 8 none,.d (rowD rb),.d (vi en)],.d (vi i),.d (vi to)] [.cells ((rowC (l.set i.toNat e)).map .d) 0 false]=
  bif decide (e.next=to) then some (.tup [.agg [.d (vi r0),.d (vi r1),.d (vi r2),.d (vi r3),.d (rowD mm),.d (rowD sk),.d (vi pc),.sref 0 0 0 l.length 8 none,.d (rowD rb),.d (vi en)],.d (.lst [vi 3,vi to] 1 (some 1))],[.cells ((rowC (l.set i.toNat e)).map .d) 0 false])
  else some (.tup [.agg [.d (vi r0),.d (vi r1),.d (vi r2),.d (vi r3),.d (rowD mm),.d (rowD sk),.d (vi to),.sref 0 0 0 (i.toNat+1) 8 none,.d (rowD rb),.d (vi en)],.d (.lst [vi 3,vi to] 1 (some 1))],[.cells ((rowC (l.set i.toNat { e with next:=to })).map .d) 0 false]):=by
 have hi:i<l.length:=by omega
 have w1:IntKind.i64.wrap (i+1)=i+1:=wrap_i64 (by omega) (by omega)
 have bd:=bndsV_hi l.length .i64 (i+1) (by omega) (by omega)
 have t1:(i+1).toNat=i.toNat+1:=by omega
 rw[evC_succ,S.f_r9_goes,apF_some,F_r9_goes,mkF_run _ _ _ _ _ _ _ _ rfl]
 by_cases h:e.next=to
 ·simp only[go_sem,thq S,nbr S,Nat.reduceLT,Nat.reduceEqDiff,Nat.reduceAdd,Nat.reduceMul,Nat.reduceLeDiff,Int.reduceEq,Int.reduceLT,Int.reduceLE,Int.reduceNeg,reduceCtorEq,o88_29 S,end_b,sp_lt,spN_some,rH_N,rB_cells,List.take_succ_cons,List.take_zero,sw_t,sw_s,dl_nil,dl_cons,rep1',Option.map_some,h0,hi,ld4 h1,h,Bool.not_true,Nat.zero_add]
 ·simp only[go_sem,thq S,nbr S,Nat.reduceLT,Nat.reduceEqDiff,Nat.reduceAdd,Nat.reduceMul,Nat.reduceLeDiff,Int.reduceEq,Int.reduceLT,Int.reduceLE,Int.reduceNeg,reduceCtorEq,o88_29 S,end_b,sp_lt,spN_some,rH_N,rB_cells,List.take_succ_cons,List.take_zero,sw_t,sw_s,dl_nil,dl_cons,rep1',Option.map_some,h0,hi,ld4 h1,h,Bool.not_false,Nat.zero_add,wr4 h1,w1,bd,t1,Nat.zero_mul,Nat.add_zero,Nat.sub_zero,Option.map_none,ne_eq,not_true_eq_false,and_false]
end
open Nat renaming reduceLT -> zN0, reduceEqDiff -> zN1, reduceAdd -> zN2, reduceMul -> zN3, reduceLeDiff -> zN4
open Int renaming reduceEq -> zI0, reduceLT -> zI1, reduceLE -> zI2, reduceNeg -> zI3
def cellsI (l:List MemT):Int:=(l.map fun m=>min (max m.n 0) 16).sum
theorem cellsI_le:∀ l:List MemT,0<=cellsI l/\cellsI l<=16*l.length
 | []=>by simp[cellsI]
 | m::l=>by
  have:=cellsI_le l
  simp only[cellsI,List.map_cons,List.sum_cons,List.length_cons] at this ⊢
  omega
theorem cellsI_take {l:List MemT}{i:Nat}{m:MemT}(h:l[i]? =some m):cellsI (l.take (i+1))=cellsI (l.take i)+min (max m.n 0) 16:=by
 unfold cellsI
 rw[take_get h,List.map_append,List.sum_append]
 simp
def valueM (p:Prog)(x:Ins)(a b d:Int):Int:=if x.kind=4 then(if a=0 then d else b) else Md.wdo p.w x.op a b
def wayM (p:Prog)(x:Ins)(pc a b:Int):Int:=if x.kind=7 then min a p.ins.length else if Md.wdo p.w x.op a b=0 then Md.w64 (pc+1) else x.target
variable {E:Env} {fn:FuncId->Option (Env->CallT->CallT)}
section
variable (S:Sur E fn)
include S
theorem o107_10:E.lives 107 1=none:=off S 107 1 (by decide) rfl
theorem o65_10:E.lives 65 7=none/\E.lives 65 9=none:=⟨off S 65 7 (by decide) rfl,off S 65 9 (by decide) rfl⟩
theorem o67_10:E.lives 67 7=none/\E.lives 67 13=none:=⟨off S 67 7 (by decide) rfl,off S 67 13 (by decide) rfl⟩
theorem o103_10:E.lives 103 9=none:=off S 103 9 (by decide) rfl
theorem loop_Cells (dp:Nat)(l:List MemT)(hl:l.length<1073741824)(kx:Nat->K)(D:Int)
  (hx:∀ T,getS .bot T 3=aint (cellsI l)->ansOf (kx 0 (mk .bot 21 T) [])=some (vi D)):
  ∀(m k fuel:Nat),k+m=l.length->m<=fuel->ansOf (B8_arch_Cells (inn E 107) (evC E fn dp) (loopK 8 B8_arch_Cells (inn E 107) (evC E fn dp) kx (kEnd 0 [.tmp 2]) fuel) kx (kEnd 0 [.tmp 2])
   (mk .bot 21 [(3,aint (cellsI (l.take k))),(7,.d (rowD l)),(8,aint l.length),(9,aint k)]) [])=some (vi D):=by
 intro m
 induction m with
 | zero=>
  intro k fuel hk _
  generalize loopK 8 B8_arch_Cells _ _ kx _ fuel=KK
  rw[B8_arch_Cells,List.take_of_length_le (by omega)]
  simp only[eG,go_sem,thq S,nbr S,zN0,zN1,zN2,zN3,zN4,zI0,zI1,zI2,zI3,reduceCtorEq,o107_10 S,show ¬(k:Int)<l.length by omega]
  exact hx _ rfl
 | succ m ih=>
  intro k fuel hk hf
  obtain⟨e,he⟩:=get_of (show k<l.length by omega)
  obtain⟨fuel,rfl⟩:∃ m,fuel=m+1:=⟨fuel-1,by omega⟩
  generalize hK:loopK 8 B8_arch_Cells _ _ kx _ (fuel+1)=KK
  rw[B8_arch_Cells]
  have hb:=cellsI_le (l.take k)
  have hbl:(l.take k).length<=l.length:=by simp;omega
  have hw:IntKind.i64.wrap (cellsI (l.take k)+min (max e.n 0) 16)=cellsI (l.take (k+1)):=by
   rw[cellsI_take he]
   exact wrap_i64 (by omega) (by omega)
  simp only[eG,go_sem,thq S,nbr S,zN0,zN1,zN2,zN3,zN4,zI0,zI1,zI2,zI3,reduceCtorEq,o107_10 S,show(k:Int)<l.length by omega,w_ix he,wi k (by omega),hw]
  rw[<-hK,loop_in (on S _ _ [3,7,8,9] (by decide) rfl) rfl _ _ _ _ _ _ _ _ _ rfl]
  simp only[eG,go_sem,thq S,nbr S,zN0,zN1,zN2,zN3,zN4,zI0,zI1,zI2,zI3,reduceCtorEq,o107_10 S]
  exact ih (k+1) fuel (by omega) (by omega)
theorem raw_arch_Cells (dp:Nat)(p:Prog)(hm:p.mems.length<1073741824):Says E fn (dp+1) 107 [progD p] (vi (cellsI p.mems)):=by
 unfold Says
 show ansOf (evC E fn (dp+1) 107 [.d (progD p)] [])=_
 rw[evC_succ,S.f_arch_Cells,apF_some,F_arch_Cells,mkF_run _ _ _ _ _ _ _ _ rfl]
 simp only[eG,go_sem,thq S,nbr S,zN0,zN1,zN2,zN3,zN4,zI0,zI1,zI2,zI3,reduceCtorEq,o107_10 S]
 rw[big_eq,loop_in (on S _ _ [3,7,8,9] (by decide) rfl) rfl _ _ _ _ _ _ _ _ _ rfl]
 simp only[eG,go_sem,thq S,nbr S,zN0,zN1,zN2,zN3,zN4,zI0,zI1,zI2,zI3,reduceCtorEq,o107_10 S]
 refine loop_Cells S dp p.mems hm _ (cellsI p.mems) ?_ p.mems.length 0 _ (by omega) (by omega)
 intro T h3
 simp only[eG,go_sem,thq S,nbr S,zN0,zN1,zN2,zN3,zN4,zI0,zI1,zI2,zI3,reduceCtorEq,o107_10 S,h3]
theorem c_arch_Cells (dp:Nat)(p_w p_wn p_fu p_r0 p_r1 p_r2 p_r3:Int)(p_ms:List MemT)(p_ls:List Label)(p_is:List Ins)(hm:(⟨p_w,p_wn,p_fu,⟨p_r0,p_r1,p_r2,p_r3⟩,p_ms,p_ls,p_is⟩:Prog).mems.length<1073741824)(A:List Blk)(nb:Nat)(us:List Nat):evOwnK false E (evC E fn (dp+1)) 107 A nb (some ([.agg [vi p_w,vi p_wn,vi p_fu,vi p_r0,vi p_r1,vi p_r2,vi p_r3,rowD p_ms,rowD p_ls,rowD p_is]],us))=some (.made (.d (vi (cellsI (⟨p_w,p_wn,p_fu,⟨p_r0,p_r1,p_r2,p_r3⟩,p_ms,p_ls,p_is⟩:Prog).mems))) []):=
 Says.flat (raw_arch_Cells S dp (⟨p_w,p_wn,p_fu,⟨p_r0,p_r1,p_r2,p_r3⟩,p_ms,p_ls,p_is⟩:Prog) hm) (np S 107 (by decide)) (rfl) A nb us
theorem raw_seqm_Value (dp:Nat)(p:Prog)(x:Ins)(a b d:Int):Says E fn (dp+5) 65 [progD p,.agg (Cl.cells x),vi a,vi b,vi d] (vi (valueM p x a b d)):=by
 unfold Says
 show ansOf (evC E fn (dp+4+1) 65 [.d (progD p),.d (.agg (Cl.cells x)),.d (vi a),.d (vi b),.d (vi d)] [])=_
 rw[evC_succ,S.f_seqm_Value,apF_some,F_seqm_Value,mkF_run _ _ _ _ _ _ _ _ rfl]
 by_cases h:x.kind=4
 ·by_cases h2 : a = 0
  ·simp only[eG,go_sem,thq S,nbr S,zN0,zN1,zN2,zN3,zN4,zI0,zI1,zI2,zI3,reduceCtorEq,o65_10 S,h,eq_true h2,valueM,Bool.not_true,Bool.not_false]
  ·simp only[eG,go_sem,thq S,nbr S,zN0,zN1,zN2,zN3,zN4,zI0,zI1,zI2,zI3,reduceCtorEq,o65_10 S,h,eq_false h2,valueM,Bool.not_true,Bool.not_false]
 ·simp only[eG,go_sem,thq S,nbr S,zN0,zN1,zN2,zN3,zN4,zI0,zI1,zI2,zI3,reduceCtorEq,o65_10 S,h,valueM,c_word_Do S]
theorem c_seqm_Value (dp:Nat)(p_w p_wn p_fu p_r0 p_r1 p_r2 p_r3:Int)(p_ms:List MemT)(p_ls:List Label)(p_is:List Ins)(x_k x_o x_d:Int)(x_ag:Bool)(x_an:Int)(x_bg:Bool)(x_bn:Int)(x_nm:ByteArray)(x_tg a b d:Int)(A:List Blk)(nb:Nat)(us:List Nat):evOwnK false E (evC E fn (dp+5)) 65 A nb (some ([.agg [vi p_w,vi p_wn,vi p_fu,vi p_r0,vi p_r1,vi p_r2,vi p_r3,rowD p_ms,rowD p_ls,rowD p_is],.agg [vi x_k,vi x_o,vi x_d,vb x_ag,vi x_an,vb x_bg,vi x_bn,vt x_nm,vi x_tg],vi a,vi b,vi d],us))=some (.made (.d (vi (valueM (⟨p_w,p_wn,p_fu,⟨p_r0,p_r1,p_r2,p_r3⟩,p_ms,p_ls,p_is⟩:Prog) (⟨x_k,x_o,x_d,⟨x_ag,x_an⟩,⟨x_bg,x_bn⟩,x_nm,x_tg⟩:Ins) a b d))) []):=
 Says.flat (raw_seqm_Value S dp (⟨p_w,p_wn,p_fu,⟨p_r0,p_r1,p_r2,p_r3⟩,p_ms,p_ls,p_is⟩:Prog) (⟨x_k,x_o,x_d,⟨x_ag,x_an⟩,⟨x_bg,x_bn⟩,x_nm,x_tg⟩:Ins) a b d ) (np S 65 (by decide)) (rfl) A nb us
theorem raw_seqm_Way (dp:Nat)(p:Prog)(x:Ins)(pc a b:Int):Says E fn (dp+5) 67 [progD p,.agg (Cl.cells x),vi pc,vi a,vi b] (vi (wayM p x pc a b)):=by
 unfold Says
 show ansOf (evC E fn (dp+4+1) 67 [.d (progD p),.d (.agg (Cl.cells x)),.d (vi pc),.d (vi a),.d (vi b)] [])=_
 rw[evC_succ,S.f_seqm_Way,apF_some,F_seqm_Way,mkF_run _ _ _ _ _ _ _ _ rfl]
 by_cases h:x.kind=7
 ·simp only[eG,go_sem,thq S,nbr S,zN0,zN1,zN2,zN3,zN4,zI0,zI1,zI2,zI3,reduceCtorEq,o67_10 S,h,wayM]
 ·by_cases h2 : Md.wdo p.w x.op a b = 0
  ·simp only[eG,go_sem,thq S,nbr S,zN0,zN1,zN2,zN3,zN4,zI0,zI1,zI2,zI3,reduceCtorEq,o67_10 S,h,wayM,c_word_Do S,h2,Bool.not_true,Bool.not_false,Md.w64]
  ·simp only[eG,go_sem,thq S,nbr S,zN0,zN1,zN2,zN3,zN4,zI0,zI1,zI2,zI3,reduceCtorEq,o67_10 S,h,wayM,c_word_Do S,h2,Bool.not_true,Bool.not_false,Md.w64]
theorem c_seqm_Way (dp:Nat)(p_w p_wn p_fu p_r0 p_r1 p_r2 p_r3:Int)(p_ms:List MemT)(p_ls:List Label)(p_is:List Ins)(x_k x_o x_d:Int)(x_ag:Bool)(x_an:Int)(x_bg:Bool)(x_bn:Int)(x_nm:ByteArray)(x_tg pc a b:Int)(A:List Blk)(nb:Nat)(us:List Nat):evOwnK false E (evC E fn (dp+5)) 67 A nb (some ([.agg [vi p_w,vi p_wn,vi p_fu,vi p_r0,vi p_r1,vi p_r2,vi p_r3,rowD p_ms,rowD p_ls,rowD p_is],.agg [vi x_k,vi x_o,vi x_d,vb x_ag,vi x_an,vb x_bg,vi x_bn,vt x_nm,vi x_tg],vi pc,vi a,vi b],us))=some (.made (.d (vi (wayM (⟨p_w,p_wn,p_fu,⟨p_r0,p_r1,p_r2,p_r3⟩,p_ms,p_ls,p_is⟩:Prog) (⟨x_k,x_o,x_d,⟨x_ag,x_an⟩,⟨x_bg,x_bn⟩,x_nm,x_tg⟩:Ins) pc a b))) []):=
 Says.flat (raw_seqm_Way S dp (⟨p_w,p_wn,p_fu,⟨p_r0,p_r1,p_r2,p_r3⟩,p_ms,p_ls,p_is⟩:Prog) (⟨x_k,x_o,x_d,⟨x_ag,x_an⟩,⟨x_bg,x_bn⟩,x_nm,x_tg⟩:Ins) pc a b ) (np S 67 (by decide)) (rfl) A nb us
theorem raw_seqm_Address (dp:Nat)(p:Prog)(a b:Int)(hm:p.mems.length<1073741824):Says E fn (dp+4) 71 [progD p,vi a,vi b] (.tup [vi (Md.mask p.w (a+b)),vb (decide (Md.mask p.w (a+b)<cellsI p.mems))]):=by
 unfold Says
 show ansOf (evC E fn (dp+3+1) 71 [.d (progD p),.d (vi a),.d (vi b)] [])=_
 rw[evC_succ,S.f_seqm_Address,apF_some,F_seqm_Address,mkF_run _ _ _ _ _ _ _ _ rfl]
 simp only[eG,go_sem,thq S,nbr S,zN0,zN1,zN2,zN3,zN4,zI0,zI1,zI2,zI3,reduceCtorEq,c_word_Mask S,Md.mask_wrap,c_arch_Cells S,hm]
theorem c_seqm_Address (dp:Nat)(p_w p_wn p_fu p_r0 p_r1 p_r2 p_r3:Int)(p_ms:List MemT)(p_ls:List Label)(p_is:List Ins)(a b:Int)(hm:(⟨p_w,p_wn,p_fu,⟨p_r0,p_r1,p_r2,p_r3⟩,p_ms,p_ls,p_is⟩:Prog).mems.length<1073741824)(A:List Blk)(nb:Nat)(us:List Nat):evOwnK false E (evC E fn (dp+4)) 71 A nb (some ([.agg [vi p_w,vi p_wn,vi p_fu,vi p_r0,vi p_r1,vi p_r2,vi p_r3,rowD p_ms,rowD p_ls,rowD p_is],vi a,vi b],us))=some (.made (.d (.tup [vi (Md.mask (⟨p_w,p_wn,p_fu,⟨p_r0,p_r1,p_r2,p_r3⟩,p_ms,p_ls,p_is⟩:Prog).w (a+b)),vb (decide (Md.mask (⟨p_w,p_wn,p_fu,⟨p_r0,p_r1,p_r2,p_r3⟩,p_ms,p_ls,p_is⟩:Prog).w (a+b)<cellsI (⟨p_w,p_wn,p_fu,⟨p_r0,p_r1,p_r2,p_r3⟩,p_ms,p_ls,p_is⟩:Prog).mems))])) []):=
 Says.flat (raw_seqm_Address S dp (⟨p_w,p_wn,p_fu,⟨p_r0,p_r1,p_r2,p_r3⟩,p_ms,p_ls,p_is⟩:Prog) a b hm) (np S 71 (by decide)) (rfl) A nb us
theorem raw_retb_Pop (dp:Nat)(l:List Int)(hl:l.length<1073741824):Says E fn (dp+1) 103 [rowD l] (.tup [vi (Md.lastI l),rowD l.dropLast,vb (decide (l.length≠0))]):=by
 unfold Says
 show ansOf (evC E fn (dp+1) 103 [.d (rowD l)] [])=_
 rw[evC_succ,S.f_retb_Pop,apF_some,F_retb_Pop,mkF_run _ _ _ _ _ _ _ _ rfl]
 by_cases h:l.length=0
 ·have : l = [] := List.length_eq_zero_iff.1 h
  subst this
  simp only[eG,go_sem,thq S,nbr S,zN0,zN1,zN2,zN3,zN4,zI0,zI1,zI2,zI3,reduceCtorEq,o103_10 S,List.length_nil,Int.natCast_eq_zero,Md.lastI]
  rfl
 ·have hlast:l[l.length-1]? =some (Md.lastI l):=by
   unfold Md.lastI
   rw[List.getLast?_eq_getElem?]
   obtain⟨e,he⟩:=get_of (show l.length-1<l.length by omega)
   rw[he];rfl
  have w2:IntKind.i64.wrap ((l.length:Int)-1)=((l.length-1:Nat):Int):=by rw[wrap_i64 (by omega) (by omega)];omega
  have bd:=bndsV_hi l.length .i64 ((l.length-1:Nat):Int) (by omega) (by omega)
  have hdl:l.take (l.length-1)=l.dropLast:=List.dropLast_eq_take.symm
  have hdn:l.dropLast.length<1073741824:=by simp;omega
  simp only[eG,go_sem,thq S,nbr S,zN0,zN1,zN2,zN3,zN4,zI0,zI1,zI2,zI3,reduceCtorEq,o103_10 S,eq_false h,Int.natCast_eq_zero,w2,bd,w_ix hlast,Int.toNat_natCast,List.drop_zero,Nat.sub_zero,hdl,c_cloneI S hdn,ne_eq,not_false_eq_true]
theorem c_retb_Pop (dp:Nat)(l:List Int)(hl:l.length<1073741824)(A:List Blk)(nb:Nat):evOwnK false E (evC E fn (dp+1)) 103 A nb (some ([rowD l],[]))=some (.made (.d (.tup [vi (Md.lastI l),rowD l.dropLast,vb (decide (l.length≠0))])) []):=
 Says.deep (raw_retb_Pop S dp l hl) (np S 103 (by decide)) A nb
theorem u_retb_Pop (dp:Nat)(l:List Int)(hl:l.length<1073741824)(hf:DV.flat 8 (.tup [vi (Md.lastI l),rowD l.dropLast,vb (decide (l.length≠0))])=false)(A:List Blk)(nb ui:Nat)(us:List Nat):evOwnK false E (evC E fn (dp+1)) 103 A nb (some ([rowD l],ui::us))=some (.turned (.d (.tup [vi (Md.lastI l),rowD l.dropLast,vb (decide (l.length≠0))])) (setRo A (ui::us))):=
 Says.used (raw_retb_Pop S dp l hl) (np S 103 (by decide)) hf A nb ui us
end
section
variable (S:Sur E fn)
include S
theorem o104_11:E.lives 104 1=none/\E.lives 104 19=none/\E.lives 104 25=none:=⟨off S 104 1 (by decide) rfl,off S 104 19 (by decide) rfl,off S 104 25 (by decide) rfl⟩
theorem o72_11:E.lives 72 1=none/\E.lives 72 15=none:=⟨off S 72 1 (by decide) rfl,off S 72 15 (by decide) rfl⟩
theorem loop_pLoad (dp:Nat)(p:Prog)(mem:List Int)(l:List Ent)(addr:Int)(hl:l.length<1073741824)(kx:Nat->K)
  (hx:∀ T,getS .bot T 1=.d (rowD mem)->getS .bot T 4=aint addr->∀ A,ansOf (kx 0 (mk .bot 65 T) (.cells ((progC p).map .d) 0 false::A))=some (.tup [vi (Md.loadGo p mem addr []).1,vi (Md.loadGo p mem addr []).2.1,vb (Md.loadGo p mem addr []).2.2])):
  ∀(k fuel:Nat),k<=l.length->k<fuel->ansOf (B8_memo_Load (inn E 104) (evC E fn (dp+1)) (loopK 8 B8_memo_Load (inn E 104) (evC E fn (dp+1)) kx (kEnd 0 [.tmp 10,.tmp 11,.tmp 12]) fuel) kx (kEnd 0 [.tmp 10,.tmp 11,.tmp 12])
   (mk .bot 65 [(1,.d (rowD mem)),(4,aint addr),(5,.ref 0 0 0),(13,.d (rowD l)),(14,aint ((k:Int)-1))]) [.cells ((progC p).map .d) 0 false])=
   some (.tup [vi (Md.loadGo p mem addr (l.take k).reverse).1,vi (Md.loadGo p mem addr (l.take k).reverse).2.1,vb (Md.loadGo p mem addr (l.take k).reverse).2.2]):=by
 intro k
 induction k with
 | zero=>
  intro fuel _ hf
  generalize loopK 8 B8_memo_Load _ _ kx _ fuel=KK
  rw[B8_memo_Load]
  simp only[eG,go_sem,thq S,nbr S,zN0,zN1,zN2,zN3,zN4,zI0,zI1,zI2,zI3,reduceCtorEq,o104_11 S,show ¬(((0:Nat):Int)-1>=0) by omega,List.take_zero,List.reverse_nil]
  exact hx _ rfl rfl []
 | succ k ih=>
  intro fuel hk hf
  obtain⟨e,he⟩:=get_of (show k<l.length by omega)
  obtain⟨fuel,rfl⟩:∃ m,fuel=m+1:=⟨fuel-1,by omega⟩
  rw[show(((k+1:Nat):Int)-1)=(k:Int) by omega,take_rev he]
  generalize hK:loopK 8 B8_memo_Load _ _ kx _ (fuel+1)=KK
  rw[B8_memo_Load]
  have hlen:(l.take k).reverse.length=k:=by simp;omega
  by_cases h1:(Md.at_ p e.pc).kind=3
  ·cases h2 : e.known with
   | true=>
    by_cases h3:e.addr=addr
    ·cases h4:e.done<;>simp only[eG,go_sem,thq S,nbr S,zN0,zN1,zN2,zN3,zN4,zI0,zI1,zI2,zI3,reduceCtorEq,o104_11 S,w_ix he,c_seqm_At S,Int.natCast_nonneg,ge_iff_le,wd k (by omega),Bool.not_true,Bool.not_false,h1,h2,eq_true h3,h4,Md.loadGo,Md.hitS,hlen]
    ·simp only [eG, go_sem, thq S, nbr S, zN0, zN1, zN2, zN3, zN4, zI0, zI1, zI2, zI3, reduceCtorEq, o104_11 S, w_ix he, c_seqm_At S, Int.natCast_nonneg, ge_iff_le, wd k (by omega), Bool.not_true, Bool.not_false, h1, h2, eq_false h3, Md.loadGo, Md.hitS]
     rw[<-hK,loop_in (on S _ _ [1,4,5,13,14] (by decide) rfl) rfl _ _ _ _ _ _ _ _ _ rfl]
     simp only[eG,go_sem,thq S,nbr S,zN0,zN1,zN2,zN3,zN4,zI0,zI1,zI2,zI3,reduceCtorEq,o104_11 S,w_ix he,c_seqm_At S,Int.natCast_nonneg,ge_iff_le,wd k (by omega),Bool.not_true,Bool.not_false]
     exact ih fuel (by omega) (by omega)
   | false=>
    simp only[eG,go_sem,thq S,nbr S,zN0,zN1,zN2,zN3,zN4,zI0,zI1,zI2,zI3,reduceCtorEq,o104_11 S,w_ix he,c_seqm_At S,Int.natCast_nonneg,ge_iff_le,wd k (by omega),Bool.not_true,Bool.not_false,h1,h2,Md.loadGo,Md.hitS]
    rw[<-hK,loop_in (on S _ _ [1,4,5,13,14] (by decide) rfl) rfl _ _ _ _ _ _ _ _ _ rfl]
    simp only[eG,go_sem,thq S,nbr S,zN0,zN1,zN2,zN3,zN4,zI0,zI1,zI2,zI3,reduceCtorEq,o104_11 S,w_ix he,c_seqm_At S,Int.natCast_nonneg,ge_iff_le,wd k (by omega),Bool.not_true,Bool.not_false]
    exact ih fuel (by omega) (by omega)
  ·simp only [eG, go_sem, thq S, nbr S, zN0, zN1, zN2, zN3, zN4, zI0, zI1, zI2, zI3, reduceCtorEq, o104_11 S, w_ix he, c_seqm_At S, Int.natCast_nonneg, ge_iff_le, wd k (by omega), Bool.not_true, Bool.not_false, eq_false h1, Md.loadGo, Md.hitS]
   rw[<-hK,loop_in (on S _ _ [1,4,5,13,14] (by decide) rfl) rfl _ _ _ _ _ _ _ _ _ rfl]
   simp only[eG,go_sem,thq S,nbr S,zN0,zN1,zN2,zN3,zN4,zI0,zI1,zI2,zI3,reduceCtorEq,o104_11 S,w_ix he,c_seqm_At S,Int.natCast_nonneg,ge_iff_le,wd k (by omega),Bool.not_true,Bool.not_false]
   exact ih fuel (by omega) (by omega)
theorem raw_memo_Load (dp:Nat)(p:Prog)(mem:List Int)(l:List Ent)(i addr:Int)(hl:l.length<1073741824):Says E fn (dp+3) 104 [progD p,rowD mem,rowD l,vi i,vi addr] (.tup [vi (Md.load p mem l i addr).1,vi (Md.load p mem l i addr).2.1,vb (Md.load p mem l i addr).2.2]):=by
 unfold Says
 show ansOf (evC E fn (dp+2+1) 104 [.d (progD p),.d (rowD mem),.d (rowD l),.d (vi i),.d (vi addr)] [])=_
 rw[evC_succ,S.f_memo_Load,apF_some,F_memo_Load,mkF_run _ _ _ _ _ _ _ _ rfl]
 have hcl:=cut_len l i
 have e:(Md.cut l i).take (Md.cut l i).length=Md.cut l i:=List.take_of_length_le (by omega)
 have e2:Md.load p mem l i addr=Md.loadGo p mem addr ((Md.cut l i).take (Md.cut l i).length).reverse:=by rw[e];rfl
 rw[e2]
 simp only[eG,go_sem,thq S,nbr S,zN0,zN1,zN2,zN3,zN4,zI0,zI1,zI2,zI3,reduceCtorEq,o104_11 S,c_robq_Cut S,hl,wd _ (show(Md.cut l i).length<4611686018427387904 by omega)]
 rw[big_eq,loop_in (on S _ _ [1,4,5,13,14] (by decide) rfl) rfl _ _ _ _ _ _ _ _ _ rfl]
 simp only[eG,go_sem,thq S,nbr S,zN0,zN1,zN2,zN3,zN4,zI0,zI1,zI2,zI3,reduceCtorEq,o104_11 S]
 refine loop_pLoad S (dp+1) p mem (Md.cut l i) addr (by omega) _ ?_ _ _ (Nat.le_refl _) (by omega)
 intro T h1 h4 A
 by_cases h:addr<0
 ·simp only[eG,go_sem,thq S,nbr S,zN0,zN1,zN2,zN3,zN4,zI0,zI1,zI2,zI3,reduceCtorEq,o104_11 S,h1,h4,h,Md.loadGo]
 ·by_cases h2 : (mem.length : Int) <= addr
  ·simp only[eG,go_sem,thq S,nbr S,zN0,zN1,zN2,zN3,zN4,zI0,zI1,zI2,zI3,reduceCtorEq,o104_11 S,h1,h4,h,ge_iff_le,h2,Md.loadGo]
  ·obtain ⟨e, he⟩ := get_of (show addr.toNat < mem.length by omega)
   simp only[eG,go_sem,thq S,nbr S,zN0,zN1,zN2,zN3,zN4,zI0,zI1,zI2,zI3,reduceCtorEq,o104_11 S,h1,h4,h,ge_iff_le,h2,Md.loadGo,w_ixI (show 0<=addr by omega) he,he,Option.getD_some]
theorem c_memo_Load (dp:Nat)(p_w p_wn p_fu p_r0 p_r1 p_r2 p_r3:Int)(p_ms:List MemT)(p_ls:List Label)(p_is:List Ins)(mem:List Int)(l:List Ent)(i addr:Int)(hl:l.length<1073741824)(A:List Blk)(nb:Nat)(us:List Nat):evOwnK false E (evC E fn (dp+3)) 104 A nb (some ([.agg [vi p_w,vi p_wn,vi p_fu,vi p_r0,vi p_r1,vi p_r2,vi p_r3,rowD p_ms,rowD p_ls,rowD p_is],rowD mem,rowD l,vi i,vi addr],us))=some (.made (.d (.tup [vi (Md.load (⟨p_w,p_wn,p_fu,⟨p_r0,p_r1,p_r2,p_r3⟩,p_ms,p_ls,p_is⟩:Prog) mem l i addr).1,vi (Md.load (⟨p_w,p_wn,p_fu,⟨p_r0,p_r1,p_r2,p_r3⟩,p_ms,p_ls,p_is⟩:Prog) mem l i addr).2.1,vb (Md.load (⟨p_w,p_wn,p_fu,⟨p_r0,p_r1,p_r2,p_r3⟩,p_ms,p_ls,p_is⟩:Prog) mem l i addr).2.2])) []):=
 Says.flat (raw_memo_Load S dp (⟨p_w,p_wn,p_fu,⟨p_r0,p_r1,p_r2,p_r3⟩,p_ms,p_ls,p_is⟩:Prog) mem l i addr hl) (np S 104 (by decide)) (rfl) A nb us
theorem loop_pHaz (dp:Nat)(p:Prog)(l:List Ent)(i addr:Int)(hl:l.length<1073741824)(kx:Nat->K)
  (hx:∀ T A,ansOf (kx 0 (mk .bot 51 T) A)=some (.tup [vi 0,vb false])):
  ∀(m k fuel:Nat),(k+m=l.length∨(m=0/\l.length<=k))->k<=l.length+1->m<=fuel->ansOf (B6_memo_Hazard (inn E 72) (evC E fn (dp+1)) (loopK 6 B6_memo_Hazard (inn E 72) (evC E fn (dp+1)) kx (kEnd 0 [.tmp 8,.tmp 9]) fuel) kx (kEnd 0 [.tmp 8,.tmp 9])
   (mk .bot 51 [(1,.d (rowD l)),(2,aint i),(3,aint addr),(4,.ref 0 0 0),(10,aint k)]) [.cells ((progC p).map .d) 0 false])=
   some (.tup [vi (Md.hazGo p i addr k (l.drop k)).1,vb (Md.hazGo p i addr k (l.drop k)).2]):=by
 intro m
 induction m with
 | zero=>
  intro k fuel hk hk2 _
  generalize loopK 6 B6_memo_Hazard _ _ kx _ fuel=KK
  rw[B6_memo_Hazard,List.drop_of_length_le (by omega)]
  simp only[eG,go_sem,thq S,nbr S,zN0,zN1,zN2,zN3,zN4,zI0,zI1,zI2,zI3,reduceCtorEq,o72_11 S,show ¬(k:Int)<l.length by omega,Md.hazGo]
  exact hx _ _
 | succ m ih=>
  intro k fuel hk hk2 hf
  obtain⟨e,he⟩:=get_of (show k<l.length by omega)
  obtain⟨fuel,rfl⟩:∃ m,fuel=m+1:=⟨fuel-1,by omega⟩
  generalize hK:loopK 6 B6_memo_Hazard _ _ kx _ (fuel+1)=KK
  rw[B6_memo_Hazard,drop_get he]
  have h2:(k:Int)<l.length:=by omega
  by_cases k2:(Md.at_ p e.pc).kind=2
  ·cases hk : e.known with
   | true=>
    by_cases ha:e.addr=addr
    ·by_cases hfr : e.frm < i
     ·simp only[eG,go_sem,thq S,nbr S,zN0,zN1,zN2,zN3,zN4,zI0,zI1,zI2,zI3,reduceCtorEq,o72_11 S,w_ix he,c_seqm_At S,wi k (by omega),h2,k2,hk,eq_true ha,hfr,Md.hazGo,Md.hitL]
     ·simp only [eG, go_sem, thq S, nbr S, zN0, zN1, zN2, zN3, zN4, zI0, zI1, zI2, zI3, reduceCtorEq, o72_11 S, w_ix he, c_seqm_At S, wi k (by omega), h2, k2, hk, eq_true ha, hfr, Md.hazGo, Md.hitL]
      rw[<-hK,loop_in (on S _ _ [1,2,3,4,10] (by decide) rfl) rfl _ _ _ _ _ _ _ _ _ rfl]
      simp only[eG,go_sem,thq S,nbr S,zN0,zN1,zN2,zN3,zN4,zI0,zI1,zI2,zI3,reduceCtorEq,o72_11 S,w_ix he,c_seqm_At S,wi k (by omega),h2]
      exact ih (k+1) fuel (by omega) (by omega) (by omega)
    ·simp only [eG, go_sem, thq S, nbr S, zN0, zN1, zN2, zN3, zN4, zI0, zI1, zI2, zI3, reduceCtorEq, o72_11 S, w_ix he, c_seqm_At S, wi k (by omega), h2, k2, hk, eq_false ha, Md.hazGo, Md.hitL]
     rw[<-hK,loop_in (on S _ _ [1,2,3,4,10] (by decide) rfl) rfl _ _ _ _ _ _ _ _ _ rfl]
     simp only[eG,go_sem,thq S,nbr S,zN0,zN1,zN2,zN3,zN4,zI0,zI1,zI2,zI3,reduceCtorEq,o72_11 S,w_ix he,c_seqm_At S,wi k (by omega),h2]
     exact ih (k+1) fuel (by omega) (by omega) (by omega)
   | false=>
    simp only[eG,go_sem,thq S,nbr S,zN0,zN1,zN2,zN3,zN4,zI0,zI1,zI2,zI3,reduceCtorEq,o72_11 S,w_ix he,c_seqm_At S,wi k (by omega),h2,k2,hk,Md.hazGo,Md.hitL]
    rw[<-hK,loop_in (on S _ _ [1,2,3,4,10] (by decide) rfl) rfl _ _ _ _ _ _ _ _ _ rfl]
    simp only[eG,go_sem,thq S,nbr S,zN0,zN1,zN2,zN3,zN4,zI0,zI1,zI2,zI3,reduceCtorEq,o72_11 S,w_ix he,c_seqm_At S,wi k (by omega),h2]
    exact ih (k+1) fuel (by omega) (by omega) (by omega)
  ·simp only [eG, go_sem, thq S, nbr S, zN0, zN1, zN2, zN3, zN4, zI0, zI1, zI2, zI3, reduceCtorEq, o72_11 S, w_ix he, c_seqm_At S, wi k (by omega), h2, eq_false k2, Md.hazGo, Md.hitL]
   rw[<-hK,loop_in (on S _ _ [1,2,3,4,10] (by decide) rfl) rfl _ _ _ _ _ _ _ _ _ rfl]
   simp only[eG,go_sem,thq S,nbr S,zN0,zN1,zN2,zN3,zN4,zI0,zI1,zI2,zI3,reduceCtorEq,o72_11 S,w_ix he,c_seqm_At S,wi k (by omega),h2]
   exact ih (k+1) fuel (by omega) (by omega) (by omega)
theorem raw_memo_Hazard (dp:Nat)(p:Prog)(l:List Ent)(i addr:Int)(hl:l.length<1073741824)(hi0:i<4611686018427387904)(hi1: -4611686018427387904<i):Says E fn (dp+2) 72 [progD p,rowD l,vi i,vi addr] (.tup [vi (Md.hazard p l i addr).1,vb (Md.hazard p l i addr).2]):=by
 unfold Says
 show ansOf (evC E fn (dp+1+1) 72 [.d (progD p),.d (rowD l),.d (vi i),.d (vi addr)] [])=_
 rw[evC_succ,S.f_memo_Hazard,apF_some,F_memo_Hazard,mkF_run _ _ _ _ _ _ _ _ rfl]
 have hh:Md.hazAt l i<=l.length+1:=by unfold Md.hazAt;omega
 have hr:max (IntKind.i64.wrap (min i (l.length:Int)+1)) 0=(Md.hazAt l i:Int):=by rw[wrap_i64 (by omega) (by omega)];unfold Md.hazAt;omega
 simp only[eG,go_sem,thq S,nbr S,zN0,zN1,zN2,zN3,zN4,zI0,zI1,zI2,zI3,reduceCtorEq,o72_11 S,hr]
 rw[big_eq,loop_in (on S _ _ [1,2,3,4,10] (by decide) rfl) rfl _ _ _ _ _ _ _ _ _ rfl]
 simp only[eG,go_sem,thq S,nbr S,zN0,zN1,zN2,zN3,zN4,zI0,zI1,zI2,zI3,reduceCtorEq,o72_11 S]
 refine loop_pHaz S dp p l i addr hl _ ?_ (l.length-Md.hazAt l i) (Md.hazAt l i) _ (by omega) hh (by omega)
 intro T A
 simp only[eG,go_sem,thq S,nbr S,zN0,zN1,zN2,zN3,zN4,zI0,zI1,zI2,zI3,reduceCtorEq,o72_11 S]
theorem c_memo_Hazard (dp:Nat)(p_w p_wn p_fu p_r0 p_r1 p_r2 p_r3:Int)(p_ms:List MemT)(p_ls:List Label)(p_is:List Ins)(l:List Ent)(i addr:Int)(hl:l.length<1073741824)(hi0:i<4611686018427387904)(hi1: -4611686018427387904<i)(A:List Blk)(nb:Nat)(us:List Nat):evOwnK false E (evC E fn (dp+2)) 72 A nb (some ([.agg [vi p_w,vi p_wn,vi p_fu,vi p_r0,vi p_r1,vi p_r2,vi p_r3,rowD p_ms,rowD p_ls,rowD p_is],rowD l,vi i,vi addr],us))=some (.made (.d (.tup [vi (Md.hazard (⟨p_w,p_wn,p_fu,⟨p_r0,p_r1,p_r2,p_r3⟩,p_ms,p_ls,p_is⟩:Prog) l i addr).1,vb (Md.hazard (⟨p_w,p_wn,p_fu,⟨p_r0,p_r1,p_r2,p_r3⟩,p_ms,p_ls,p_is⟩:Prog) l i addr).2])) []):=
 Says.flat (raw_memo_Hazard S dp (⟨p_w,p_wn,p_fu,⟨p_r0,p_r1,p_r2,p_r3⟩,p_ms,p_ls,p_is⟩:Prog) l i addr hl hi0 hi1) (np S 72 (by decide)) (rfl) A nb us
end
end Go.Aug.Mc
