import Derived.Test.YthnhboimcidhgaaGreatDoorMc24
import Derived.Test.YthnhboimcidhgaaGreatDoorEvPc
namespace Go.Aug.Mc
open Go Go.Aug
open Nat renaming reduceLT -> zN0, reduceEqDiff -> zN1, reduceAdd -> zN2, reduceMul -> zN3, reduceLeDiff -> zN4
open Int renaming reduceEq -> zI0, reduceLT -> zI1, reduceLE -> zI2, reduceNeg -> zI3
set_option linter.unusedSimpArgs false
set_option linter.unusedVariables false
set_option maxHeartbeats 40000000
theorem l48:48<=Zf:=by unfold Zf;decide
theorem l1a:1<=Zf:=by unfold Zf;decide
variable {E:Env} {fn:FuncId->Option (Env->cT->cT)}
section
variable (S:Sur E fn)
include S
theorem Z1y:E.lives 139 1=none/\E.lives 139 17=none:=⟨off S 139 1 (by decide) rfl,off S 139 17 (by decide) rfl⟩
theorem Zyh (dp:Nat)(l:List Ent)(hl:l.length<1073741824)(kx:Nat->K)(kr:K)(k f:Nat)(out:List Ent)(e:Ent)(he:l[k]? =some e)(ho:out.length<1073741824):
  Yn (inn E 139) (evC E fn dp) (Zi 8 Yn (inn E 139) (evC E fn dp) kx kr (f+1)) kx kr (mk .bot 28 [(0,.d (rD l)),(3,.sref 0 0 0 out.length 8 none),(4,aI k)]) [.cells ((rC out).map .d) 0 false]=
  Yn (inn E 139) (evC E fn dp) (Zi 8 Yn (inn E 139) (evC E fn dp) kx kr f) kx kr (mk .bot 28 [(0,.d (rD l)),(3,.sref 0 0 0 (out.length+1) 8 none),(4,aI ((k+1:Nat):Int))]) [.cells ((rC (out++[Md.popE e])).map .d) 0 false]:=by
 have hk:k<l.length:=(List.getElem?_eq_some_iff.1 he).1
 have k1:(out.length+1)*48<=Zf:=by unfold Zf;omega
 have k2:out.length+1<=Zf:=by unfold Zf;omega
 generalize hK:Zi 8 Yn _ _ kx kr (f+1)=KK
 first | (conv=>lhs;rw[Yn]) | rw[Yn]
 by_cases h:0<=e.frm
 ·simp only [eG, go_sem, thq S, nbr S, zN0, zN1, zN2, zN3, zN4, zI0, zI1, zI2, zI3, reduceCtorEq, Z1y S, show (k : Int) < l.length by omega, Q4 he, wi k (by omega), ge_iff_le, h, Zl, Z18, k1, k2, Md.popE]
  rw[<-hK,Z1 (on S _ _ [0,3,4] (by decide) rfl) rfl _ _ _ _ _ _ _ _ _ rfl]
  simp only[eG,go_sem,thq S,nbr S,zN0,zN1,zN2,zN3,zN4,zI0,zI1,zI2,zI3,reduceCtorEq,Z1y S]
  rfl
 ·simp only [eG, go_sem, thq S, nbr S, zN0, zN1, zN2, zN3, zN4, zI0, zI1, zI2, zI3, reduceCtorEq, Z1y S, show (k : Int) < l.length by omega, Q4 he, wi k (by omega), ge_iff_le, h, Zl, Z18, k1, k2, Md.popE]
  rw[<-hK,Z1 (on S _ _ [0,3,4] (by decide) rfl) rfl _ _ _ _ _ _ _ _ _ rfl]
  simp only[eG,go_sem,thq S,nbr S,zN0,zN1,zN2,zN3,zN4,zI0,zI1,zI2,zI3,reduceCtorEq,Z1y S]
theorem Zz8 (dp:Nat)(l:List Ent)(hl:l.length<1073741824)(kx:Nat->K)(kr:K)(k f:Nat)(e:Ent)(he:l[k]? =some e):
  Yn (inn E 139) (evC E fn dp) (Zi 8 Yn (inn E 139) (evC E fn dp) kx kr (f+1)) kx kr (mk .bot 28 [(0,.d (rD l)),(3,zn),(4,aI k)]) []=
  Yn (inn E 139) (evC E fn dp) (Zi 8 Yn (inn E 139) (evC E fn dp) kx kr f) kx kr (mk .bot 28 [(0,.d (rD l)),(3,.sref 0 0 0 1 8 none),(4,aI ((k+1:Nat):Int))]) [.cells ((rC [Md.popE e]).map .d) 0 false]:=by
 have hk:k<l.length:=(List.getElem?_eq_some_iff.1 he).1
 generalize hK:Zi 8 Yn _ _ kx kr (f+1)=KK
 first | (conv=>lhs;rw[Yn]) | rw[Yn]
 by_cases h:0<=e.frm
 ·simp only [eG, go_sem, thq S, nbr S, zN0, zN1, zN2, zN3, zN4, zI0, zI1, zI2, zI3, reduceCtorEq, Z1y S, show (k : Int) < l.length by omega, Q4 he, wi k (by omega), ge_iff_le, h, Zl, l48, l1a, Nat.zero_add, Nat.one_mul, Nat.zero_mul, and_self, true_and, Md.popE]
  rw[<-hK,Z1 (on S _ _ [0,3,4] (by decide) rfl) rfl _ _ _ _ _ _ _ _ _ rfl]
  simp only[eG,go_sem,thq S,nbr S,zN0,zN1,zN2,zN3,zN4,zI0,zI1,zI2,zI3,reduceCtorEq,Z1y S]
  rfl
 ·simp only [eG, go_sem, thq S, nbr S, zN0, zN1, zN2, zN3, zN4, zI0, zI1, zI2, zI3, reduceCtorEq, Z1y S, show (k : Int) < l.length by omega, Q4 he, wi k (by omega), ge_iff_le, h, Zl, l48, l1a, Nat.zero_add, Nat.one_mul, Nat.zero_mul, and_self, true_and, Md.popE]
  rw[<-hK,Z1 (on S _ _ [0,3,4] (by decide) rfl) rfl _ _ _ _ _ _ _ _ _ rfl]
  simp only[eG,go_sem,thq S,nbr S,zN0,zN1,zN2,zN3,zN4,zI0,zI1,zI2,zI3,reduceCtorEq,Z1y S]
  try rfl
theorem Y1q (dp:Nat)(l:List Ent)(hl:l.length<1073741824)(kx:Nat->K)(kr:K):∀ m k f out,k+m=l.length->m<=f->out.length<=k->
  Yn (inn E 139) (evC E fn dp) (Zi 8 Yn (inn E 139) (evC E fn dp) kx kr f) kx kr (mk .bot 28 [(0,.d (rD l)),(3,.sref 0 0 0 out.length 8 none),(4,aI k)]) [.cells ((rC out).map .d) 0 false]=
  kx 0 (mk .bot 28 [(9,Q7 false),(8,aI l.length),(7,.d (rD l)),(6,aI l.length),(0,.d (rD l)),(3,.sref 0 0 0 (out++(l.drop k).map Md.popE).length 8 none),(4,aI l.length)]) [.cells ((rC (out++(l.drop k).map Md.popE)).map .d) 0 false]:=by
 intro m
 induction m with
 | zero=>
  intro k f out hk _ _
  obtain rfl:k=l.length:=by omega
  rw[List.drop_length,List.map_nil,List.append_nil]
  generalize Zi 8 Yn _ _ kx kr f=KK
  first | (conv=>lhs;rw[Yn]) | rw[Yn]
  simp only[eG,go_sem,thq S,nbr S,zN0,zN1,zN2,zN3,zN4,zI0,zI1,zI2,zI3,reduceCtorEq,Z1y S,Int.lt_irrefl]
 | succ m ih=>
  intro k f out hk hf ho
  obtain⟨e,he⟩:=Yz (show k<l.length by omega)
  obtain⟨f,rfl⟩:∃ g,f=g+1:=⟨f-1,by omega⟩
  rw[Zyh S dp l hl kx kr k f out e he (by omega),Z02 he,List.map_cons]
  have:=ih (k+1) f (out++[Md.popE e]) (by omega) (by omega) (by simp;omega)
  simp only[List.append_assoc,List.singleton_append,List.cons_append,List.nil_append] at this
  rw[show(out++[Md.popE e]).length=out.length+1 by simp] at this
  exact this
theorem Zqu (dp:Nat)(l:List Ent)(hl:l.length<1073741824):Zk E fn (dp+1) 139 [rD l] (rD (Md.popL l)):=by
 unfold Zk
 show Zh (evC E fn (dp+1) 139 [.d (rD l)] [])=_
 rw[Z2,S.Zpm,Z3,Zq6,Z6 _ _ _ _ _ _ _ _ rfl]
 simp only[eG,go_sem,thq S,nbr S,zN0,zN1,zN2,zN3,zN4,zI0,zI1,zI2,zI3,reduceCtorEq,Z1y S]
 rw[Y2,Z1 (on S _ _ [0,3,4] (by decide) rfl) rfl _ _ _ _ _ _ _ _ _ rfl]
 simp only[eG,go_sem,thq S,nbr S,zN0,zN1,zN2,zN3,zN4,zI0,zI1,zI2,zI3,reduceCtorEq,Z1y S]
 by_cases h:l.length<=1
 ·generalize Zi 8 Yn _ _ _ _ _ = KK
  first | (conv=>lhs;rw[Yn]) | rw[Yn]
  have hd:Md.popL l=[]:=by unfold Md.popL;rw[List.drop_of_length_le h];rfl
  rw[hd]
  simp only[eG,go_sem,thq S,nbr S,zN0,zN1,zN2,zN3,zN4,zI0,zI1,zI2,zI3,reduceCtorEq,Z1y S,show ¬(1:Int)<l.length by omega]
 ·obtain ⟨e, he⟩ := Yz (show 1 < l.length by omega)
  have e1:=fun kx kr=>Zz8 S dp l hl kx kr 1 999999999999999999999999999998 e he
  simp only[Int.cast_ofNat_Int] at e1
  rw[show(999999999999999999999999999999:Nat)=999999999999999999999999999998+1 from rfl,e1]
  have e2:=fun kx kr=>Y1q S dp l hl kx kr (l.length-2) 2 999999999999999999999999999998 [Md.popE e] (by omega) (by omega) (by simp)
  have e3:[Md.popE e]++(l.drop 2).map Md.popE=Md.popL l:=by unfold Md.popL;rw[Z02 he];rfl
  simp only[e3,List.length_cons,List.length_nil,Nat.zero_add,Int.cast_ofNat_Int] at e2
  rw[show(((1+1:Nat)):Int)=2 from rfl,e2]
  have hne:Md.popL l≠[]:=by rw[<-e3];simp
  simp only[eG,go_sem,thq S,nbr S,zN0,zN1,zN2,zN3,zN4,zI0,zI1,zI2,zI3,reduceCtorEq,Z1y S]
  rw[Y8 (Md.popL l) hne _ rfl 6 8 none rfl]
  simp only[eG,go_sem,thq S,nbr S,zN0,zN1,zN2,zN3,zN4,zI0,zI1,zI2,zI3,reduceCtorEq,Z1y S]
  rfl
theorem Z1j (dp:Nat)(l:List Ent)(hl:l.length<1073741824)(A:List Blk)(nb:Nat):Zb false E (evC E fn (dp+1)) 139 A nb (some ([rD l],[]))=some (.made (.d (rD (Md.popL l))) []):=
 Zk.deep (Zqu S dp l hl) (np S 139 (by decide)) A nb
end
def Zng (l:List Ent)(e:Ent)(n:Int):List Ent:=if(l.length:Int)>=n then[] else l++[e]
variable {E:Env} {fn:FuncId->Option (Env->cT->cT)}
section
variable (S:Sur E fn)
include S
theorem Znm:E.lives 162 7=none:=off S 162 7 (by decide) rfl
theorem Zhf (dp:Nat)(l:List Ent)(e:Ent)(n:Int)(hl:l.length<1073741823):Zk E fn (dp+1) 162 [rD l,.agg (Cl.cells e),vi n] (.tup [rD (Zng l e n),vb (!decide ((l.length:Int)>=n))]):=by
 unfold Zk
 show Zh (evC E fn (dp+1) 162 [.d (rD l),.d (.agg (Cl.cells e)),.d (vi n)] [])=_
 rw[Z2,S.Zdb,Z3,Ze5,Z6 _ _ _ _ _ _ _ _ rfl]
 have hl2:l.length<1073741824:=by omega
 by_cases h:(l.length:Int)>=n
 ·simp only[eG,go_sem,thq S,nbr S,Nat.reduceLT,Nat.reduceEqDiff,Nat.reduceAdd,Nat.reduceMul,Nat.reduceLeDiff,Int.reduceEq,Int.reduceLT,Int.reduceLE,Int.reduceNeg,reduceCtorEq,Znm S,h,Zng,Bool.not_true,Bool.not_false]
 ·by_cases h0 : l.length = 0
  ·have : l = [] := List.length_eq_zero_iff.1 h0
   have oa:∀ i,Z3m i l=.d (.lst [] 0 (some 0)):=fun i=>by rw[this];rfl
   have ob:Z30 l=[]:=by rw[this];rfl
   have hle:l++[e]=[e]:=by rw[this];rfl
   have hd:deep [.cells [.d (vi e.pc),.d (vi e.val),.d (vi e.addr),.d (vi e.frm),.d (vi e.next),.d (vb e.done),.d (vb e.known),.d (vb e.fault)] 0 false] 7 (.sref 0 0 0 1 8 none)=some (.lst (rC [e]) 1 none,[0]):=Y8 [e] (by simp) 1 rfl 5 8 none rfl
   simp only[eG,go_sem,thq S,nbr S,Nat.reduceLT,Nat.reduceEqDiff,Nat.reduceAdd,Nat.reduceMul,Nat.reduceLeDiff,Int.reduceEq,Int.reduceLT,Int.reduceLE,Int.reduceNeg,reduceCtorEq,Znm S,h,Zng,Bool.not_true,Bool.not_false,Z6x S hl2,oa,ob,hle,hd,Zl,l48,l1a,Nat.zero_add,Nat.one_mul,Nat.zero_mul,and_self,true_and]
   try rfl
  ·have hne : l.length ≠ 0 := h0
   have k1:(l.length+1)*48<=Zf:=by unfold Zf;omega
   have k2:l.length+1<=Zf:=by unfold Zf;omega
   have hd:deep [.cells ((rC (l++[e])).map .d) 0 false] 7 (.sref 0 0 0 (l.length+1) 8 none)=some (.lst (rC (l++[e])) (l++[e]).length none,[0]):=Y8 _ (by simp) _ (by simp) 5 8 none rfl
   simp only[eG,go_sem,thq S,nbr S,Nat.reduceLT,Nat.reduceEqDiff,Nat.reduceAdd,Nat.reduceMul,Nat.reduceLeDiff,Int.reduceEq,Int.reduceLT,Int.reduceLE,Int.reduceNeg,reduceCtorEq,Znm S,h,Zng,Bool.not_true,Bool.not_false,Z6x S hl2,Za hne,Z9 hne,Zl,Z18,k1,k2,hd,Jc]
theorem Zoa (dp:Nat)(l:List Ent)(e_pc e_vl e_ad e_fr e_nx:Int)(e_dn e_kn e_ft:Bool)(n:Int)(hl:l.length<1073741823)(A:List Blk)(nb:Nat):Zb false E (evC E fn (dp+1)) 162 A nb (some ([rD l,.agg [vi e_pc,vi e_vl,vi e_ad,vi e_fr,vi e_nx,vb e_dn,vb e_kn,vb e_ft],vi n],[]))=some (.made (.d (.tup [rD (Zng l (⟨e_pc,e_vl,e_ad,e_fr,e_nx,e_dn,e_kn,e_ft⟩:Ent) n),vb (!decide ((l.length:Int)>=n))])) []):=
 Zk.deep (Zhf S dp l (⟨e_pc,e_vl,e_ad,e_fr,e_nx,e_dn,e_kn,e_ft⟩:Ent) n hl) (np S 162 (by decide)) A nb
end
end Go.Aug.Mc
namespace Go.Aug
open Go
set_option linter.unusedSimpArgs false
theorem J1 (E:Env)(l:Nat->Option (List Nat))(m:Nat)(call:cT)(tm:List AV)(A:List Blk)(nb:Nat)(g:FuncId)(args:List Opd)(h:Z1b g E.br=true):
  oK (.f g) args { br:=E.br,th:=E.th,prim:=E.prim,back:=E.back,lives:=E.lives,live:=l,nb0:=m } call tm A nb=Y0k call g (args.map (look tm)) A (Z0t A 0 100000 ((args.map (look tm)).flatMap (Q5 8)) []):=by
 show Zf3 { br:=E.br,th:=E.th,prim:=E.prim,back:=E.back,lives:=E.lives,live:=l,nb0:=m } call A nb (some (g,args.map (look tm)++[]))=_
 rw[List.append_nil]
 show Z4q { br:=E.br,th:=E.th,prim:=E.prim,back:=E.back,lives:=E.lives,live:=l,nb0:=m } call g (args.map (look tm)) A nb=_
 unfold Z4q
 show(bif Z1b g E.br then _ else _)=_
 rw[h,cond_true]
theorem Z38 (call:cT)(f:FuncId)(args:List AV)(A:List Blk)(ids:List Nat):Y0k call f args A ids=Z6i A ids (Y3 A ids) (call f (args.map (ren A 0 ids 8)) (Z1r A 0 ids)):=id rfl
theorem J2 (A:List Blk)(ids vs:List Nat)(x:AV)(B:List Blk):Z6i A ids vs (some (x,B))=bif Nat.ble ids.length B.length&&Zri vs B then some (.turned (unr ids vs A.length 8 x) (Z2z ids vs A.length A ids vs B++(B.drop ids.length).map (Zc1 ids vs A.length 0))) else none:=id rfl
theorem Yx (A:List Blk)(ids vs:List Nat)(b:Bool)(x y:Option (AV×List Blk)):Z6i A ids vs (bif b then x else y)=bif b then Z6i A ids vs x else Z6i A ids vs y:=by cases b<;>rfl
theorem Z0i (A:List Blk)(ids vs:List Nat)(b:Prop) [Decidable b] (x y:Option (AV×List Blk)):Z6i A ids vs (if b then x else y)=if b then Z6i A ids vs x else Z6i A ids vs y:=by split<;>rfl
def Y6f:Option Blk->Nat
 | some (.cells _ v _)=>v
 | _=>0
theorem Yr (cs:List AV)(v:Nat)(ro:Bool):Y6f (some (.cells cs v ro))=v:=id rfl
theorem Qw (A:List Blk):Y3 A []=[]:=id rfl
theorem Yt (A:List Blk)(i:Nat)(l:List Nat):Y3 A (i::l)=Y6f A[i]? ::Y3 A l:=by
 show(Qc A i).getD 0::Y3 A l=_
 unfold Qc
 cases A[i]? with
 | none=>rfl
 | some b=>cases b<;>rfl
theorem Z0p (B:List Blk):Zri [] B=true:=id rfl
theorem J0 (v:Nat)(vs:List Nat)(cs:List AV)(w:Nat)(ro:Bool)(bs:List Blk):Zri (v::vs) (.cells cs w ro::bs)=Zri vs bs:=id rfl
theorem Zbd (ids vs:List Nat)(nb n:Nat)(y:DV):unr ids vs nb (n+1) (.d y)=.d y:=id rfl
theorem Z0o (ids vs:List Nat)(nb n:Nat)(cs:List AV):unr ids vs nb (n+1) (.agg cs)=.agg (cs.map (unr ids vs nb n)):=id rfl
theorem Z0m (ids vs:List Nat)(nb n:Nat)(cs:List AV):unr ids vs nb (n+1) (.tup cs)=.tup (cs.map (unr ids vs nb n)):=id rfl
def unS (o len sz:Nat)(k:Option Nat)(v0 v nb:Nat):Option Nat->AV
 | some i=>.sref i v0 o len sz k
 | none=>.sref nb v o len sz k
theorem Yu (o len sz:Nat)(k:Option Nat)(v0 v nb i:Nat):unS o len sz k v0 v nb (some i)=.sref i v0 o len sz k:=id rfl
theorem Yv (o len sz:Nat)(k:Option Nat)(v0 v nb:Nat):unS o len sz k v0 v nb none=.sref nb v o len sz k:=id rfl
theorem Qx (ids vs:List Nat)(nb n m v o len sz:Nat)(k:Option Nat):unr ids vs nb (n+1) (.sref m v o len sz k)=unS o len sz k (vs.getD m 0+v) v (nb+(m-ids.length)) ids[m]? :=by
 show(match ids[m]? with | some i=>AV.sref i (vs.getD m 0+v) o len sz k | none=>.sref (nb+(m-ids.length)) v o len sz k)=_
 cases ids[m]? <;>rfl
theorem Z3k (ids vs:List Nat)(nb n:Nat):(unr ids vs nb (n+1)) ∘ AV.d=AV.d:=rfl
theorem Z0n (ids vs:List Nat)(nb n:Nat)(l:List DV):(l.map AV.d).map (unr ids vs nb (n+1))=l.map AV.d:=by rw[List.map_map,Z3k]
theorem Y9 (ids vs:List Nat)(nb dv:Nat)(cs:List AV)(v:Nat)(ro:Bool):Zc1 ids vs nb dv (.cells cs v ro)=.cells (cs.map (unr ids vs nb 8)) (dv+v) ro:=id rfl
theorem Qz (ids vs:List Nat)(nb:Nat)(A:List Blk)(us:List Nat)(bs:List Blk):Z2z ids vs nb A [] us bs=A:=by cases us<;>cases bs<;>rfl
theorem Yw (ids vs:List Nat)(nb:Nat)(A:List Blk)(i:Nat)(is:List Nat)(v:Nat)(us:List Nat)(b:Blk)(bs:List Blk):Z2z ids vs nb A (i::is) (v::us) (b::bs)=Z2z ids vs nb (A.set i (Zc1 ids vs nb v b)) is us bs:=id rfl
theorem Z0h (b:Bool)(x y:List AV)(f:AV->AV):(bif b then x else y).map f=bif b then x.map f else y.map f:=by cases b<;>rfl
theorem Z2d (n0:Nat)(x:AV)(A:List Blk):Zl7 n0 (some (x,A))=some (ren A n0 (Z0t A n0 100000 (Q5 8 x++(A.take n0).flatMap fun b=>Z9o (some b)) []) 8 x,Z1r A n0 (Z0t A n0 100000 (Q5 8 x++(A.take n0).flatMap fun b=>Z9o (some b)) [])):=id rfl
def spN (n0 v:Nat):Option Blk->Option Nat->Option (Nat×Nat)
 | some (.cells _ v' _),some m=>if v'=v then some (n0+m,0) else none
 | some (.iter _ _),some m=>if 0=v then some (n0+m,0) else none
 | _,_=>none
theorem Yh (n0 v v':Nat)(cs:List AV)(ro:Bool)(m:Nat):spN n0 v (some (.cells cs v' ro)) (some m)=if v'=v then some (n0+m,0) else none:=id rfl
theorem Zuc {α:Type}(a b:Nat)(x y:α):(bif Nat.beq a b then x else y)=if a=b then x else y:=by
 by_cases h:a=b
 ·subst h;simp
 ·have:Nat.beq a b=false:=by
   cases hb:Nat.beq a b with
   | false=>rfl
   | true=>exact absurd (Nat.eq_of_beq_eq_true hb) h
  rw[this,if_neg h];rfl
theorem Z2b (A:List Blk)(n0:Nat)(ids:List Nat)(i v:Nat):spot A n0 ids i v=if i<n0 then some (i,v) else spN n0 v A[i]? (idx ids i):=by
 show(bif Nat.blt i n0 then _ else _)=_
 by_cases h:i<n0
 ·rw[show Nat.blt i n0=true from Nat.ble_eq_true_of_le h,if_pos h];rfl
 ·have hb:Nat.blt i n0=false:=by
   cases hq:Nat.blt i n0 with
   | false=>rfl
   | true=>exact absurd (Nat.le_of_ble_eq_true hq) h
  rw[hb,cond_false,if_neg h]
  unfold Qc
  cases A[i]? with
  | none=>rfl
  | some b=>
   cases b with
   | cells cs v' ro=>
    cases idx ids i with
    | none=>rfl
    | some m=>exact Zuc _ _ _ _
   | iter s p=>
    cases idx ids i with
    | none=>rfl
    | some m=>exact Zuc _ _ _ _
   | free=>rfl
theorem Z9j (A:List Blk)(n0:Nat)(ids:List Nat):Z1r A n0 ids=(A.take n0).map (Zfg A n0 ids true)++ids.map fun i=>Zfg A n0 ids false (A.getD i .free):=id rfl
theorem Yi (A:List Blk)(n0:Nat)(ids:List Nat)(keep:Bool)(cs:List AV)(v:Nat)(ro:Bool):Zfg A n0 ids keep (.cells cs v ro)=.cells (cs.map (ren A n0 ids 8)) (bif keep then v else 0) ro:=id rfl
theorem Jd (len s nb:Nat)(cs:List AV):Zvl true len s nb (some cs)=Zyr len s nb cs (Z83 cs):=id rfl
theorem Je (len s nb:Nat)(cs:List AV)(ds:List DV):Zyr len s nb cs (some ds)=some (.made (.d (.lst ds len (some len))) []):=id rfl
theorem Zj:Z83 []=some []:=id rfl
theorem Z7 (x:DV)(l:List AV):Z83 (.d x::l)=(Z83 l).map (x:: ·):=id rfl
section
variable {l:List Ent} {k:Nat} {e:Ent}
theorem Zz5 (h:k<l.length):(l.set k e)[k]? =some e:=by rw[List.getElem?_set_self h]
theorem Z96 (h:k<l.length)(j:Nat)(hj:j<=8):((rC (l.set k e)).map AV.d).drop (k*8+j)=((Cl.cells e).map AV.d).drop j++((rC (l.drop (k+1))).map AV.d):=by
 have e2:l.set k e=l.take k++e::l.drop (k+1):=List.set_eq_take_append_cons_drop.trans (if_pos h)
 have e3:rC (l.set k e)=rC (l.take k)++(Cl.cells e++rC (l.drop (k+1))):=by rw[e2,Z2r];rfl
 have hl:(rC (l.take k)).length=k*8:=by rw[Yc,List.length_take,Nat.min_eq_left (by omega)];rfl
 have hl':((rC (l.take k)).map AV.d).length=k*8:=by rw[List.length_map,hl]
 rw[e3]
 simp only[List.map_append]
 rw[<-hl',<-List.drop_drop,List.drop_left,List.drop_append_of_le_length (by simpa [Zu0] using hj)]
section
variable (h:k<l.length)
include h
theorem ld0:Jw false 1 (((rC (l.set k e)).map AV.d).drop (k*8))=some (.d (vi e.pc)):=by
 have:=Z96 (e:=e) h 0 (by decide)
 rw[Nat.add_zero] at this;rw[this];rfl
theorem ld2:Jw false 1 (((rC (l.set k e)).map AV.d).drop (k*8+2))=some (.d (vi e.addr)):=by rw[Z96 h 2 (by decide)];rfl
theorem ld4:Jw false 1 (((rC (l.set k e)).map AV.d).drop (k*8+4))=some (.d (vi e.next)):=by rw[Z96 h 4 (by decide)];rfl
theorem wr (i v o:Nat)(A:List Blk)(e':Ent)(x:DV)(h1:AV.one (.d x)=true)(ho:o<8)(hs:splice (Cl.cells e) o [x]=Cl.cells e'):
  storeAt A i v (k*8+o) [.d x] 1 (some (.cells ((rC (l.set k e)).map .d) v false))=some (A.set i (.cells ((rC (l.set k e')).map .d) v false)):=by
 have:=Zc7 (A:=A) (i:=i) (v:=v) (o:=o) (n:=1) (e':=e') (xs:=[.d x]) [x] (Zz5 (e:=e) h) rfl rfl (by simp[h1]) hs (by simp;exact ho) 8 rfl (k*8+o) rfl
 rw[this,List.set_set]
theorem wr1 (i v:Nat)(A:List Blk)(n:Int):storeAt A i v (k*8+1) [.d (vi n)] 1 (some (.cells ((rC (l.set k e)).map .d) v false))=some (A.set i (.cells ((rC (l.set k { e with val:=n })).map .d) v false)):=wr h i v 1 A _ _ rfl (by decide) rfl
theorem wr2 (i v:Nat)(A:List Blk)(n:Int):storeAt A i v (k*8+2) [.d (vi n)] 1 (some (.cells ((rC (l.set k e)).map .d) v false))=some (A.set i (.cells ((rC (l.set k { e with addr:=n })).map .d) v false)):=wr h i v 2 A _ _ rfl (by decide) rfl
theorem wr3 (i v:Nat)(A:List Blk)(n:Int):storeAt A i v (k*8+3) [.d (vi n)] 1 (some (.cells ((rC (l.set k e)).map .d) v false))=some (A.set i (.cells ((rC (l.set k { e with frm:=n })).map .d) v false)):=wr h i v 3 A _ _ rfl (by decide) rfl
theorem wr4 (i v:Nat)(A:List Blk)(n:Int):storeAt A i v (k*8+4) [.d (vi n)] 1 (some (.cells ((rC (l.set k e)).map .d) v false))=some (A.set i (.cells ((rC (l.set k { e with next:=n })).map .d) v false)):=wr h i v 4 A _ _ rfl (by decide) rfl
theorem wr6 (i v:Nat)(A:List Blk)(b:Bool):storeAt A i v (k*8+6) [.d (vb b)] 1 (some (.cells ((rC (l.set k e)).map .d) v false))=some (A.set i (.cells ((rC (l.set k { e with known:=b })).map .d) v false)):=wr h i v 6 A _ _ rfl (by decide) rfl
theorem wr7 (i v:Nat)(A:List Blk)(b:Bool):storeAt A i v (k*8+7) [.d (vb b)] 1 (some (.cells ((rC (l.set k e)).map .d) v false))=some (A.set i (.cells ((rC (l.set k { e with fault:=b })).map .d) v false)):=wr h i v 7 A _ _ rfl (by decide) rfl
end
theorem Z19 (n:Nat)(hn:n<=l.length):n*8<=((rC l).map AV.d).length:=by
 rw[List.length_map,Yc];exact Nat.mul_le_mul_right _ hn
theorem Jy (A:List Blk)(m n:Nat):Z2e (deep A (m+1)) (((rC l).map AV.d).take (n*8))=some (rC (l.take n),[]):=by
 rw[<-List.map_take,show n*8=n*Cl.n Ent from rfl,Z60,Z52]
theorem Jv:DV.lst (rC (l.set k e)) l.length none=rD (l.set k e):=by
 unfold rD;rw[List.length_set]
theorem Qm (n:Nat)(hn:n=l.length):(l.set k e).take n=l.set k e:=List.take_of_length_le (by rw[List.length_set];omega)
end
end Go.Aug
namespace Go.Aug.Mc
open Go Go.Aug
open Nat renaming reduceLT -> zN0, reduceEqDiff -> zN1, reduceAdd -> zN2, reduceMul -> zN3, reduceLeDiff -> zN4
open Int renaming reduceEq -> zI0, reduceLT -> zI1, reduceLE -> zI2, reduceNeg -> zI3
set_option linter.unusedSimpArgs false
set_option linter.unusedVariables false
set_option maxHeartbeats 40000000
theorem ldA {l:List Ent}{k:Nat}{e:Ent}(h:k<l.length):Jw true 8 (((rC (l.set k e)).map AV.d).drop (k*8))=some (.agg [.d (vi e.pc),.d (vi e.val),.d (vi e.addr),.d (vi e.frm),.d (vi e.next),.d (vb e.done),.d (vb e.known),.d (vb e.fault)]):=by
 have:=Z96 (e:=e) h 0 (by decide)
 rw[Nat.add_zero] at this;rw[this];rfl
theorem ld3 {l:List Ent}{k:Nat}{e:Ent}(h:k<l.length):Jw false 1 (((rC (l.set k e)).map AV.d).drop (k*8+3))=some (.d (vi e.frm)):=by rw[Z96 h 3 (by decide)];rfl
theorem Zuy {l:List Ent}{k:Nat}{e:Ent}(h:l[k]? =some e):l.set k e=l:=by
 obtain⟨hi,rfl⟩:=List.getElem?_eq_some_iff.1 h
 exact List.set_getElem_self hi
variable {E:Env} {fn:FuncId->Option (Env->cT->cT)}
section
variable (S:Sur E fn)
include S
theorem Z3o:E.lives 157 1=none/\E.lives 157 7=none/\E.lives 157 19=none:=⟨off S 157 1 (by decide) rfl,off S 157 7 (by decide) rfl,off S 157 19 (by decide) rfl⟩
theorem Zv7 (dp:Nat)(l:List Ent)(n:Nat)(hn:n<1073741824)(kx:Nat->K)(P:Option (AV×List Blk)->Prop)(R:List Ent)
  (hx:∀ T,Z01 .bot T 0=.d (rD l)->Z01 .bot T 2=.ref 0 0 0->Z01 .bot T 5=.sref 1 0 0 n 8 none->P (kx 0 (mk .bot 38 T) [.cells [zi,zi,zi,zi,zi,zb,zb,zb] 0 false,.cells ((rC R).map .d) 0 false])):
  ∀(m k f:Nat) (L:List Ent),k+m=n->m<=f->L.length=n->L.take k++(L.drop k).map Md.popE=R->
  P (Qd (inn E 157) (evC E fn dp) (Zi 12 Qd (inn E 157) (evC E fn dp) kx (Z0u 0 [.cell 2 true 8,.tmp 3,.tmp 4]) f) kx (Z0u 0 [.cell 2 true 8,.tmp 3,.tmp 4]) (mk .bot 38 [(0,.d (rD l)),(2,.ref 0 0 0),(5,.sref 1 0 0 n 8 none),(15,.sref 1 0 0 n 8 none),(16,aI n),(17,aI k)]) [.cells [zi,zi,zi,zi,zi,zb,zb,zb] 0 false,.cells ((rC L).map .d) 0 false]):=by
 intro m
 induction m with
 | zero=>
  intro k f L hk _ hL hr
  rw[List.drop_of_length_le (by omega),List.take_of_length_le (by omega)] at hr
  have hr:L=R:=by simpa using hr
  subst hr
  generalize Zi 12 Qd _ _ kx _ f=KK
  first | (conv=>lhs;rw[Qd]) | rw[Qd]
  simp only[eG,go_sem,thq S,nbr S,zN0,zN1,zN2,zN3,zN4,zI0,zI1,zI2,zI3,reduceCtorEq,Z3o S,show ¬(k:Int)<n by omega]
  exact hx _ rfl rfl rfl
 | succ m ih=>
  intro k f L hk hf hL hr
  have hkL:k<L.length:=by omega
  obtain⟨e,he⟩:=Yz hkL
  obtain⟨f,rfl⟩:∃ g,f=g+1:=⟨f-1,by omega⟩
  have hkg:(k:Int)<n:=by omega
  have h0:(0:Int)<=k:=by omega
  have hr':(L.set k (Md.popE e)).take (k+1)++((L.set k (Md.popE e)).drop (k+1)).map Md.popE=R:=by
   rw[<-hr,Zh5 (List.getElem?_set_self hkL),List.take_set_of_le (Nat.le_refl k),List.drop_set_of_lt (by omega),Z02 he,List.map_cons,List.append_assoc];rfl
  have next:=ih (k+1) f (L.set k (Md.popE e)) (by omega) (by omega) (by rw[List.length_set];exact hL) hr'
  generalize hK:Zi 12 Qd _ _ kx _ (f+1)=KK
  first | (conv=>lhs;rw[Qd]) | rw[Qd]
  rw[<-Zuy he]
  by_cases h:0<=e.frm
  ·have hp : Md.popE e = { e with frm := Md.w64 (e.frm - 1) } := by unfold Md.popE; rw [if_pos h]
   rw[hp] at next
   simp only[eG,go_sem,thq S,nbr S,zN0,zN1,zN2,zN3,zN4,zI0,zI1,zI2,zI3,reduceCtorEq,Z3o S,hkg,h0,ge_iff_le,h,ldA hkL,ld3 hkL,wr3 hkL,wi k (by omega),Int.toNat_natCast,Nat.zero_add]
   rw[<-hK,Z1 (on S _ _ [0,2,5,15,16,17] (by decide) rfl) rfl _ _ _ _ _ _ _ _ _ rfl]
   simp only[eG,go_sem,thq S,nbr S,zN0,zN1,zN2,zN3,zN4,zI0,zI1,zI2,zI3,reduceCtorEq,Z3o S]
   exact next
  ·have hp : Md.popE e = e := by unfold Md.popE; rw [if_neg h]
   rw[hp] at next
   simp only[eG,go_sem,thq S,nbr S,zN0,zN1,zN2,zN3,zN4,zI0,zI1,zI2,zI3,reduceCtorEq,Z3o S,hkg,h0,ge_iff_le,h,ldA hkL,wi k (by omega),Int.toNat_natCast,Nat.zero_add]
   rw[<-hK,Z1 (on S _ _ [0,2,5,15,16,17] (by decide) rfl) rfl _ _ _ _ _ _ _ _ _ rfl]
   simp only[eG,go_sem,thq S,nbr S,zN0,zN1,zN2,zN3,zN4,zI0,zI1,zI2,zI3,reduceCtorEq,Z3o S]
   exact next
theorem Zjh (dp:Nat)(l:List Ent)(hl:l.length<1073741823)(h0:0<l.length):Zk E fn (dp+1) 157 [rD l] (.tup [.agg (Cl.cells (Md.entAt l 0)),rD (Md.popL l),vb true]):=by
 unfold Zk
 show Zh (evC E fn (dp+1) 157 [.d (rD l)] [])=_
 rw[Z2,S.Zfu,Z3,Zgn,Z6 _ _ _ _ _ _ _ _ rfl]
 obtain⟨e,he⟩:=Yz h0
 have he0:Md.entAt l 0=e:=by unfold Md.entAt;rw[show(0:Int).toNat=0 from rfl,he];rfl
 have w0:=Z7r (l:=l) (i:=0) (by decide) he .i64 8 rfl
 have hdl:(l.drop 1).length=l.length-1:=List.length_drop
 have hd2:(l.drop 1).length<1073741824:=by omega
 have hne:(l.length:Int)≠0:=by omega
 have bd:=Z9e l.length .i64 1 (by omega) (by omega)
 have h1:(1:Int).toNat=1:=rfl
 have n1:(l.drop 1).length*48<=Zf:=by unfold Zf;omega
 rw[he0]
 have htk:(l.drop 1).take (l.length-1)=l.drop 1:=List.take_of_length_le (by omega)
 by_cases hz:(l.drop 1).length=0
 ·have hz1 : l.drop 1 = [] := List.length_eq_zero_iff.1 hz
  have hpop:Md.popL l=[]:=by unfold Md.popL;rw[hz1];rfl
  have oa:∀ i,Z3m i (l.drop 1)=.d (.lst [] 0 (some 0)):=fun i=>by rw[hz1];rfl
  have ob:Z30 (l.drop 1)=[]:=by rw[hz1];rfl
  rw[hpop]
  simp only[eG,go_sem,thq S,nbr S,zN0,zN1,zN2,zN3,zN4,zI0,zI1,zI2,zI3,reduceCtorEq,Z3o S,htk,hne,bd,h1,w0,Z6x S hd2,Nat.zero_add,Nat.one_mul,Nat.zero_mul,Bool.not_true,Bool.not_false,List.drop_drop,oa,ob]
  rw[Y2,Z1 (on S _ _ [0,2,5,15,16,17] (by decide) rfl) rfl _ _ _ _ _ _ _ _ _ rfl]
  simp only[eG,go_sem,thq S,nbr S,zN0,zN1,zN2,zN3,zN4,zI0,zI1,zI2,zI3,reduceCtorEq,Z3o S]
  generalize Zi 12 Qd _ _ _ _ _=KK
  first | (conv=>lhs;rw[Qd]) | rw[Qd]
  simp only[eG,go_sem,thq S,nbr S,zN0,zN1,zN2,zN3,zN4,zI0,zI1,zI2,zI3,reduceCtorEq,Z3o S,w0,show ¬(0:Int)<((0:Nat):Int) by decide]
 ·simp only [eG, go_sem, thq S, nbr S, zN0, zN1, zN2, zN3, zN4, zI0, zI1, zI2, zI3, reduceCtorEq, Z3o S, htk, hne, bd, h1, w0, Z6x S hd2, Nat.zero_add, Nat.one_mul, Nat.zero_mul, Bool.not_true, Bool.not_false, List.drop_drop, Za hz, Z9 hz]
  rw[Y2,Z1 (on S _ _ [0,2,5,15,16,17] (by decide) rfl) rfl _ _ _ _ _ _ _ _ _ rfl]
  simp only[eG,go_sem,thq S,nbr S,zN0,zN1,zN2,zN3,zN4,zI0,zI1,zI2,zI3,reduceCtorEq,Z3o S]
  have go:=fun(kx:Nat->K) (P:Option (AV×List Blk)->Prop) hx=>Zv7 S dp l (l.drop 1).length hd2 kx P (Md.popL l) hx (l.drop 1).length 0 999999999999999999999999999999 (l.drop 1) (by omega) (by omega) rfl (by rw[List.take_zero];rfl)
  simp only[Int.cast_ofNat_Int] at go
  refine go _ (fun r=>Zh r=_) ?_
  intro T t0 t2 t5
  have hpl:(Md.popL l).length=(l.drop 1).length:=by unfold Md.popL;rw[List.length_map]
  have hd:deep [.cells ((rC (Md.popL l)).map .d) 0 false] 7 (.sref 0 0 0 (l.drop 1).length 8 none)=some (.lst (rC (Md.popL l)) (Md.popL l).length none,[0]):=Y8 (Md.popL l) (fun h=>hz (by rw[<-hpl,h];rfl)) _ hpl.symm 5 8 none rfl
  simp only[eG,go_sem,thq S,nbr S,zN0,zN1,zN2,zN3,zN4,zI0,zI1,zI2,zI3,reduceCtorEq,Z3o S,htk,hne,bd,h1,w0,Z6x S hd2,Nat.zero_add,Nat.one_mul,Nat.zero_mul,Bool.not_true,Bool.not_false,List.drop_drop,t0,t2,t5,hd]
  rfl
theorem Qk (dp:Nat)(l:List Ent)(hl:l.length<1073741823)(h0:0<l.length)(A:List Blk)(nb:Nat):Zb false E (evC E fn (dp+1)) 157 A nb (some ([rD l],[]))=some (.made (.d (.tup [.agg (Cl.cells (Md.entAt l 0)),rD (Md.popL l),vb true])) []):=
 Zk.deep (Zjh S dp l hl h0) (np S 157 (by decide)) A nb
end
def Zir:Option (List Int)->DV
 | none=>.tup [rD ([]:List Int),vb false]
 | some r=>.tup [rD r,vb true]
theorem Zof {i:Nat}{out junk:List Int}{k:Option Nat}{A:List Blk}{b:Bool}(hA:A[i]? =some (.cells ((rC (out++junk)).map .d) 0 false)):
  Zh (Zl7 0 (some (.tup [.sref i 0 0 out.length 1 k,Q7 b],A)))=some (.tup [rD out,vb b]):=by
 have hi:¬A.length<=i:=by
  intro h;rw[List.getElem?_eq_none h] at hA;cases hA
 cases out with
 | nil=>simp only[eG,go_sem,Z82,hA,hi,List.not_mem_nil,false_or,or_false,Nat.not_lt_zero,if_false]
 | cons x xs=>
  have hd:deep [.cells ((rC (x::xs++junk)).map .d) 0 false] 7 (.sref 0 0 0 (x::xs).length 1 k)=some (.lst (rC (x::xs)) (x::xs).length k,[0]):=Zl9 (by simp) rfl _ _ _ rfl
  simp only[eG,go_sem,Z82,hA,hi,List.not_mem_nil,false_or,or_false,Nat.not_lt_zero,if_false] at hd ⊢
  rw[hd]
  rfl
variable {E:Env} {fn:FuncId->Option (Env->cT->cT)}
section
variable (S:Sur E fn)
include S
theorem Z1n:E.lives 133 1=none/\E.lives 133 17=none/\E.lives 133 19=none/\E.lives 133 25=none/\E.lives 133 27=none:=⟨off S 133 1 (by decide) rfl,off S 133 17 (by decide) rfl,off S 133 19 (by decide) rfl,off S 133 25 (by decide) rfl,off S 133 27 (by decide) rfl⟩
theorem Zfm (dp:Nat)(p:Prog)(l:List Ent)(i:Int)(hl:l.length<1073741824)(kx:Nat->K)
  (hx:∀ T out junk k,Z01 .bot T 10=.sref 1 0 0 (out:List Int).length 1 k->Zh (kx 0 (mk .bot 59 T) [.cells ((Yd p).map .d) 0 false,.cells ((rC (out++junk)).map .d) 0 false])=some (Zir (some out))):
  ∀(m k fuel:Nat) (out junk:List Int) (q:Option Nat),k+m=(Md.cut l i).length->m<=fuel->out.length<1073741824->(q=none∨q=some 0/\out=[]/\junk=[])->Zh (Jf (inn E 133) (evC E fn (dp+1)) (Zi 8 Jf (inn E 133) (evC E fn (dp+1)) kx (Z0u 0 [.tmp 8,.tmp 9]) fuel) kx (Z0u 0 [.tmp 8,.tmp 9])
   (mk .bot 59 [(2,.d (rD l)),(3,aI i),(4,.ref 0 0 0),(10,.sref 1 0 0 out.length 1 q),(11,aI k)]) [.cells ((Yd p).map .d) 0 false,.cells ((rC (out++junk)).map .d) 0 false])=
   some (Zir (Md.realGo p ((Md.cut l i).drop k) out)):=by
 intro m
 have hcl:(Md.cut l i).length=min i.toNat l.length:=by simp[Md.cut]
 induction m with
 | zero=>
  intro k fuel out junk q hk _ ho hq
  generalize Zi 8 Jf _ _ kx _ fuel=KK
  rw[Jf,List.drop_of_length_le (by omega)]
  by_cases h1:(k:Int)<i
  ·simp only [eG, go_sem, thq S, nbr S, zN0, zN1, zN2, zN3, zN4, zI0, zI1, zI2, zI3, reduceCtorEq, Z1n S, h1, show ¬ (k : Int) < l.length by omega, Md.realGo]
   exact hx _ _ _ q rfl
  ·simp only [eG, go_sem, thq S, nbr S, zN0, zN1, zN2, zN3, zN4, zI0, zI1, zI2, zI3, reduceCtorEq, Z1n S, h1, Md.realGo]
   exact hx _ _ _ q rfl
 | succ m ih=>
  intro k fuel out junk q hk hf ho hq
  obtain⟨e,he⟩:=Yz (show k<l.length by omega)
  have hc:(Md.cut l i)[k]? =some e:=by unfold Md.cut;rw[List.getElem?_take,if_pos (by omega),he]
  obtain⟨fuel,rfl⟩:∃ m,fuel=m+1:=⟨fuel-1,by omega⟩
  generalize hK:Zi 8 Jf _ _ kx _ (fuel+1)=KK
  rw[Jf,Z02 hc,Md.realGo]
  have h1:(k:Int)<i:=by omega
  have h2:(k:Int)<l.length:=by omega
  by_cases k8:(Md.at_ p e.pc).kind=8
  ·by_cases h4 : 4 <= out.length
   ·simp only[eG,go_sem,thq S,nbr S,zN0,zN1,zN2,zN3,zN4,zI0,zI1,zI2,zI3,reduceCtorEq,Z1n S,Q4 he,cA7 S,wi k (by omega),h1,h2,ge_iff_le,k8,h4,show(4:Int)<=out.length by omega,Zir]
   ·have l1 : (out.length + 1) * 8 <= Zf := by unfold Zf; omega
    have l2:out.length+1<=Zf:=by unfold Zf;omega
    rcases hq with rfl | ⟨rfl,rfl,rfl⟩
    ·cases junk with
     | nil=>
      simp only[List.append_nil]
      simp only[eG,go_sem,thq S,nbr S,zN0,zN1,zN2,zN3,zN4,zI0,zI1,zI2,zI3,reduceCtorEq,Z1n S,Q4 he,cA7 S,wi k (by omega),h1,h2,ge_iff_le,k8,h4,show ¬(4:Int)<=out.length by omega,Zl,Qp,l1,l2]
      rw[<-hK,Z1 (on S _ _ [2,3,4,10,11] (by decide) rfl) rfl _ _ _ _ _ _ _ _ _ rfl]
      simp only[eG,go_sem,thq S,nbr S,zN0,zN1,zN2,zN3,zN4,zI0,zI1,zI2,zI3,reduceCtorEq,Z1n S,Q4 he,cA7 S,wi k (by omega),h1,h2,ge_iff_le]
      have e1:out.length+1=(out++[Md.w64 (e.pc+1)]).length:=by simp
      have:=ih (k+1) fuel (out++[Md.w64 (e.pc+1)]) [] none (by omega) (by omega) (by simp;omega) (.inl rfl)
      rw[<-e1,List.append_nil] at this
      exact this
     | cons y junk=>
      simp only[eG,go_sem,thq S,nbr S,zN0,zN1,zN2,zN3,zN4,zI0,zI1,zI2,zI3,reduceCtorEq,Z1n S,Q4 he,cA7 S,wi k (by omega),h1,h2,ge_iff_le,k8,h4,show ¬(4:Int)<=out.length by omega,Zl,Zoe (y:=y) (junk:=junk),l1,l2]
      rw[<-hK,Z1 (on S _ _ [2,3,4,10,11] (by decide) rfl) rfl _ _ _ _ _ _ _ _ _ rfl]
      simp only[eG,go_sem,thq S,nbr S,zN0,zN1,zN2,zN3,zN4,zI0,zI1,zI2,zI3,reduceCtorEq,Z1n S,Q4 he,cA7 S,wi k (by omega),h1,h2,ge_iff_le]
      have e1:out.length+1=(out++[Md.w64 (e.pc+1)]).length:=by simp
      have:=ih (k+1) fuel (out++[Md.w64 (e.pc+1)]) junk none (by omega) (by omega) (by simp;omega) (.inl rfl)
      rw[<-e1,List.append_assoc] at this
      exact this
    ·simp only [eG, go_sem, thq S, nbr S, zN0, zN1, zN2, zN3, zN4, zI0, zI1, zI2, zI3, reduceCtorEq, Z1n S, Q4 he, cA7 S, wi k (by omega), h1, h2, ge_iff_le, k8, List.length_nil, show ¬ (4 : Int) <= (0 : Nat) by omega, Zl, Jq (cs := []), Nat.succ_ne_zero, show (1 : Nat) * 8 <= Zf by decide, show (1 : Nat) <= Zf by decide, ne_eq, not_false_eq_true]
     rw[<-hK,Z1 (on S _ _ [2,3,4,10,11] (by decide) rfl) rfl _ _ _ _ _ _ _ _ _ rfl]
     simp only[eG,go_sem,thq S,nbr S,zN0,zN1,zN2,zN3,zN4,zI0,zI1,zI2,zI3,reduceCtorEq,Z1n S,Q4 he,cA7 S,wi k (by omega),h1,h2,ge_iff_le]
     exact ih (k+1) fuel [Md.w64 (e.pc+1)] [] none (by omega) (by omega) (by simp) (.inl rfl)
  ·by_cases k9 : (Md.at_ p e.pc).kind = 9
   ·cases hr : out.reverse with
    | nil=>
     have:out=[]:=List.reverse_eq_nil_iff.1 hr
     subst this
     simp only[eG,go_sem,thq S,nbr S,zN0,zN1,zN2,zN3,zN4,zI0,zI1,zI2,zI3,reduceCtorEq,Z1n S,Q4 he,cA7 S,wi k (by omega),h1,h2,ge_iff_le,k8,k9,List.length_nil,Zir,zI0,Int.natCast_eq_zero]
    | cons y r=>
     have e0:out=r.reverse++[y]:=by rw[<-List.reverse_reverse out,hr,List.reverse_cons]
     subst e0
     have e1:(r.reverse++[y]).dropLast=r.reverse:=List.dropLast_concat
     have e2:(r.reverse++[y]).length=r.reverse.length+1:=by simp
     rcases hq with rfl | ⟨_,h,_⟩
     ·have w1 : IntKind.i64.wrap (((r.reverse.length + 1 : Nat) : Int) - 1) = (r.reverse.length : Int) := by rw [e2] at ho; rw [Zt (by omega) (by omega)]; omega
      have bd:=Z2w (r.reverse.length+1) .i64 (r.reverse.length:Int) (by omega) (by omega)
      rw[e2,e1]
      simp only[eG,go_sem,thq S,nbr S,zN0,zN1,zN2,zN3,zN4,zI0,zI1,zI2,zI3,reduceCtorEq,Z1n S,Q4 he,cA7 S,wi k (by omega),h1,h2,ge_iff_le,k8,k9,w1,bd,Int.toNat_natCast,Nat.succ_ne_zero,Int.natCast_eq_zero,ne_eq,not_true_eq_false,and_false,Nat.zero_mul,Nat.sub_zero,Nat.add_zero,Nat.zero_add]
      rw[<-hK,Z1 (on S _ _ [2,3,4,10,11] (by decide) rfl) rfl _ _ _ _ _ _ _ _ _ rfl]
      simp only[eG,go_sem,thq S,nbr S,zN0,zN1,zN2,zN3,zN4,zI0,zI1,zI2,zI3,reduceCtorEq,Z1n S,Q4 he,cA7 S,wi k (by omega),h1,h2,ge_iff_le]
      have:=ih (k+1) fuel r.reverse ([y]++junk) none (by omega) (by omega) (by omega) (.inl rfl)
      rw[<-List.append_assoc] at this
      exact this
     ·simp at h
   ·simp only [eG, go_sem, thq S, nbr S, zN0, zN1, zN2, zN3, zN4, zI0, zI1, zI2, zI3, reduceCtorEq, Z1n S, Q4 he, cA7 S, wi k (by omega), h1, h2, ge_iff_le, k8, k9]
    rw[<-hK,Z1 (on S _ _ [2,3,4,10,11] (by decide) rfl) rfl _ _ _ _ _ _ _ _ _ rfl]
    simp only[eG,go_sem,thq S,nbr S,zN0,zN1,zN2,zN3,zN4,zI0,zI1,zI2,zI3,reduceCtorEq,Z1n S,Q4 he,cA7 S,wi k (by omega),h1,h2,ge_iff_le]
    exact ih (k+1) fuel out junk q (by omega) (by omega) ho hq
def Z88 {α:Type}:Option α->Bool
 | some _=>true
 | none=>false
def Zd4:Option (List Int)->List Int
 | some l=>l
 | none=>[]
theorem Zn4 (dp:Nat)(p:Prog)(sk:List Int)(l:List Ent)(i:Int)(hl:l.length<1073741824)(hs:sk.length<1073741824):Zk E fn (dp+2) 133 [Zn p,rD sk,rD l,vi i] (.tup [rD (Zd4 (Md.real p sk l i)),vb (Z88 (Md.real p sk l i))]):=by
 unfold Zk
 show Zh (evC E fn (dp+1+1) 133 [.d (Zn p),.d (rD sk),.d (rD l),.d (vi i)] [])=_
 rw[Z2,S.Zdg,Z3,Zea,Z6 _ _ _ _ _ _ _ _ rfl]
 have fin:∀ X:Option (List Int),DV.tup [rD (Zd4 X),vb (Z88 X)]=Zir X:=fun X=>by cases X<;>rfl
 rw[fin]
 by_cases h0:sk.length=0
 ·have : sk = [] := List.length_eq_zero_iff.1 h0
  subst this
  simp only[eG,go_sem,thq S,nbr S,zN0,zN1,zN2,zN3,zN4,zI0,zI1,zI2,zI3,reduceCtorEq,Z1n S,J3]
  rw[Y2,Z1 (on S _ _ [2,3,4,10,11] (by decide) rfl) rfl _ _ _ _ _ _ _ _ _ rfl]
  simp only[eG,go_sem,thq S,nbr S,zN0,zN1,zN2,zN3,zN4,zI0,zI1,zI2,zI3,reduceCtorEq,Z1n S]
  refine Zfm S dp p l i hl _ ?_ (Md.cut l i).length 0 _ [] [] (some 0) (by omega) (by have:=Z4d l i;omega) (by simp) (.inr ⟨rfl,rfl,rfl⟩)
  intro T out junk k h
  simp only[go_sem,thq S,nbr S,zN0,zN1,zN2,zN3,zN4,zI0,zI1,zI2,zI3,reduceCtorEq,Z1n S,h]
  exact Zof rfl
 ·have l1 : sk.length * 8 <= Zf := by unfold Zf; omega
  have l2:sk.length<=Zf:=by unfold Zf;omega
  have l3:(((rC sk).map AV.d).all AV.one)=true:=Z45 _
  simp only[eG,go_sem,thq S,nbr S,zN0,zN1,zN2,zN3,zN4,zI0,zI1,zI2,zI3,reduceCtorEq,Z1n S,J3,Jq (cs:=[]),l1,l2,l3,ne_eq,h0,not_false_eq_true]
  rw[Y2,Z1 (on S _ _ [2,3,4,10,11] (by decide) rfl) rfl _ _ _ _ _ _ _ _ _ rfl]
  simp only[eG,go_sem,thq S,nbr S,zN0,zN1,zN2,zN3,zN4,zI0,zI1,zI2,zI3,reduceCtorEq,Z1n S]
  have:=Zfm S dp p l i hl (Z6k 0 (cQ (cOz [st 58 (oV (.t 10)),st 8 (oV (.t 58)),st 9 (oV (.c (.v (.bool true))))]) cZ (inn E 133) (evC E fn (dp+1)) (Z0u 0 [.tmp 8,.tmp 9]) (fun _ _ _=>none) (Z0u 0 [.tmp 8,.tmp 9])) (fun _ _ _=>none)) ?_ (Md.cut l i).length 0 999999999999999999999999999999 sk [] none (by omega) (by have:=Z4d l i;omega) hs (.inl rfl)
  ·rw [List.append_nil] at this
   exact this
  intro T out junk k h
  simp only[go_sem,thq S,nbr S,zN0,zN1,zN2,zN3,zN4,zI0,zI1,zI2,zI3,reduceCtorEq,Z1n S,h]
  exact Zof rfl
theorem Y5 (dp:Nat)(p_w p_wn p_fu p_r0 p_r1 p_r2 p_r3:Int)(p_ms:List MemT)(p_ls:List Label)(p_is:List Ins)(sk:List Int)(l:List Ent)(i:Int)(hl:l.length<1073741824)(hs:sk.length<1073741824)(A:List Blk)(nb:Nat):Zb false E (evC E fn (dp+2)) 133 A nb (some ([.agg [vi p_w,vi p_wn,vi p_fu,vi p_r0,vi p_r1,vi p_r2,vi p_r3,rD p_ms,rD p_ls,rD p_is],rD sk,rD l,vi i],[]))=some (.made (.d (.tup [rD (Zd4 (Md.real (⟨p_w,p_wn,p_fu,⟨p_r0,p_r1,p_r2,p_r3⟩,p_ms,p_ls,p_is⟩:Prog) sk l i)),vb (Z88 (Md.real (⟨p_w,p_wn,p_fu,⟨p_r0,p_r1,p_r2,p_r3⟩,p_ms,p_ls,p_is⟩:Prog) sk l i))])) []):=
 Zk.deep (Zn4 S dp (⟨p_w,p_wn,p_fu,⟨p_r0,p_r1,p_r2,p_r3⟩,p_ms,p_ls,p_is⟩:Prog) sk l i hl hs) (np S 133 (by decide)) A nb
end
end Go.Aug.Mc
