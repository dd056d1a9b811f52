import Derived.Test.YtmfdoekbjkgckaaGreatMc60
import Derived.Test.YtmfdoekbjkgckaaGreatMc12
namespace Go.Aug.Mc
open Go Go.Aug
set_option linter.unusedSimpArgs false
set_option linter.unusedVariables false
set_option maxHeartbeats 40000000
set_option maxRecDepth 200000
variable {E:Env} {fn:FuncId->Option (Env->cT->cT)}
section
variable (S:Sur E fn)
include S
end
section
variable (S:Sur E fn)
include S
end
end Go.Aug.Mc
namespace Go.Aug.Mc
open Go Go.Aug
open Nat renaming reduceLT -> zN0, reduceEqDiff -> zN1, reduceAdd -> zN2, reduceMul -> zN3, reduceLeDiff -> zN4
open Int renaming reduceEq -> zI0, reduceLT -> zI1, reduceLE -> zI2, reduceNeg -> zI3
set_option linter.unusedSimpArgs false
set_option linter.unusedVariables false
set_option maxHeartbeats 40000000
set_option maxRecDepth 200000
abbrev KZ (E:Env)(f:FuncId):Env:={ br:=E.br,th:=E.th,prim:=E.prim,back:=E.back,lives:=E.lives,live:=E.lives f,nb0:=1 }
theorem Zi1 (E:Env)(f:FuncId)(key:Nat)(l:List Nat)(hl:E.lives f key=some l)(ha:F2 0 l=true)(k:K)(d:AV)(N:Nat)(S:List (Nat×AV))(A:List Blk)(hN:∀ t ∈ l,t<N):
  BU (KZ E f) key k (mk d N S) A=
   k (mk .bot N (l.map fun t=>(t,Yw A 1 (Q8 A 1 100000 ((l.flatMap fun t=>YV 8 (ZE d S t))++(A.take 1).flatMap fun b=>C7 (some b)) []) 8 (ZE d S t)))) (Y9 A 1 (Q8 A 1 100000 ((l.flatMap fun t=>YV 8 (ZE d S t))++(A.take 1).flatMap fun b=>C7 (some b)) [])):=by
 unfold BU
 simp only[hl]
 unfold Uk RA
 have e:(l.flatMap fun t=>YV 8 (Y3 (mk d N S) t))=l.flatMap fun t=>YV 8 (ZE d S t):=by
  clear ha hl
  induction l with
  | nil=>rfl
  | cons t l ih=>
   rw[List.flatMap_cons,List.flatMap_cons,Uj _ _ _ _ (hN t (by simp)),ih (fun t ht=>hN t (by simp[ht]))]
 simp only[e]
 rw[Z4m _ _ _ _ _ ha]
def Z46 (k:K)(N:Nat)(l:List Nat)(d:AV)(S:List (Nat×AV))(A:List Blk)(ids:List Nat):DU:=
 k (mk .bot N (l.map fun t=>(t,Yw A 1 ids 8 (ZE d S t)))) (Y9 A 1 ids)
theorem RX (k:K)(N:Nat)(l:List Nat)(d:AV)(S:List (Nat×AV))(A:List Blk)(ids:List Nat):Z46 k N l d S A ids=k (mk .bot N (l.map fun t=>(t,Yw A 1 ids 8 (ZE d S t)))) (Y9 A 1 ids):=id rfl
theorem S3 {E:Env}{f:FuncId}{key:Nat}{l:List Nat}(hl:E.lives f key=some l)(ha:F2 0 l=true)(c:CT)(call:cT)(kx:Nat->K)(kr:K)(n:Nat)(d:AV)(N:Nat)(S:List (Nat×AV))(A:List Blk)(hN:(l.all fun t=>Nat.blt t N)=true):
  Z9 key c (KZ E f) call kx kr (n+1) (mk d N S) A=
   Z46 (c (KZ E f) call (Z9 key c (KZ E f) call kx kr n) kx kr) N l d S A (Q8 A 1 100000 ((l.flatMap fun t=>YV 8 (ZE d S t))++(A.take 1).flatMap fun b=>C7 (some b)) []):=by
 rw[Z8f]
 refine Zi1 E f key l hl ha _ d N S A fun t ht=> ?_
 have:=List.all_eq_true.1 hN t ht
 exact Nat.le_of_ble_eq_true this
def CQ (y:Dir):List Dir->List Dir
 | []=>[]
 | z::l=>if z=y then CQ z l else z::CQ z l
def Aj:List Dir->List Dir
 | []=>[]
 | y::l=>y::CQ y l
abbrev d0:Dir:=⟨0,0⟩
theorem Z0g (y:Dir):∀ l,(CQ y l).length<=l.length
 | []=>Nat.le_refl _
 | z::l=>by
  unfold CQ
  split
  ·exact Nat.le_succ_of_le (Z0g z l)
  ·exact Nat.succ_le_succ (Z0g z l)
theorem Zlo:∀ l,(Aj l).length<=l.length
 | []=>Nat.le_refl _
 | y::l=>Nat.succ_le_succ (Z0g y l)
theorem Rw {c:List Dir}{i:Nat}{e:Dir}(h:c[i]? =some e):((rC c).map AV.d).drop (i*2)=.d (vi e.kind):: .d (vi e.n)::((rC (c.drop (i+1))).map AV.d):=by
 obtain⟨hi,rfl⟩:=List.getElem?_eq_some_iff.1 h
 have e1:c=c.take i++c[i]::c.drop (i+1):=by
  rw[<-List.drop_eq_getElem_cons hi,List.take_append_drop]
 have e3:rC c=rC (c.take i)++(Cl.cells c[i]++rC (c.drop (i+1))):=by
  conv=>lhs;rw[e1]
  rw[EN];rfl
 have hl:((rC (c.take i)).map AV.d).length=i*2:=by
  rw[List.length_map,QS,List.length_take,Nat.min_eq_left (by omega)];rfl
 rw[e3,List.map_append,<-hl,List.drop_left]
 rfl
theorem HA {c:List Dir}{i:Nat}(h:i<c.length):i*2<=((rC c).map AV.d).length:=by
 rw[List.length_map,QS];show i*2<=c.length*2;omega
theorem Zdc {A:List Blk}{i v k:Nat}{l:List Dir}{e e':Dir}(h:l[k]? =some e):storeAt A i v (k*2) [.d (vi e'.kind),.d (vi e'.n)] 2 (some (.cells ((rC l).map .d) v false))=some (A.set i (.cells ((rC (l.set k e')).map .d) v false)):=
 MN (A:=A) (i:=i) (v:=v) (o:=0) (n:=2) (e':=e') [vi e'.kind,vi e'.n] h rfl rfl rfl rfl (Nat.le_refl 2) 2 rfl (k*2) rfl
theorem WB:∀ n,rep [aI 0,aI 0] n=(rC (List.replicate n d0)).map AV.d
 | 0=>rfl
 | n+1=>by
  rw[List.replicate_succ]
  show[aI 0,aI 0]++rep [aI 0,aI 0] n=_
  rw[WB n];rfl
theorem Zh6 (n:Nat):((rC (List.replicate n d0)).map AV.d).all AV.one=true:=by
 rw[<-WB]
 induction n with
 | zero=>rfl
 | succ n ih=>exact ih
theorem Zhj (z:List AV)(x:Opd)(E:Env)(call:cT)(tm:List AV)(A:List Blk)(nb:Nat):P6 z x E call tm A nb=DX (Sz A z (look tm x)):=id rfl
theorem Zck (A:List Blk):DX (some A)=some (.turned JH A):=id rfl
theorem Zlq {P Q:List Dir}{m:Nat}(hQ:Q≠[])(hm:m=Q.length):Sz [.cells ((rC (P++Q)).map .d) 0 false] [aI 0,aI 0] (.sref 0 0 (P.length*2) m 2 none)=some [.cells ((rC (P++List.replicate Q.length d0)).map .d) 0 false]:=by
 subst hm
 have hl:Q.length≠0:=fun h=>hQ (List.length_eq_zero_iff.1 h)
 have hP:((rC P).map AV.d).length=P.length*2:=by rw[List.length_map,QS];rfl
 have hq:((rC Q).map AV.d).length=Q.length*2:=by rw[List.length_map,QS];rfl
 have hr:((rC (List.replicate Q.length d0)).map AV.d).length=Q.length*2:=by rw[List.length_map,QS,List.length_replicate];rfl
 have hs:splice ((rC (P++Q)).map AV.d) (P.length*2) ((rC (List.replicate Q.length d0)).map AV.d)=(rC (P++List.replicate Q.length d0)).map AV.d:=by
  unfold splice
  rw[EN,EN,List.map_append,List.map_append,<-hP,List.take_left,hr,<-hq,List.drop_append,List.drop_of_length_le (by omega)]
  rw[hP]
  simp
 show(if 2=[aI 0,aI 0].length/\Q.length≠0 then FN [.cells ((rC (P++Q)).map .d) 0 false] (.ref 0 0 (P.length*2)) (.agg (rep [aI 0,aI 0] Q.length)) (Q.length*2) else none)=_
 rw[if_pos ⟨rfl,hl⟩,WB]
 unfold FN
 simp only[List.getElem?_cons_zero,AV.cells]
 rw[if_pos ⟨trivial,hr,by rw[EN,List.map_append,List.length_append,hP,hq];exact Nat.le_refl _,Zh6 Q.length⟩,hs]
 rfl
variable {E:Env} {fn:FuncId->Option (Env->cT->cT)}
section
variable (S:Sur E fn)
include S
theorem CZ:E.lives 34 1=none/\E.lives 34 7=none/\E.lives 34 17=none/\E.lives 34 27=none:=⟨off S 34 1 (by decide) rfl,off S 34 7 (by decide) rfl,off S 34 17 (by decide) rfl,off S 34 27 (by decide) rfl⟩
theorem Zlk (dp n k0:Nat)(hn:n<1073741824)(kx:Nat->K)(D:Option (AV×List Blk))(F:List Dir)
  (hx:∀ T (k:Nat) (Q P:List Dir),ZE .bot T 0=.sref 0 0 0 n 2 none->ZE .bot T 3=aI k->P.length=k->k+Q.length=n->P=F->Q≠[]->kx 2 (mk .bot 61 T) [.cells ((rC (P++Q)).map .d) 0 false]=D):
  ∀(R P J:List Dir) (y:Dir) (f:Nat),P.length+(J.length+1)+R.length=n->k0<P.length+(J.length+1)->R.length<=f->P++CQ y R=F->
  MG (KZ E 34) (Z5 E fn dp) (Z9 20 MG (KZ E 34) (Z5 E fn dp) kx (Y0 1 [.tmp 2]) f) kx (Y0 1 [.tmp 2]) (mk .bot 61 [(0,.sref 0 0 0 n 2 none),(3,aI P.length),(4,.sref 0 0 (k0*2) (n-k0) 2 none),(5,aI (P.length+(J.length+1)-k0:Nat))]) [.cells ((rC (P++(J++y::R))).map .d) 0 false]=D:=by
 intro R
 induction R with
 | nil=>
  intro P J y f h1 h2 hf hF
  generalize Z9 20 MG _ _ kx _ f=KK
  first | (conv=>lhs;rw[MG]) | rw[MG]
  simp only[List.length_nil,Nat.add_zero] at h1
  simp only[eG,go_sem,Z2 S,Z1 S,zN0,zN1,zN2,zN3,zN4,zI0,zI1,zI2,zI3,reduceCtorEq,CZ S,show ¬((P.length+(J.length+1)-k0:Nat):Int)<((n-k0:Nat):Int) by omega]
  exact hx _ P.length (J++[y]) P rfl rfl rfl (by simp;omega) (by rw[<-hF];simp[CQ]) (by simp)
 | cons z R ih=>
  intro P J y f h1 h2 hf hF
  obtain⟨f,rfl⟩:∃ g,f=g+1:=⟨f-1,by simp at hf;omega⟩
  simp only[List.length_cons] at h1 hf
  obtain⟨m,hm⟩:∃ m,m=P.length+(J.length+1)-k0:=⟨_,rfl⟩
  have g1:(P++(J++y::z::R))[P.length+(J.length+1)]? =some z:=by
   rw[List.getElem?_append_right (by omega),List.getElem?_append_right (by omega)]
   rw[show P.length+(J.length+1)-P.length-J.length=1 by omega];rfl
  have g2:(P++(J++y::z::R))[P.length+J.length]? =some y:=by
   rw[List.getElem?_append_right (by omega),List.getElem?_append_right (by omega)]
   rw[show P.length+J.length-P.length-J.length=0 by omega];rfl
  have a1:k0*2+m*2=(P.length+(J.length+1))*2:=by omega
  have a2:k0*2+(m-1)*2=(P.length+J.length)*2:=by omega
  have w1:IntKind.i64.wrap ((m:Int)-1)=(m:Int)-1:=YX (by omega) (by omega)
  have t1:((m:Int)-1).toNat=m-1:=by omega
  have n0:¬((m:Int)-1<0):=by omega
  have b0:(0:Int)<=(m:Int)-1:=by omega
  have b1:(m:Int)<((n-k0:Nat):Int):=by omega
  have b2:(m:Int)-1<((n-k0:Nat):Int):=by omega
  have bm:(0:Int)<=(m:Int):=by omega
  have d1:=Rw g1
  have d2:=Rw g2
  generalize hK:Z9 20 MG _ _ kx _ (f+1)=KK
  rw[MG,<-hm]
  by_cases h:z=y
  ·subst h
   have:=ih P (J++[z]) z f (by simp;omega) (by simp;omega) (by omega) (by rw[<-hF];simp[CQ])
   simp only[eG,go_sem,Z2 S,Z1 S,zN0,zN1,zN2,zN3,zN4,zI0,zI1,zI2,zI3,reduceCtorEq,CZ S,b1,b2,bm,b0,t1,w1,n0,a1,a2,d1,d2,HA (List.getElem?_eq_some_iff.1 g1).1,HA (List.getElem?_eq_some_iff.1 g2).1,wi m (by omega),PK,NX,Int.toNat_natCast]
   rw[<-hK,S3 (on S _ _ [0,3,4,5] (by decide) rfl) rfl _ _ _ _ _ _ _ _ _ rfl]
   simp only[go_sem,Z2 S,Z1 S,zN0,zN1,zN2,zN3,zN4,zI0,zI1,zI2,zI3,reduceCtorEq,CZ S,Q5,YY,YZ,Q1,Q2,List.take_succ_cons,List.take_zero,Z8,Option.map_some,RX]
   have e1:P.length+((J++[z]).length+1)-k0=m+1:=by rw[List.length_append,List.length_singleton];omega
   rw[e1,show J++[z]++z::R=J++z::z::R by rw[List.append_assoc];rfl] at this
   exact this
  ·have hset:(P++(J++y::z::R)).set P.length z=(P++[z])++((J++[y]).tail++z::R):=by
    rw[List.set_append_right _ _ (Nat.le_refl _),Nat.sub_self]
    cases J<;>simp
   obtain⟨q,hq⟩:=QB (show P.length<(P++(J++y::z::R)).length by simp;omega)
   have st:=fun(A:List Blk)=>Zdc (A:=A) (i:=0) (v:=0) (e':=z) hq
   rw[hset] at st
   simp only[eG,go_sem,Z2 S,Z1 S,zN0,zN1,zN2,zN3,zN4,zI0,zI1,zI2,zI3,reduceCtorEq,CZ S,b1,b2,bm,b0,t1,w1,n0,a1,a2,d1,d2,HA (List.getElem?_eq_some_iff.1 g1).1,HA (List.getElem?_eq_some_iff.1 g2).1,wi m (by omega),wi P.length (by omega),PK,NX,Int.toNat_natCast,eq_false h,st,show(0:Int)<=P.length by omega,show(P.length:Int)<n by omega,Nat.zero_add]
   rw[<-hK,S3 (on S _ _ [0,3,4,5] (by decide) rfl) rfl _ _ _ _ _ _ _ _ _ rfl]
   simp only[go_sem,Z2 S,Z1 S,zN0,zN1,zN2,zN3,zN4,zI0,zI1,zI2,zI3,reduceCtorEq,CZ S,Q5,YY,YZ,Q1,Q2,List.take_succ_cons,List.take_zero,Z8,Option.map_some,RX]
   have tl:((J++[y]).tail).length=J.length:=by simp
   have:=ih (P++[z]) ((J++[y]).tail) z f (by rw[tl,List.length_append,List.length_singleton];omega) (by rw[tl,List.length_append,List.length_singleton];omega) (by omega) (by rw[<-hF];simp[CQ,h])
   have e1:(P++[z]).length+((J++[y]).tail.length+1)-k0=m+1:=by rw[tl,List.length_append,List.length_singleton];omega
   rw[e1,List.length_append,List.length_singleton] at this
   exact this
def PN (F:List Dir)(n:Nat):AV×List Blk:=(.sref 0 0 0 F.length 2 none,[.cells ((rC (F++List.replicate (n-F.length) d0)).map .d) 0 false])
theorem Zlj (dp n:Nat)(hn:n<1073741824)(kx:Nat->K)(F:List Dir)(hx:∀ T,ZE .bot T 0=.sref 0 0 0 n 2 none->F.length=n->kx 0 (mk .bot 61 T) [.cells ((rC F).map .d) 0 false]=some (PN F n)):
  ∀(R P:List Dir) (y:Dir) (f:Nat),P.length+1+R.length=n->R.length<=f->P++y::CQ y R=F->
  Kx (KZ E 34) (Z5 E fn dp) (Z9 10 Kx (KZ E 34) (Z5 E fn dp) kx (Y0 1 [.tmp 2]) f) kx (Y0 1 [.tmp 2]) (mk .bot 61 [(0,.sref 0 0 0 n 2 none),(3,aI (P.length+1:Nat))]) [.cells ((rC (P++y::R)).map .d) 0 false]=some (PN F n):=by
 intro R
 induction R with
 | nil=>
  intro P y f h1 hf hF
  simp only[List.length_nil,Nat.add_zero] at h1
  generalize Z9 10 Kx _ _ kx _ f=KK
  first | (conv=>lhs;rw[Kx]) | rw[Kx]
  simp only[eG,go_sem,Z2 S,Z1 S,zN0,zN1,zN2,zN3,zN4,zI0,zI1,zI2,zI3,reduceCtorEq,CZ S,show ¬((P.length+1:Nat):Int)<n by omega]
  have hF':P++[y]=F:=hF
  rw[hF']
  exact hx _ rfl (by rw[<-hF',List.length_append];exact h1)
 | cons z R ih=>
  intro P y f h1 hf hF
  obtain⟨f,rfl⟩:∃ g,f=g+1:=⟨f-1,by simp at hf;omega⟩
  simp only[List.length_cons] at h1 hf
  have g1:(P++y::z::R)[P.length+1]? =some z:=by
   rw[List.getElem?_append_right (by omega),show P.length+1-P.length=1 by omega];rfl
  have g2:(P++y::z::R)[P.length]? =some y:=by
   rw[List.getElem?_append_right (by omega),Nat.sub_self];rfl
  have w1:IntKind.i64.wrap (((P.length+1:Nat):Int)-1)=(P.length:Int):=by rw[YX (by omega) (by omega)];omega
  have d1:=Rw g1
  have d2:=Rw g2
  generalize hK:Z9 10 Kx _ _ kx _ (f+1)=KK
  first | (conv=>lhs;rw[Kx]) | rw[Kx]
  have b1:((P.length+1:Nat):Int)<n:=by omega
  have b2:(0:Int)<=((P.length+1:Nat):Int):=by omega
  have b3:(P.length:Int)<n:=by omega
  have b4:(0:Int)<=(P.length:Int):=by omega
  by_cases h:z=y
  ·subst h
   have bl:=Vx n .i64 ((P.length+1:Nat):Int) b2 (by omega)
   simp only[eG,go_sem,Z2 S,Z1 S,zN0,zN1,zN2,zN3,zN4,zI0,zI1,zI2,zI3,reduceCtorEq,CZ S,b1,b2,b3,b4,w1,d1,d2,HA (List.getElem?_eq_some_iff.1 g1).1,HA (List.getElem?_eq_some_iff.1 g2).1,PK,NX,Int.toNat_natCast,Nat.zero_add,bl,eq_false (show ¬P.length+1=n by omega),false_and,if_false]
   rw[Y2,S3 (on S _ _ [0,3,4,5] (by decide) rfl) rfl _ _ _ _ _ _ _ _ _ rfl]
   simp only[go_sem,Z2 S,Z1 S,zN0,zN1,zN2,zN3,zN4,zI0,zI1,zI2,zI3,reduceCtorEq,CZ S,Q5,YY,YZ,Q1,Q2,List.take_succ_cons,List.take_zero,Z8,Option.map_some,RX]
   have go:=fun(kx':Nat->K) hx'=>Zlk S dp n (P.length+1) hn kx' (some (PN F n)) F hx' R (P++[z]) [] z 999999999999999999999999999999 (by simp;omega) (by simp) (by omega) (by rw[<-hF];simp[CQ])
   simp only[List.length_append,List.length_singleton,List.length_nil,List.nil_append,List.append_assoc,List.singleton_append,Nat.zero_add,Nat.add_sub_cancel_left] at go
   refine go _ ?_
   intro T k Q P' t0 t3 hk hkQ hF' hQ
   subst hk hF'
   clear go
   have b5:(P'.length:Int)<=n:=by omega
   have b6:(0:Int)<=(P'.length:Int):=by omega
   have bl2:=Vx n .i64 (P'.length:Int) b6 b5
   have bh2:=HZ n .i64 (P'.length:Int) b6 b5
   have hQl:Q.length≠0:=fun h=>hQ (List.length_eq_zero_iff.1 h)
   have cl:=Zlq (P:=P') (m:=n-P'.length) hQ (by omega)
   simp only[go_sem,Z2 S,Z1 S,zN0,zN1,zN2,zN3,zN4,zI0,zI1,zI2,zI3,reduceCtorEq,CZ S,Q5,YY,YZ,Q1,Q2,List.take_succ_cons,List.take_zero,Z8,Option.map_some,t0,t3,bl2,bh2,eq_false (show ¬P'.length=n by omega),false_and,if_false,Zhj,cl,Zck,Int.toNat_natCast,Nat.zero_add,Nat.zero_mul,Nat.sub_zero,ne_eq,not_true_eq_false,and_false]
   unfold PN
   rw[show n-P'.length=Q.length by omega]
  ·simp only [eG, go_sem, Z2 S, Z1 S, zN0, zN1, zN2, zN3, zN4, zI0, zI1, zI2, zI3, reduceCtorEq, CZ S, b1, b2, b3, b4, w1, d1, d2, HA (List.getElem?_eq_some_iff.1 g1).1, HA (List.getElem?_eq_some_iff.1 g2).1, PK, NX, Int.toNat_natCast, Nat.zero_add, eq_false h, wi (P.length + 1) (by omega)]
   rw[<-hK,S3 (on S _ _ [0,3] (by decide) rfl) rfl _ _ _ _ _ _ _ _ _ rfl]
   simp only[go_sem,Z2 S,Z1 S,zN0,zN1,zN2,zN3,zN4,zI0,zI1,zI2,zI3,reduceCtorEq,CZ S,Q5,YY,YZ,Q1,Q2,List.take_succ_cons,List.take_zero,Z8,Option.map_some,RX]
   have:=ih (P++[y]) z f (by simp;omega) (by omega) (by rw[<-hF];simp[CQ,h])
   rw[List.length_append,List.length_singleton,List.append_assoc] at this
   exact this
theorem Zli (dp:Nat)(l:List Dir)(hl:l.length<1073741824)(h0:l≠[]):Z5 E fn (dp+1) 34 [.sref 0 0 0 l.length 2 none] [.cells ((rC l).map .d) 0 false]=some (PN (Aj l) l.length):=by
 rw[ZU,S.XT,ZW,Z1c,ZY _ _ _ _ _ _ _ _ rfl]
 match l,h0 with
 | [x],_=>
  simp only[go_sem,Z2 S,Z1 S,zN0,zN1,zN2,zN3,zN4,zI0,zI1,zI2,zI3,reduceCtorEq,CZ S,Q5,YY,YZ,Q1,Q2,List.take_succ_cons,List.take_zero,Z8,Option.map_some,List.length_singleton,show((1:Nat):Int)<2 by decide]
  rfl
 | x::y::R,_=>
  have hb:¬((R.length+1+1:Nat):Int)<2:=by omega
  simp only[go_sem,Z2 S,Z1 S,zN0,zN1,zN2,zN3,zN4,zI0,zI1,zI2,zI3,reduceCtorEq,CZ S,Q5,YY,YZ,Q1,Q2,List.take_succ_cons,List.take_zero,Z8,Option.map_some,hb]
  rw[Y2,S3 (on S _ _ [0,3] (by decide) rfl) rfl _ _ _ _ _ _ _ _ _ rfl]
  simp only[go_sem,Z2 S,Z1 S,zN0,zN1,zN2,zN3,zN4,zI0,zI1,zI2,zI3,reduceCtorEq,CZ S,Q5,YY,YZ,Q1,Q2,List.take_succ_cons,List.take_zero,Z8,Option.map_some,RX]
  have go:=fun(kx:Nat->K) hx=>Zlj S dp (x::y::R).length hl kx (Aj (x::y::R)) hx (y::R) [] x 999999999999999999999999999999 (by simp;omega) (by simp at hl ⊢;omega) rfl
  refine go _ ?_
  intro T t0 hF
  simp only[go_sem,Z2 S,Z1 S,zN0,zN1,zN2,zN3,zN4,zI0,zI1,zI2,zI3,reduceCtorEq,CZ S,Q5,YY,YZ,Q1,Q2,List.take_succ_cons,List.take_zero,Z8,Option.map_some,t0]
  have hF':(Aj (x::y::R)).length=R.length+1+1:=hF
  unfold PN
  rw[hF',Nat.sub_self,List.replicate_zero,List.append_nil]
end
end Go.Aug.Mc
