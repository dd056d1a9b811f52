import Derived.Test.YtmfdoekbjkgckaaGreatMl6
import Derived.Test.YtmfdoekbjkgckaaGreatPb
import Derived.Test.YtmfdoekbjkgckaaGreatMc49
import Derived.Test.YtmfdoekbjkgckaaGreatPa
namespace Go.Aug.Md
open Go Go.Aug
set_option linter.unusedSimpArgs false
set_option linter.unusedVariables false
def Q7 (a b:Dir):Prop:=a.kind<b.kind∨a.kind=b.kind/\a.n<b.n
theorem Z3x (k:Int)(f:Nat->Bool)(m:Nat):(((List.range m).filter f).map fun n:Nat=>(⟨k,(n:Int)⟩:Dir)).Pairwise Q7:=by
 rw[List.pairwise_map]
 refine(List.pairwise_lt_range.filter _).imp ?_
 intro a b h
 exact .inr ⟨rfl,by show(a:Int)<b;omega⟩
theorem Zgs (k:Int)(m:Nat):((List.range m).map fun n:Nat=>(⟨k,(n:Int)⟩:Dir)).Pairwise Q7:=by
 rw[List.pairwise_map]
 refine List.pairwise_lt_range.imp ?_
 intro a b h
 exact .inr ⟨rfl,by show(a:Int)<b;omega⟩
section
variable {N:Int} {p:Prog} {c:Conf}
theorem Zs8 (N:Int)(p:Prog)(c:Conf):(all N p c).Pairwise Q7:=by
 have k1:∀(k:Int) (l:List Nat) (d:Dir),d ∈ (l.map fun n:Nat=>(⟨k,(n:Int)⟩:Dir))->d.kind=k:=by
  intro k l d h
  obtain⟨n,_,rfl⟩:=List.mem_map.1 h;rfl
 unfold all
 rw[List.pairwise_append,List.pairwise_append,List.pairwise_append]
 refine⟨⟨⟨Zgs _ _,Z3x _ _ _,?_⟩,Z3x _ _ _,?_⟩,?_,?_⟩
 ·intro a ha b hb
  have:=k1 _ _ _ ha;have:=k1 _ _ _ hb
  exact .inl (by omega)
 ·intro a ha b hb
  have hb:=k1 _ _ _ hb
  rcases List.mem_append.1 ha with ha | ha
  ·have:=k1 _ _ _ ha;exact .inl (by omega)
  ·have:=k1 _ _ _ ha;exact .inl (by omega)
 ·cases Q2 p c with
  | false=>exact List.Pairwise.nil
  | true=>exact List.pairwise_singleton _ _
 ·intro a ha b hb
  have hb:b.kind=4:=by
   cases hr:Q2 p c with
   | false=>rw[hr] at hb;cases hb
   | true=>
    rw[hr] at hb
    have:b=⟨4,0⟩:=by simpa using hb
    rw[this]
  rcases List.mem_append.1 ha with ha | ha
  ·rcases List.mem_append.1 ha with ha | ha
   ·have:=k1 _ _ _ ha;exact .inl (by omega)
   ·have:=k1 _ _ _ ha;exact .inl (by omega)
  ·have:=k1 _ _ _ ha;exact .inl (by omega)
theorem Zog (p:Prog)(c:Conf):Q1 p c<=max 2 (p.ins.length+1):=by
 unfold Q1
 split
 ·omega
 split
 ·omega
 split
 ·omega
 ·omega
structure Cnt (l:List Dir) (k:Nat) (d:Dir):Prop where
 le:k<=l.length
 lo:∀ e ∈ l.take k,Q7 e d
 hi:∀ e ∈ l.drop k,¬Q7 e d
theorem Cnt.begin (l:List Dir)(d:Dir)(h:∀ e ∈ l,¬Q7 e d):Cnt l 0 d:=⟨Nat.zero_le _,fun e h=>by simp at h,fun e he=>h e (by simpa using he)⟩
theorem Cnt.row {l:List Dir}{k:Nat}{kd m:Int}(h:Cnt l k ⟨kd,m⟩)(hm:∀ e ∈ l,0<=e.n/\e.n<m):Cnt l k ⟨kd+1,-1⟩:=by
 refine⟨h.le,fun e he=> ?_,fun e he=> ?_⟩
 ·have := h.lo e he
  unfold Q7 at this ⊢
  show _<kd+1∨_=kd+1/\_< -1
  have:e.kind<kd∨e.kind=kd/\e.n<m:=this
  omega
 ·have h1 : ¬ (e.kind < kd ∨ e.kind = kd /\ e.n < m) := h.hi e he
  have:=hm e (List.mem_of_mem_drop he)
  show ¬(_<kd+1∨_=kd+1/\_< -1)
  omega
theorem Cnt.end_ {l:List Dir}{k:Nat}{kd m:Int}(h:Cnt l k ⟨kd,m⟩)(hm:∀ e ∈ l,e.kind<kd):k=l.length:=by
 have h0:l.drop k=[]:=by
  cases hq:l.drop k with
  | nil=>rfl
  | cons e t=>
   have he:e ∈ l.drop k:=by rw[hq];exact List.mem_cons_self
   exact absurd (.inl (hm e (List.mem_of_mem_drop he))) (h.hi e he)
 have:=congrArg List.length h0
 rw[List.length_drop,List.length_nil] at this
 have:=h.le
 omega
end
end Go.Aug.Md
namespace Go.Aug.Mc
open Go Go.Aug
set_option linter.unusedSimpArgs false
set_option linter.unusedVariables false
theorem Z6d (d:Dir):¬Md.Q7 d d:=by unfold Md.Q7;omega
theorem Zn0 {a b:Dir}(h:Md.Q7 a b):¬Md.Q7 b a:=by unfold Md.Q7 at *;omega
theorem Zmy {a b c:Dir}(h:Md.Q7 a b)(h':Md.Q7 b c):Md.Q7 a c:=by unfold Md.Q7 at *;omega
theorem Zmz {a b:Dir}(h:¬Md.Q7 b a)(hn:b≠a):Md.Q7 a b:=by
 obtain⟨k,n⟩:=a
 obtain⟨k',n'⟩:=b
 unfold Md.Q7 at *
 simp only[ne_eq,Dir.mk.injEq,not_and] at *
 omega
theorem Zb2:∀(A B:List Dir),A.Pairwise Md.Q7->B.Pairwise Md.Q7->(∀ d,d ∈ A↔d ∈ B)->A=B
 | [],[],_,_,_=>rfl
 | [],b::B,_,_,h=>absurd ((h b).2 List.mem_cons_self) List.not_mem_nil
 | a::A,[],_,_,h=>absurd ((h a).1 List.mem_cons_self) List.not_mem_nil
 | a::A,b::B,hA,hB,h=>by
  obtain⟨a1,a2⟩:=List.pairwise_cons.1 hA
  obtain⟨b1,b2⟩:=List.pairwise_cons.1 hB
  have hab:a=b:=by
   rcases List.mem_cons.1 ((h a).1 List.mem_cons_self) with e | e
   ·exact e
   ·rcases List.mem_cons.1 ((h b).2 List.mem_cons_self) with e' | e'
    ·exact e'.symm
    ·exact absurd (b1 a e) (Zn0 (a1 b e'))
  subst hab
  have:A=B:=Zb2 A B a2 b2 fun d=>by
   constructor
   ·intro hd
    rcases List.mem_cons.1 ((h d).1 (List.mem_cons_of_mem _ hd)) with e | e
    ·exact absurd (a1 d hd) (by rw[e];exact Z6d _)
    ·exact e
   ·intro hd
    rcases List.mem_cons.1 ((h d).2 (List.mem_cons_of_mem _ hd)) with e | e
    ·exact absurd (b1 d hd) (by rw[e];exact Z6d _)
    ·exact e
  rw[this]
theorem Z0h:∀(l:List Dir) (y d:Dir),d ∈ y::EV y l↔d ∈ y::l
 | [],y,d=>Iff.rfl
 | z::l,y,d=>by
  unfold EV
  split
  ·rename_i h
   subst h
   rw[Z0h l z d]
   simp
  ·rw [List.mem_cons, Z0h l z d]
   simp
theorem Zms (l:List Dir)(d:Dir):d ∈ BA l↔d ∈ l:=by
 cases l with
 | nil=>exact Iff.rfl
 | cons y l=>exact Z0h l y d
def VN (a b:Dir):Prop:=¬Md.Q7 b a
theorem Z3m:∀(l:List Dir) (y:Dir),(y::l).Pairwise VN->(y::EV y l).Pairwise Md.Q7
 | [],y,_=>List.pairwise_singleton _ _
 | z::l,y,h=>by
  obtain⟨h1,h2⟩:=List.pairwise_cons.1 h
  have ih:=Z3m l z h2
  unfold EV
  split
  ·rename_i e
   subst e
   exact ih
  ·rename_i e
   have hyz:Md.Q7 y z:=Zmz (h1 z List.mem_cons_self) e
   refine List.pairwise_cons.2 ⟨fun d hd=> ?_,ih⟩
   rcases List.mem_cons.1 hd with rfl | hd
   ·exact hyz
   ·exact Zmy hyz ((List.pairwise_cons.1 ih).1 d hd)
theorem Zg8 {l:List Dir}(h:l.Pairwise VN):(BA l).Pairwise Md.Q7:=by
 cases l with
 | nil=>exact .nil
 | cons y l=>exact Z3m l y h
theorem Zgf (l:List Dir):(JC l).Pairwise VN:=by
 unfold JC
 rw[List.pairwise_map]
 refine(Xx (l.map GB)).imp ?_
 intro a b h
 unfold Dw Q7 at h
 unfold VN Md.Q7 PV
 simp at h ⊢
 omega
def TV (N:Int)(p:Prog)(a b:Conf):List Dir:=BA (JC (Md.all N p a++Md.all N p b))
theorem Zrm (N:Int)(p:Prog)(a b:Conf):(TV N p a b).Pairwise Md.Q7:=Zg8 (Zgf _)
theorem Zmt (N:Int)(p:Prog)(a b:Conf)(d:Dir):d ∈ TV N p a b↔d ∈ Md.all N p a∨d ∈ Md.all N p b:=by
 unfold TV
 rw[Zms,(Z3q _).mem_iff,List.mem_append]
theorem Zrn (N:Int)(p:Prog)(a:Conf):TV N p a a=Md.all N p a:=
 Zb2 _ _ (Zrm _ _ _ _) (Md.Zs8 N p a) fun d=>by rw[Zmt,or_self]
open Nat renaming reduceLT -> zN0, reduceEqDiff -> zN1, reduceAdd -> zN2, reduceMul -> zN3, reduceLeDiff -> zN4
open Int renaming reduceEq -> zI0, reduceLT -> zI1, reduceLE -> zI2, reduceNeg -> zI3
set_option maxHeartbeats 40000000
set_option maxRecDepth 200000
theorem Zmx (l:List Int):(Md.make l).ins.length<=5:=by
 show((List.range (Md.nM l)).map _).length<=5
 obtain⟨r,h1,h2⟩:=Md.MR (Md.ZZ (Md.kM l 0) 12)
 rw[List.length_map,List.length_range]
 unfold Md.nM
 rw[h2,Int.toNat_natCast];omega
theorem Z2o {p:Prog}(hp:Md.Fine p)(hil:p.ins.length<=5){N:Int}{c:Conf}(hI:Md.Inv N p c):(Md.all N p c).length<1000:=by
 have h1:=List.length_filter_le (fun n:Nat=>Md.can N p c (n:Int)) (List.range c.buf.length)
 have h2:=List.length_filter_le (fun n:Nat=>Md.Q6 p c (n:Int)) (List.range c.buf.length)
 have h3:=Md.Zog p c
 have h4:(bif Md.Q2 p c then[(⟨4,0⟩:Dir)] else[]).length<=1:=by cases Md.Q2 p c<;>simp
 have hb:=hI.buf
 have hw:=hp.win
 unfold Md.all
 simp only[List.length_append,List.length_map,List.length_range] at h1 h2 ⊢
 omega
variable {E:Env} {fn:FuncId->Option (Env->cT->cT)}
section
variable (S:Sur E fn)
include S
theorem R9:E.lives 7 1=none/\E.lives 7 21=none:=⟨off S 7 1 (by decide) rfl,off S 7 21 (by decide) rfl⟩
theorem Zgt (hS:fn 31=some fun _ _ _ xs A=>Gw 32 xs A)(dp:Nat){p:Prog}(hp:Md.Fine p)(hil:p.ins.length<=5)(hml:p.mems.length<1000)(hN:Zk p.mems<=1000){a b:Conf}(hIa:Md.Inv (Zk p.mems) p a)(hIb:Md.Inv (Zk p.mems) p b)(A:List Blk)(nb:Nat):
  ZC false E (Z4 E fn (dp+11)) 11 A nb (some ([Zz p,ZP a,ZP b],[]))=some (.made (.d (rD (TV (Zk p.mems) p a b))) []):=by
 obtain⟨a1,a2,_⟩:=P5 hp hIa hN ⟨0,0⟩
 obtain⟨b1,b2,_⟩:=P5 hp hIb hN ⟨0,0⟩
 have la:=Z2o hp hil hIa
 have lb:=Z2o hp hil hIb
 exact Z6.deep (Zjb S dp p a b hS (by omega) (by omega) (by omega) (by omega) (by omega) (by omega)) (np S 11 (by decide)) A nb
theorem Zl1 (dp:Nat)(p:Prog)(hp:Md.Fine p)(hml:p.mems.length<1000)(hN:Zk p.mems<=1000)(c:Conf)(hI:Md.Inv (Zk p.mems) p c)(L:List Dir)(hLl:L.length<1000000)(hL:∀ d ∈ L,Md.QB (Zk p.mems) p c d=true)(kx:Nat->K)(D:Option (AV×List Blk))
  (hx:∀ T,ZS .bot T 7=.ref 0 0 0->ZS .bot T 10=.ref 1 0 0->kx 0 (mk .bot 76 T) [.cells ((Y1 p).map .d) 0 false,.cells ((J4 c).map .d) 0 false]=D):
  ∀(m k f:Nat),k+m=L.length->m<=f->
  KU (Zx E 7) (Z4 E fn (dp+12)) (Z9 12 KU (Zx E 7) (Z4 E fn (dp+12)) kx (ZY 0 [.tmp 6]) f) kx (ZY 0 [.tmp 6]) (mk .bot 76 [(7,.ref 0 0 0),(10,.ref 1 0 0),(36,.d (rD L)),(37,aI L.length),(38,aI k)]) [.cells ((Y1 p).map .d) 0 false,.cells ((J4 c).map .d) 0 false]=D:=by
 intro m
 induction m with
 | zero=>
  intro k f hk _
  obtain rfl:k=L.length:=by omega
  generalize Z9 12 KU _ _ kx _ f=KK
  first | (conv=>lhs;rw[KU]) | rw[KU]
  simp only[eG,go_sem,Z3 S,Z2 S,zN0,zN1,zN2,zN3,zN4,zI0,zI1,zI2,zI3,reduceCtorEq,R9 S,Int.lt_irrefl]
  exact hx _ rfl rfl
 | succ m ih=>
  intro k f hk hf
  obtain⟨f,rfl⟩:∃ g,f=g+1:=⟨f-1,by omega⟩
  obtain⟨d,hd⟩:=Q4 (show k<L.length by omega)
  have hkl:(k:Int)<L.length:=by omega
  have hc:=hL d (List.mem_of_getElem? hd)
  have hs:M7 (Zk p.mems) p c c d=true:=by
   unfold M7
   rw[beq_self_eq_true,decide_eq_true rfl];rfl
  have hok:R8 (Zk p.mems) p c c d=true:=by unfold R8;rw[hs,hc];rfl
  have hS:=fun(A:List Blk) (nb:Nat)=>Z6.deep (Zja S dp p c c d hp hml hN hI hI) (np S 13 (by decide)) A nb
  obtain⟨x1,x2,x3,x4,_⟩:=XB hp hN hI d
  rw[hs,hok,cond_true] at hS
  generalize (J9 (Zk p.mems) p c d).1=X at *
  have h9:(K9 X).length<1073741824:=by have:=Zo9 X;omega
  have cE:=fun(A:List Blk) (nb:Nat)=>Z6.flat (Zii S (dp+9) X X (by omega) (by omega) (by omega) (by omega) (by omega) (by omega) (by omega) (by omega) h9) (np S 14 (by decide)) rfl A nb
  simp only[Zz,Y1,ZP,J4,Zbj] at hS cE
  have next:=ih (k+1) f (by omega) (by omega)
  generalize hK:Z9 12 KU _ _ kx _ (f+1)=KK
  first | (conv=>lhs;rw[KU]) | rw[KU]
  simp only[eG,go_sem,Z3 S,Z2 S,zN0,zN1,zN2,zN3,zN4,zI0,zI1,zI2,zI3,reduceCtorEq,R9 S,hkl,Zv hd,hS,cE,Bool.not_false,Bool.not_true,wi k (by omega)]
  rw[<-hK,Z8 (on S _ _ [7,10,36,37,38] (by decide) rfl) rfl _ _ _ _ _ _ _ _ _ rfl]
  simp only[eG,go_sem,Z3 S,Z2 S,zN0,zN1,zN2,zN3,zN4,zI0,zI1,zI2,zI3,reduceCtorEq,R9 S]
  exact next
theorem Zje (ha:E.prim 15=some ND)(hS:fn 31=some fun _ _ _ xs A=>Gw 32 xs A)(dp:Nat)(m l w:List Int):Z4 E fn (dp+13) 7 [.d (rD m),.d (rD l),.d (rD w)] []=some (YA true,[]):=by
 have hp:=Zmp m
 have hN:=Zmq m
 have hml:=Zmn m
 have hil:=Zmx m
 obtain⟨s,s',hSt,o1,o2⟩:=Zgx S (dp+7) (Md.make m) (Zmm m) hml l
 obtain⟨c,o,hW,hI⟩:=Zgv S (dp+4) (Md.make m) hp _ hN s (o1.inv hp) w
 have cS:=fun(A:List Blk) (nb:Nat)=>Z6.deep hSt (np S 9 (by decide)) A nb
 have cW:=fun(A:List Blk) (nb:Nat)=>Z6.deep hW (np S 18 (by decide)) A nb
 have cB:=fun(A:List Blk) (nb:Nat)=>Zgt S hS (dp+1) hp hil hml hN hI hI A nb
 obtain⟨q1,q2,q3,q4,q5,_⟩:=P5 hp hI hN ⟨0,0⟩
 have hLl:=Z2o hp hil hI
 rw[Zrn] at cB
 have cR:=fun(A:List Blk) (nb:Nat)=>Z6.deep (Z4l S (dp+6) (Md.make m) c (by omega) (by omega)) (np S 17 (by decide)) A nb
 have hL:∀ d ∈ Md.all (Zk (Md.make m).mems) (Md.make m) c,Md.QB (Zk (Md.make m).mems) (Md.make m) c d=true:=fun d hd=>(Md.Z0i d).1 hd
 have hm:(c.state.mem.length:Int)=Zk (Md.make m).mems:=hI.mem
 rw[hm] at cR
 simp only[Zz,Y1,AS,H2,ZP,J4] at cS cW cB cR
 generalize hLL:Md.all (Zk (Md.make m).mems) (Md.make m) c=L at *
 have cD:=fun(A:List Blk) (nb:Nat)=>Z6.flat (Zih S (dp+11) L L (by omega)) (np S 12 (by decide)) rfl A nb
 have go:=fun(kx:Nat->K) (D:Option (AV×List Blk)) hx=>Zl1 S dp (Md.make m) hp hml hN c hI L (by omega) hL kx D hx L.length 0 999999999999999999999999999999 (by omega) (by omega)
 simp only[Int.cast_ofNat_Int] at go
 show Z4 E fn (dp+12+1) 7 [.d (rD m),.d (rD l),.d (rD w)] []=_
 rw[ZK,S.Z7v,ZM,Zd2,ZN _ _ _ _ _ _ _ _ rfl]
 simp only[eG,go_sem,Z3 S,Z2 S,zN0,zN1,zN2,zN3,zN4,zI0,zI1,zI2,zI3,reduceCtorEq,R9 S,Zqm S,cS,cW,cB]
 rw[Y9,Z8 (on S _ _ [7,10,36,37,38] (by decide) rfl) rfl _ _ _ _ _ _ _ _ _ rfl]
 simp only[eG,go_sem,Z3 S,Z2 S,zN0,zN1,zN2,zN3,zN4,zI0,zI1,zI2,zI3,reduceCtorEq,R9 S]
 refine go _ _ ?_
 intro T t7 t10
 simp only[eG,go_sem,Z3 S,Z2 S,zN0,zN1,zN2,zN3,zN4,zI0,zI1,zI2,zI3,reduceCtorEq,R9 S,t7,t10,cB,cR,cD,Zqn ha,GR]
end
end Go.Aug.Mc
