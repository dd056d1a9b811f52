import Derived.Test.YtmfdoekbjkgckaaGreatMc60
import Derived.Test.YtmfdoekbjkgckaaGreatPb
import Derived.Test.YtmfdoekbjkgckaaGreatMc53
import Derived.Test.YtmfdoekbjkgckaaGreatPa
import Derived.Test.YtmfdoekbjkgckaaGreatMl
namespace Go.Aug.Md
open Go Go.Aug
set_option linter.unusedSimpArgs false
set_option linter.unusedVariables false
def Q3 (a b:Dir):Prop:=a.kind<b.kind∨a.kind=b.kind/\a.n<b.n
theorem Z4g (k:Int)(f:Nat->Bool)(m:Nat):(((List.range m).filter f).map fun n:Nat=>(⟨k,(n:Int)⟩:Dir)).Pairwise Q3:=by
 rw[List.pairwise_map]
 refine(List.pairwise_lt_range.filter _).imp ?_
 intro a b h
 exact .inr ⟨rfl,by show(a:Int)<b;omega⟩
theorem Zhm (k:Int)(m:Nat):((List.range m).map fun n:Nat=>(⟨k,(n:Int)⟩:Dir)).Pairwise Q3:=by
 rw[List.pairwise_map]
 refine List.pairwise_lt_range.imp ?_
 intro a b h
 exact .inr ⟨rfl,by show(a:Int)<b;omega⟩
section
variable {N:Int} {p:Prog} {c:Conf}
theorem Zdb (N:Int)(p:Prog)(c:Conf):(all N p c).Pairwise Q3:=by
 have k1:∀(k:Int) (l:List Nat) (d:Dir),d ∈ (l.map fun n:Nat=>(⟨k,(n:Int)⟩:Dir))->d.kind=k:=by
  intro k l d h
  obtain⟨n,_,rfl⟩:=List.mem_map.1 h;rfl
 unfold all
 rw[List.pairwise_append,List.pairwise_append,List.pairwise_append]
 refine⟨⟨⟨Zhm _ _,Z4g _ _ _,?_⟩,Z4g _ _ _,?_⟩,?_,?_⟩
 ·intro a ha b hb
  have:=k1 _ _ _ ha;have:=k1 _ _ _ hb
  exact .inl (by omega)
 ·intro a ha b hb
  have hb:=k1 _ _ _ hb
  rcases List.mem_append.1 ha with ha | ha
  ·have:=k1 _ _ _ ha;exact .inl (by omega)
  ·have:=k1 _ _ _ ha;exact .inl (by omega)
 ·cases Qv p c with
  | false=>exact List.Pairwise.nil
  | true=>exact List.pairwise_singleton _ _
 ·intro a ha b hb
  have hb:b.kind=4:=by
   cases hr:Qv p c with
   | false=>rw[hr] at hb;cases hb
   | true=>
    rw[hr] at hb
    have:b=⟨4,0⟩:=by simpa using hb
    rw[this]
  rcases List.mem_append.1 ha with ha | ha
  ·rcases List.mem_append.1 ha with ha | ha
   ·have:=k1 _ _ _ ha;exact .inl (by omega)
   ·have:=k1 _ _ _ ha;exact .inl (by omega)
  ·have:=k1 _ _ _ ha;exact .inl (by omega)
theorem Zpd (p:Prog)(c:Conf):Q8 p c<=max 2 (p.ins.length+1):=by
 unfold Q8
 split
 ·omega
 split
 ·omega
 split
 ·omega
 ·omega
structure Cnt (l:List Dir) (k:Nat) (d:Dir):Prop where
 le:k<=l.length
 lo:∀ e ∈ l.take k,Q3 e d
 hi:∀ e ∈ l.drop k,¬Q3 e d
theorem Cnt.begin (l:List Dir)(d:Dir)(h:∀ e ∈ l,¬Q3 e d):Cnt l 0 d:=⟨Nat.zero_le _,fun e h=>by simp at h,fun e he=>h e (by simpa using he)⟩
theorem Cnt.row {l:List Dir}{k:Nat}{kd m:Int}(h:Cnt l k ⟨kd,m⟩)(hm:∀ e ∈ l,0<=e.n/\e.n<m):Cnt l k ⟨kd+1,-1⟩:=by
 refine⟨h.le,fun e he=> ?_,fun e he=> ?_⟩
 ·have := h.lo e he
  unfold Q3 at this ⊢
  show _<kd+1∨_=kd+1/\_< -1
  have:e.kind<kd∨e.kind=kd/\e.n<m:=this
  omega
 ·have h1 : ¬ (e.kind < kd ∨ e.kind = kd /\ e.n < m) := h.hi e he
  have:=hm e (List.mem_of_mem_drop he)
  show ¬(_<kd+1∨_=kd+1/\_< -1)
  omega
theorem Cnt.end_ {l:List Dir}{k:Nat}{kd m:Int}(h:Cnt l k ⟨kd,m⟩)(hm:∀ e ∈ l,e.kind<kd):k=l.length:=by
 have h0:l.drop k=[]:=by
  cases hq:l.drop k with
  | nil=>rfl
  | cons e t=>
   have he:e ∈ l.drop k:=by rw[hq];exact List.mem_cons_self
   exact absurd (.inl (hm e (List.mem_of_mem_drop he))) (h.hi e he)
 have:=congrArg List.length h0
 rw[List.length_drop,List.length_nil] at this
 have:=h.le
 omega
end
end Go.Aug.Md
namespace Go.Aug.Mc
open Go Go.Aug
set_option linter.unusedSimpArgs false
set_option linter.unusedVariables false
theorem Z70 (d:Dir):¬Md.Q3 d d:=by unfold Md.Q3;omega
theorem Znv {a b:Dir}(h:Md.Q3 a b):¬Md.Q3 b a:=by unfold Md.Q3 at *;omega
theorem Z13 {a b c:Dir}(h:Md.Q3 a b)(h':Md.Q3 b c):Md.Q3 a c:=by unfold Md.Q3 at *;omega
theorem Z14 {a b:Dir}(h:¬Md.Q3 b a)(hn:b≠a):Md.Q3 a b:=by
 obtain⟨k,n⟩:=a
 obtain⟨k',n'⟩:=b
 unfold Md.Q3 at *
 simp only[ne_eq,Dir.mk.injEq,not_and] at *
 omega
theorem Z26:∀(A B:List Dir),A.Pairwise Md.Q3->B.Pairwise Md.Q3->(∀ d,d ∈ A↔d ∈ B)->A=B
 | [],[],_,_,_=>rfl
 | [],b::B,_,_,h=>absurd ((h b).2 List.mem_cons_self) List.not_mem_nil
 | a::A,[],_,_,h=>absurd ((h a).1 List.mem_cons_self) List.not_mem_nil
 | a::A,b::B,hA,hB,h=>by
  obtain⟨a1,a2⟩:=List.pairwise_cons.1 hA
  obtain⟨b1,b2⟩:=List.pairwise_cons.1 hB
  have hab:a=b:=by
   rcases List.mem_cons.1 ((h a).1 List.mem_cons_self) with e | e
   ·exact e
   ·rcases List.mem_cons.1 ((h b).2 List.mem_cons_self) with e' | e'
    ·exact e'.symm
    ·exact absurd (b1 a e) (Znv (a1 b e'))
  subst hab
  have:A=B:=Z26 A B a2 b2 fun d=>by
   constructor
   ·intro hd
    rcases List.mem_cons.1 ((h d).1 (List.mem_cons_of_mem _ hd)) with e | e
    ·exact absurd (a1 d hd) (by rw[e];exact Z70 _)
    ·exact e
   ·intro hd
    rcases List.mem_cons.1 ((h d).2 (List.mem_cons_of_mem _ hd)) with e | e
    ·exact absurd (b1 d hd) (by rw[e];exact Z70 _)
    ·exact e
  rw[this]
theorem Z0w:∀(l:List Dir) (y d:Dir),d ∈ y::E2 y l↔d ∈ y::l
 | [],y,d=>Iff.rfl
 | z::l,y,d=>by
  unfold E2
  split
  ·rename_i h
   subst h
   rw[Z0w l z d]
   simp
  ·rw [List.mem_cons, Z0w l z d]
   simp
theorem Znp (l:List Dir)(d:Dir):d ∈ Bj l↔d ∈ l:=by
 cases l with
 | nil=>exact Iff.rfl
 | cons y l=>exact Z0w l y d
def W4 (a b:Dir):Prop:=¬Md.Q3 b a
theorem Z45:∀(l:List Dir) (y:Dir),(y::l).Pairwise W4->(y::E2 y l).Pairwise Md.Q3
 | [],y,_=>List.pairwise_singleton _ _
 | z::l,y,h=>by
  obtain⟨h1,h2⟩:=List.pairwise_cons.1 h
  have ih:=Z45 l z h2
  unfold E2
  split
  ·rename_i e
   subst e
   exact ih
  ·rename_i e
   have hyz:Md.Q3 y z:=Z14 (h1 z List.mem_cons_self) e
   refine List.pairwise_cons.2 ⟨fun d hd=> ?_,ih⟩
   rcases List.mem_cons.1 hd with rfl | hd
   ·exact hyz
   ·exact Z13 hyz ((List.pairwise_cons.1 ih).1 d hd)
theorem Zh2 {l:List Dir}(h:l.Pairwise W4):(Bj l).Pairwise Md.Q3:=by
 cases l with
 | nil=>exact .nil
 | cons y l=>exact Z45 l y h
theorem Zh9 (l:List Dir):(JB l).Pairwise W4:=by
 unfold JB
 rw[List.pairwise_map]
 refine(XN (l.map GH)).imp ?_
 intro a b h
 unfold DD Q3 at h
 unfold W4 Md.Q3 R4
 simp at h ⊢
 omega
def G9 (N:Int)(p:Prog)(a b:Conf):List Dir:=Bj (JB (Md.all N p a++Md.all N p b))
theorem Z2w (N:Int)(p:Prog)(a b:Conf):(G9 N p a b).Pairwise Md.Q3:=Zh2 (Zh9 _)
theorem Z0x (N:Int)(p:Prog)(a b:Conf)(d:Dir):d ∈ G9 N p a b↔d ∈ Md.all N p a∨d ∈ Md.all N p b:=by
 unfold G9
 rw[Znp,(Z49 _).mem_iff,List.mem_append]
theorem Zsj (N:Int)(p:Prog)(a b:Conf):G9 N p a b=G9 N p b a:=
 Z26 _ _ (Z2w _ _ _ _) (Z2w _ _ _ _) fun d=>by rw[Z0x,Z0x,Or.comm]
set_option maxHeartbeats 40000000
set_option maxRecDepth 200000
theorem Znu (l:List Int):(Md.make l).ins.length<=5:=by
 show((List.range (Md.nM l)).map _).length<=5
 obtain⟨r,h1,h2⟩:=Md.N1 (Md.Y0 (Md.kM l 0) 12)
 rw[List.length_map,List.length_range]
 unfold Md.nM
 rw[h2,Int.toNat_natCast];omega
theorem Sz {p:Prog}(hp:Md.Fine p)(hil:p.ins.length<=5){N:Int}{c:Conf}(hI:Md.Inv N p c):(Md.all N p c).length<1000:=by
 have h1:=List.length_filter_le (fun n:Nat=>Md.can N p c (n:Int)) (List.range c.buf.length)
 have h2:=List.length_filter_le (fun n:Nat=>Md.QC p c (n:Int)) (List.range c.buf.length)
 have h3:=Md.Zpd p c
 have h4:(bif Md.Qv p c then[(⟨4,0⟩:Dir)] else[]).length<=1:=by cases Md.Qv p c<;>simp
 have hb:=hI.buf
 have hw:=hp.win
 unfold Md.all
 simp only[List.length_append,List.length_map,List.length_range] at h1 h2 ⊢
 omega
variable {E:Env} {fn:FuncId->Option (Env->cT->cT)}
section
variable (S:Sur E fn)
include S
theorem Z4h (hS:fn 31=some fun _ _ _ xs A=>GD 32 xs A)(dp:Nat){p:Prog}(hp:Md.Fine p)(hil:p.ins.length<=5)(hml:p.mems.length<1000)(hN:Z7 p.mems<=1000){a b:Conf}(hIa:Md.Inv (Z7 p.mems) p a)(hIb:Md.Inv (Z7 p.mems) p b)(A:List Blk)(nb:Nat):
  ZH false E (Z4 E fn (dp+11)) 11 A nb (some ([Zw p,ZA a,ZA b],[]))=some (.made (.d (rD (G9 (Z7 p.mems) p a b))) []):=by
 obtain⟨a1,a2,_⟩:=Pz hp hIa hN ⟨0,0⟩
 obtain⟨b1,b2,_⟩:=Pz hp hIb hN ⟨0,0⟩
 have la:=Sz hp hil hIa
 have lb:=Sz hp hil hIb
 exact Z6.deep (Zk5 S dp p a b hS (by omega) (by omega) (by omega) (by omega) (by omega) (by omega)) (np S 11 (by decide)) A nb
end
open Nat renaming reduceLT -> zN0, reduceEqDiff -> zN1, reduceAdd -> zN2, reduceMul -> zN3, reduceLeDiff -> zN4
open Int renaming reduceEq -> zI0, reduceLT -> zI1, reduceLE -> zI2, reduceNeg -> zI3
def GP (a b:Dir):Bool:=bif decide (a.kind=b.kind) then decide (a.n<b.n) else decide (a.kind<b.kind)
theorem RQ (a b:Dir):GP a b=true↔Md.Q3 a b:=by
 unfold GP Md.Q3
 by_cases h:a.kind=b.kind
 ·rw[decide_eq_true h,cond_true,decide_eq_true_eq];omega
 ·rw[decide_eq_false h,cond_false,decide_eq_true_eq];omega
def Ck:List Dir->List Dir->List Dir
 | [],Y=>Y
 | x::X,[]=>x::X
 | x::X,y::Y=>if GP x y=true then x::Ck X (y::Y) else if GP y x=true then y::Ck (x::X) Y else x::Ck X Y
termination_by X Y=>X.length+Y.length
theorem Tk (X:List Dir):Ck X []=X:=by
 cases X with
 | nil=>unfold Ck;rfl
 | cons x X=>unfold Ck;rfl
theorem RK (Y:List Dir):Ck [] Y=Y:=by unfold Ck;rfl
theorem Z0v (x:Dir)(X:List Dir)(y:Dir)(Y:List Dir):Ck (x::X) (y::Y)=if GP x y=true then x::Ck X (y::Y) else if GP y x=true then y::Ck (x::X) Y else x::Ck X Y:=by
 rw[Ck]
theorem VV:∀(n:Nat) (X Y:List Dir),X.length+Y.length=n->∀ d,d ∈ Ck X Y↔d ∈ X∨d ∈ Y:=by
 intro n
 induction n using Nat.strongRecOn with
 | _ n ih=>
  intro X Y hn d
  match X,Y with
  | [],Y=>rw[RK];simp
  | x::X,[]=>rw[Tk];simp
  | x::X,y::Y=>
   simp only[List.length_cons] at hn
   rw[Z0v]
   split
   ·rw [List.mem_cons, ih (X.length + (y :: Y).length) (by simp; omega) X (y :: Y) rfl d]
    simp only[List.mem_cons]
    constructor
    ·rintro(h | h | h)<;>simp[h]
    ·rintro((h | h) | h | h)<;>simp[h]
   ·split
    ·rw [List.mem_cons, ih ((x :: X).length + Y.length) (by simp; omega) (x :: X) Y rfl d]
     simp only[List.mem_cons]
     constructor
     ·rintro(h | (h | h) | h)<;>simp[h]
     ·rintro((h | h) | h | h)<;>simp[h]
    ·rename_i h1 h2
     have hxy:y=x:=by
      apply Classical.byContradiction
      intro hne
      exact h1 ((RQ x y).2 (Z14 (fun h=>h2 ((RQ y x).2 h)) hne))
     subst hxy
     rw[List.mem_cons,ih (X.length+Y.length) (by omega) X Y rfl d]
     simp only[List.mem_cons]
     constructor
     ·rintro(h | h | h)<;>simp[h]
     ·rintro((h | h) | h | h)<;>simp[h]
theorem Zh1:∀(n:Nat) (X Y:List Dir),X.length+Y.length=n->X.Pairwise Md.Q3->Y.Pairwise Md.Q3->(Ck X Y).Pairwise Md.Q3:=by
 intro n
 induction n using Nat.strongRecOn with
 | _ n ih=>
  intro X Y hn hX hY
  match X,Y with
  | [],Y=>rw[RK];exact hY
  | x::X,[]=>rw[Tk];exact hX
  | x::X,y::Y=>
   simp only[List.length_cons] at hn
   obtain⟨a1,a2⟩:=List.pairwise_cons.1 hX
   obtain⟨b1,b2⟩:=List.pairwise_cons.1 hY
   rw[Z0v]
   split
   ·rename_i h
    have hxy:=(RQ x y).1 h
    refine List.pairwise_cons.2 ⟨fun d hd=> ?_,ih (X.length+(y::Y).length) (by simp;omega) X (y::Y) rfl a2 hY⟩
    rcases(VV _ X (y::Y) rfl d).1 hd with h | h
    ·exact a1 d h
    ·rcases List.mem_cons.1 h with rfl | h
     ·exact hxy
     ·exact Z13 hxy (b1 d h)
   ·split
    ·rename_i h
     have hyx:=(RQ y x).1 h
     refine List.pairwise_cons.2 ⟨fun d hd=> ?_,ih ((x::X).length+Y.length) (by simp;omega) (x::X) Y rfl hX b2⟩
     rcases(VV _ (x::X) Y rfl d).1 hd with h | h
     ·rcases List.mem_cons.1 h with rfl | h
      ·exact hyx
      ·exact Z13 hyx (a1 d h)
     ·exact b1 d h
    ·rename_i h1 h2
     have hxy:y=x:=by
      apply Classical.byContradiction
      intro hne
      exact h1 ((RQ x y).2 (Z14 (fun h=>h2 ((RQ y x).2 h)) hne))
     subst hxy
     refine List.pairwise_cons.2 ⟨fun d hd=> ?_,ih (X.length+Y.length) (by omega) X Y rfl a2 b2⟩
     rcases(VV _ X Y rfl d).1 hd with h | h
     ·exact a1 d h
     ·exact b1 d h
theorem Zng (N:Int)(p:Prog)(a b:Conf):Ck (Md.all N p a) (Md.all N p b)=G9 N p a b:=
 Z26 _ _ (Zh1 _ _ _ rfl (Md.Zdb N p a) (Md.Zdb N p b)) (Z2w _ _ _ _) fun d=>by rw[VV _ _ _ rfl,Z0x]
variable {E:Env} {fn:FuncId->Option (Env->cT->cT)}
section
variable (S:Sur E fn)
include S
theorem Z5t:E.lives 47 7=none:=off S 47 7 (by decide) rfl
theorem AD:E.lives 20 1=none/\E.lives 20 15=none/\E.lives 20 21=none:=⟨off S 20 1 (by decide) rfl,off S 20 15 (by decide) rfl,off S 20 21 (by decide) rfl⟩
theorem RB:E.lives 23 11=none/\E.lives 23 15=none:=⟨off S 23 11 (by decide) rfl,off S 23 15 (by decide) rfl⟩
theorem Zks (dp:Nat)(a b:Dir):Z6 E fn (dp+1) 47 [.agg (Cl.cells a),.agg (Cl.cells b)] (vb (GP a b)):=by
 unfold Z6
 show Zk (Z4 E fn (dp+1) 47 [.d (.agg (Cl.cells a)),.d (.agg (Cl.cells b))] [])=_
 rw[ZK,S.Zb2,ZM,Zgb,ZP _ _ _ _ _ _ _ _ rfl]
 unfold GP
 by_cases h:a.kind=b.kind
 ·rw [decide_eq_true h, cond_true]
  simp only[eG,go_sem,Z3 S,Z2 S,zN0,zN1,zN2,zN3,zN4,zI0,zI1,zI2,zI3,reduceCtorEq,Z5t S,h]
 ·rw [decide_eq_false h, cond_false]
  simp only[eG,go_sem,Z3 S,Z2 S,zN0,zN1,zN2,zN3,zN4,zI0,zI1,zI2,zI3,reduceCtorEq,Z5t S,eq_false h]
theorem K4 (dp:Nat)(a_k a_n b_k b_n:Int)(A:List Blk)(nb:Nat)(us:List Nat):ZH false E (Z4 E fn (dp+1)) 47 A nb (some ([.agg [vi a_k,vi a_n],.agg [vi b_k,vi b_n]],us))=some (.made (.d (vb (GP (⟨a_k,a_n⟩:Dir) (⟨b_k,b_n⟩:Dir)))) []):=
 Z6.flat (Zks S dp (⟨a_k,a_n⟩:Dir) (⟨b_k,b_n⟩:Dir) ) (np S 47 (by decide)) (rfl) A nb us
theorem Zoa (dp:Nat)(X Y:List Dir)(hl:X.length+Y.length<1000000)(kx:Nat->K)(D:DV)(r:List Dir)(hx:∀ T,ZT .bot T 9=YJ 0 r->Zk (kx 0 (mk .bot 94 T) (Yw r))=some D):
  ∀(m i k f:Nat) (o:List Dir),X.length+Y.length<=i+k+m->i<=X.length->k<=Y.length->m<=f->o.length<=i+k->o++Ck (X.drop i) (Y.drop k)=r->
  Zk (DN (Zq E 20) (Z4 E fn (dp+7)) (Zj 10 DN (Zq E 20) (Z4 E fn (dp+7)) kx (ZX 0 [.tmp 6]) f) kx (ZX 0 [.tmp 6]) (mk .bot 94 [(7,.d (rD X)),(8,.d (rD Y)),(9,YJ 0 o),(10,aI i),(11,aI k)]) (Yw o))=some D:=by
 have done:∀(i k f:Nat) (o:List Dir),i=X.length->k=Y.length->o++Ck (X.drop i) (Y.drop k)=r->
   Zk (DN (Zq E 20) (Z4 E fn (dp+7)) (Zj 10 DN (Zq E 20) (Z4 E fn (dp+7)) kx (ZX 0 [.tmp 6]) f) kx (ZX 0 [.tmp 6]) (mk .bot 94 [(7,.d (rD X)),(8,.d (rD Y)),(9,YJ 0 o),(10,aI i),(11,aI k)]) (Yw o))=some D:=by
  intro i k f o hi hk hr
  subst hi hk
  rw[List.drop_length,List.drop_length,RK,List.append_nil] at hr
  subst hr
  generalize Zj 10 DN _ _ kx _ f=KK
  first | (conv=>lhs;rw[DN]) | rw[DN]
  by_cases h0:o.length=0
  ·have : o = [] := List.length_eq_zero_iff.1 h0
   subst this
   simp only[eG,go_sem,Z3 S,Z2 S,zN0,zN1,zN2,zN3,zN4,zI0,zI1,zI2,zI3,reduceCtorEq,AD S,Y4,Y3,Int.lt_irrefl]
   exact hx _ rfl
  ·rw [ZC h0, ZB h0] at *
   simp only[eG,go_sem,Z3 S,Z2 S,zN0,zN1,zN2,zN3,zN4,zI0,zI1,zI2,zI3,reduceCtorEq,AD S,Int.lt_irrefl]
   exact hx _ rfl
 intro m
 induction m with
 | zero=>
  intro i k f o h1 h2 h3 _ _ hr
  exact done i k f o (by omega) (by omega) hr
 | succ m ih=>
  intro i k f o h1 h2 h3 hf ho hr
  obtain⟨f,rfl⟩:∃ g,f=g+1:=⟨f-1,by omega⟩
  by_cases hi:i<X.length
  ·obtain ⟨x, hX⟩ := YX hi
   have hi':(i:Int)<X.length:=by omega
   have hi2:¬(i:Int)=X.length:=by omega
   by_cases hk:k<Y.length
   ·obtain ⟨y, hY⟩ := YX hk
    have hk':(k:Int)<Y.length:=by omega
    have hk2:¬(k:Int)=Y.length:=by omega
    rw[JQ hX,JQ hY,Z0v] at hr
    generalize hK:Zj 10 DN _ _ kx _ (f+1)=KK
    first | (conv=>lhs;rw[DN]) | rw[DN]
    cases hxy:GP x y with
    | true=>
     rw[hxy,if_pos rfl] at hr
     by_cases h0:o.length=0
     ·have : o = [] := List.length_eq_zero_iff.1 h0
      subst this
      have next:=ih (i+1) k f [x] (by omega) (by omega) (by omega) (by omega) (by simp;omega) (by rw[<-hr,JQ hY];rfl)
      rw[ZC (by simp),ZB (by simp)] at next
      simp only[eG,go_sem,Z3 S,Z2 S,zN0,zN1,zN2,zN3,zN4,zI0,zI1,zI2,zI3,reduceCtorEq,AD S,ZD,ZE,ZF,ZG,Z9,Qj,QA,Qx,Qq,Qk,Option.map_some,Nat.zero_add,Nat.one_mul,Nat.zero_mul,and_self,true_and,wi i (by omega),wi k (by omega),show(0:Nat)<1 by decide,Y4,Y3,hi',hk',hi2,hk2,Zz hX,Zz hY,hxy,K4 S,Bool.not_false,Bool.not_true]
      rw[<-hK,Z8 (on S _ _ [7,8,9,10,11] (by decide) rfl) rfl _ _ _ _ _ _ _ _ _ rfl]
      simp only[eG,go_sem,Z3 S,Z2 S,zN0,zN1,zN2,zN3,zN4,zI0,zI1,zI2,zI3,reduceCtorEq,AD S]
      exact next
     ·have next := ih (i + 1) k f (o ++ [x]) (by omega) (by omega) (by omega) (by omega) (by simp; omega) (by rw [<- hr, JQ hY, List.append_assoc]; rfl)
      rw[ZC (JJ _ _),ZB (JJ _ _)] at next
      rw[ZC h0,ZB h0]
      have k1:(o.length+1)*16<=Z5:=by unfold Z5;omega
      have k2:o.length+1<=Z5:=by unfold Z5;omega
      simp only[eG,go_sem,Z3 S,Z2 S,zN0,zN1,zN2,zN3,zN4,zI0,zI1,zI2,zI3,reduceCtorEq,AD S,ZD,ZE,ZF,ZG,Z9,Qj,QA,Qx,Qq,Qk,Option.map_some,Nat.zero_add,Nat.one_mul,Nat.zero_mul,and_self,true_and,wi i (by omega),wi k (by omega),show(0:Nat)<1 by decide,k1,k2,hi',hk',hi2,hk2,Zz hX,Zz hY,hxy,K4 S,Bool.not_false,Bool.not_true]
      rw[<-hK,Z8 (on S _ _ [7,8,9,10,11] (by decide) rfl) rfl _ _ _ _ _ _ _ _ _ rfl]
      simp only[eG,go_sem,Z3 S,Z2 S,zN0,zN1,zN2,zN3,zN4,zI0,zI1,zI2,zI3,reduceCtorEq,AD S]
      rw[List.length_append,List.length_singleton] at next
      exact next
    | false=>
     rw[hxy,if_neg (by simp)] at hr
     cases hyx:GP y x with
     | true=>
      rw[hyx,if_pos rfl] at hr
      by_cases h0:o.length=0
      ·have : o = [] := List.length_eq_zero_iff.1 h0
       subst this
       have next:=ih i (k+1) f [y] (by omega) (by omega) (by omega) (by omega) (by simp;omega) (by rw[<-hr,JQ hX];rfl)
       rw[ZC (by simp),ZB (by simp)] at next
       simp only[eG,go_sem,Z3 S,Z2 S,zN0,zN1,zN2,zN3,zN4,zI0,zI1,zI2,zI3,reduceCtorEq,AD S,ZD,ZE,ZF,ZG,Z9,Qj,QA,Qx,Qq,Qk,Option.map_some,Nat.zero_add,Nat.one_mul,Nat.zero_mul,and_self,true_and,wi i (by omega),wi k (by omega),show(0:Nat)<1 by decide,Y4,Y3,hi',hk',hi2,hk2,Zz hX,Zz hY,hxy,hyx,K4 S,Bool.not_false,Bool.not_true]
       rw[<-hK,Z8 (on S _ _ [7,8,9,10,11] (by decide) rfl) rfl _ _ _ _ _ _ _ _ _ rfl]
       simp only[eG,go_sem,Z3 S,Z2 S,zN0,zN1,zN2,zN3,zN4,zI0,zI1,zI2,zI3,reduceCtorEq,AD S]
       exact next
      ·have next := ih i (k + 1) f (o ++ [y]) (by omega) (by omega) (by omega) (by omega) (by simp; omega) (by rw [<- hr, JQ hX, List.append_assoc]; rfl)
       rw[ZC (JJ _ _),ZB (JJ _ _)] at next
       rw[ZC h0,ZB h0]
       have k1:(o.length+1)*16<=Z5:=by unfold Z5;omega
       have k2:o.length+1<=Z5:=by unfold Z5;omega
       simp only[eG,go_sem,Z3 S,Z2 S,zN0,zN1,zN2,zN3,zN4,zI0,zI1,zI2,zI3,reduceCtorEq,AD S,ZD,ZE,ZF,ZG,Z9,Qj,QA,Qx,Qq,Qk,Option.map_some,Nat.zero_add,Nat.one_mul,Nat.zero_mul,and_self,true_and,wi i (by omega),wi k (by omega),show(0:Nat)<1 by decide,k1,k2,hi',hk',hi2,hk2,Zz hX,Zz hY,hxy,hyx,K4 S,Bool.not_false,Bool.not_true]
       rw[<-hK,Z8 (on S _ _ [7,8,9,10,11] (by decide) rfl) rfl _ _ _ _ _ _ _ _ _ rfl]
       simp only[eG,go_sem,Z3 S,Z2 S,zN0,zN1,zN2,zN3,zN4,zI0,zI1,zI2,zI3,reduceCtorEq,AD S]
       rw[List.length_append,List.length_singleton] at next
       exact next
     | false=>
      rw[hyx,if_neg (by simp)] at hr
      by_cases h0:o.length=0
      ·have : o = [] := List.length_eq_zero_iff.1 h0
       subst this
       have next:=ih (i+1) (k+1) f [x] (by omega) (by omega) (by omega) (by omega) (by simp;omega) (by rw[<-hr];rfl)
       rw[ZC (by simp),ZB (by simp)] at next
       simp only[eG,go_sem,Z3 S,Z2 S,zN0,zN1,zN2,zN3,zN4,zI0,zI1,zI2,zI3,reduceCtorEq,AD S,ZD,ZE,ZF,ZG,Z9,Qj,QA,Qx,Qq,Qk,Option.map_some,Nat.zero_add,Nat.one_mul,Nat.zero_mul,and_self,true_and,wi i (by omega),wi k (by omega),show(0:Nat)<1 by decide,Y4,Y3,hi',hk',hi2,hk2,Zz hX,Zz hY,hxy,hyx,K4 S,Bool.not_false,Bool.not_true]
       rw[<-hK,Z8 (on S _ _ [7,8,9,10,11] (by decide) rfl) rfl _ _ _ _ _ _ _ _ _ rfl]
       simp only[eG,go_sem,Z3 S,Z2 S,zN0,zN1,zN2,zN3,zN4,zI0,zI1,zI2,zI3,reduceCtorEq,AD S]
       exact next
      ·have next := ih (i + 1) (k + 1) f (o ++ [x]) (by omega) (by omega) (by omega) (by omega) (by simp; omega) (by rw [<- hr, List.append_assoc]; rfl)
       rw[ZC (JJ _ _),ZB (JJ _ _)] at next
       rw[ZC h0,ZB h0]
       have k1:(o.length+1)*16<=Z5:=by unfold Z5;omega
       have k2:o.length+1<=Z5:=by unfold Z5;omega
       simp only[eG,go_sem,Z3 S,Z2 S,zN0,zN1,zN2,zN3,zN4,zI0,zI1,zI2,zI3,reduceCtorEq,AD S,ZD,ZE,ZF,ZG,Z9,Qj,QA,Qx,Qq,Qk,Option.map_some,Nat.zero_add,Nat.one_mul,Nat.zero_mul,and_self,true_and,wi i (by omega),wi k (by omega),show(0:Nat)<1 by decide,k1,k2,hi',hk',hi2,hk2,Zz hX,Zz hY,hxy,hyx,K4 S,Bool.not_false,Bool.not_true]
       rw[<-hK,Z8 (on S _ _ [7,8,9,10,11] (by decide) rfl) rfl _ _ _ _ _ _ _ _ _ rfl]
       simp only[eG,go_sem,Z3 S,Z2 S,zN0,zN1,zN2,zN3,zN4,zI0,zI1,zI2,zI3,reduceCtorEq,AD S]
       rw[List.length_append,List.length_singleton] at next
       exact next
   ·have hk3 : (k : Int) = Y.length := by omega
    have hk4:¬(k:Int)<Y.length:=by omega
    have hkd:Y.drop k=[]:=List.drop_of_length_le (by omega)
    rw[JQ hX,hkd,Tk] at hr
    generalize hK:Zj 10 DN _ _ kx _ (f+1)=KK
    first | (conv=>lhs;rw[DN]) | rw[DN]
    by_cases h0:o.length=0
    ·have : o = [] := List.length_eq_zero_iff.1 h0
     subst this
     have next:=ih (i+1) k f [x] (by omega) (by omega) (by omega) (by omega) (by simp;omega) (by rw[<-hr,hkd,Tk];rfl)
     rw[ZC (by simp),ZB (by simp)] at next
     simp only[eG,go_sem,Z3 S,Z2 S,zN0,zN1,zN2,zN3,zN4,zI0,zI1,zI2,zI3,reduceCtorEq,AD S,ZD,ZE,ZF,ZG,Z9,Qj,QA,Qx,Qq,Qk,Option.map_some,Nat.zero_add,Nat.one_mul,Nat.zero_mul,and_self,true_and,wi i (by omega),wi k (by omega),show(0:Nat)<1 by decide,Y4,Y3,hi',hi2,Zz hX,eq_true hk3,hk4,K4 S,Bool.not_false,Bool.not_true]
     rw[<-hK,Z8 (on S _ _ [7,8,9,10,11] (by decide) rfl) rfl _ _ _ _ _ _ _ _ _ rfl]
     simp only[eG,go_sem,Z3 S,Z2 S,zN0,zN1,zN2,zN3,zN4,zI0,zI1,zI2,zI3,reduceCtorEq,AD S]
     exact next
    ·have next := ih (i + 1) k f (o ++ [x]) (by omega) (by omega) (by omega) (by omega) (by simp; omega) (by rw [<- hr, hkd, Tk, List.append_assoc]; rfl)
     rw[ZC (JJ _ _),ZB (JJ _ _)] at next
     rw[ZC h0,ZB h0]
     have k1:(o.length+1)*16<=Z5:=by unfold Z5;omega
     have k2:o.length+1<=Z5:=by unfold Z5;omega
     simp only[eG,go_sem,Z3 S,Z2 S,zN0,zN1,zN2,zN3,zN4,zI0,zI1,zI2,zI3,reduceCtorEq,AD S,ZD,ZE,ZF,ZG,Z9,Qj,QA,Qx,Qq,Qk,Option.map_some,Nat.zero_add,Nat.one_mul,Nat.zero_mul,and_self,true_and,wi i (by omega),wi k (by omega),show(0:Nat)<1 by decide,k1,k2,hi',hi2,Zz hX,eq_true hk3,hk4,K4 S,Bool.not_false,Bool.not_true]
     rw[<-hK,Z8 (on S _ _ [7,8,9,10,11] (by decide) rfl) rfl _ _ _ _ _ _ _ _ _ rfl]
     simp only[eG,go_sem,Z3 S,Z2 S,zN0,zN1,zN2,zN3,zN4,zI0,zI1,zI2,zI3,reduceCtorEq,AD S]
     rw[List.length_append,List.length_singleton] at next
     exact next
  ·have hi3 : (i : Int) = X.length := by omega
   have hi4:¬(i:Int)<X.length:=by omega
   have hid:X.drop i=[]:=List.drop_of_length_le (by omega)
   by_cases hk:k<Y.length
   ·obtain ⟨y, hY⟩ := YX hk
    have hk':(k:Int)<Y.length:=by omega
    have hk2:¬(k:Int)=Y.length:=by omega
    rw[hid,JQ hY,RK] at hr
    generalize hK:Zj 10 DN _ _ kx _ (f+1)=KK
    first | (conv=>lhs;rw[DN]) | rw[DN]
    by_cases h0:o.length=0
    ·have : o = [] := List.length_eq_zero_iff.1 h0
     subst this
     have next:=ih i (k+1) f [y] (by omega) (by omega) (by omega) (by omega) (by simp;omega) (by rw[<-hr,hid,RK];rfl)
     rw[ZC (by simp),ZB (by simp)] at next
     simp only[eG,go_sem,Z3 S,Z2 S,zN0,zN1,zN2,zN3,zN4,zI0,zI1,zI2,zI3,reduceCtorEq,AD S,ZD,ZE,ZF,ZG,Z9,Qj,QA,Qx,Qq,Qk,Option.map_some,Nat.zero_add,Nat.one_mul,Nat.zero_mul,and_self,true_and,wi i (by omega),wi k (by omega),show(0:Nat)<1 by decide,Y4,Y3,hk',hk2,Zz hY,eq_true hi3,hi4,K4 S,Bool.not_false,Bool.not_true]
     rw[<-hK,Z8 (on S _ _ [7,8,9,10,11] (by decide) rfl) rfl _ _ _ _ _ _ _ _ _ rfl]
     simp only[eG,go_sem,Z3 S,Z2 S,zN0,zN1,zN2,zN3,zN4,zI0,zI1,zI2,zI3,reduceCtorEq,AD S]
     exact next
    ·have next := ih i (k + 1) f (o ++ [y]) (by omega) (by omega) (by omega) (by omega) (by simp; omega) (by rw [<- hr, hid, RK, List.append_assoc]; rfl)
     rw[ZC (JJ _ _),ZB (JJ _ _)] at next
     rw[ZC h0,ZB h0]
     have k1:(o.length+1)*16<=Z5:=by unfold Z5;omega
     have k2:o.length+1<=Z5:=by unfold Z5;omega
     simp only[eG,go_sem,Z3 S,Z2 S,zN0,zN1,zN2,zN3,zN4,zI0,zI1,zI2,zI3,reduceCtorEq,AD S,ZD,ZE,ZF,ZG,Z9,Qj,QA,Qx,Qq,Qk,Option.map_some,Nat.zero_add,Nat.one_mul,Nat.zero_mul,and_self,true_and,wi i (by omega),wi k (by omega),show(0:Nat)<1 by decide,k1,k2,hk',hk2,Zz hY,eq_true hi3,hi4,K4 S,Bool.not_false,Bool.not_true]
     rw[<-hK,Z8 (on S _ _ [7,8,9,10,11] (by decide) rfl) rfl _ _ _ _ _ _ _ _ _ rfl]
     simp only[eG,go_sem,Z3 S,Z2 S,zN0,zN1,zN2,zN3,zN4,zI0,zI1,zI2,zI3,reduceCtorEq,AD S]
     rw[List.length_append,List.length_singleton] at next
     exact next
   ·exact done i k (f+1) o (by omega) (by omega) hr
theorem Z4k (dp:Nat){p:Prog}(hp:Md.Fine p)(hN:Z7 p.mems<=1000){c:Conf}(hI:Md.Inv (Z7 p.mems) p c)(d:Dir)(A:List Blk)(nb:Nat):
  ZH false E (Z4 E fn (dp+7)) 43 A nb (some ([Zw p,ZA c,.agg [vi d.kind,vi d.n]],[]))=some (.made (.d (.tup [ZA (QG (Z7 p.mems) p c d).1,rD (QG (Z7 p.mems) p c d).2,vb (Md.Qw (Z7 p.mems) p c d)])) []):=by
 obtain⟨q1,q2,q3,q4,q5,y1,y2,y3,y4,y5,y6⟩:=Pz hp hI hN d
 have hm:=hI.mem
 have h:=Z6.deep (Zja S dp p c d q1 (by omega) (by omega) (by omega) (by omega) y1 (by rw[hm];exact y2) y3 y4 y5 y6) (np S 43 (by decide)) A nb
 rw[hm] at h
 exact h
theorem Zho (dp:Nat){p:Prog}(hp:Md.Fine p)(hil:p.ins.length<=5)(hml:p.mems.length<1000)(hN:Z7 p.mems<=1000){a b:Conf}(hIa:Md.Inv (Z7 p.mems) p a)(hIb:Md.Inv (Z7 p.mems) p b):
  Z6 E fn (dp+8) 20 [Zw p,ZA a,ZA b] (rD (G9 (Z7 p.mems) p a b)):=by
 obtain⟨a1,a2,_⟩:=Pz hp hIa hN ⟨0,0⟩
 obtain⟨b1,b2,_⟩:=Pz hp hIb hN ⟨0,0⟩
 have la:=Sz hp hil hIa
 have lb:=Sz hp hil hIb
 have cA:=fun(A:List Blk) (nb:Nat)=>Z6.deep (Z56 S (dp+1) p a (by omega) (by omega)) (np S 17 (by decide)) A nb
 have cB:=fun(A:List Blk) (nb:Nat)=>Z6.deep (Z56 S (dp+1) p b (by omega) (by omega)) (np S 17 (by decide)) A nb
 have hma:(a.state.mem.length:Int)=Z7 p.mems:=hIa.mem
 have hmb:(b.state.mem.length:Int)=Z7 p.mems:=hIb.mem
 rw[hma] at cA
 rw[hmb] at cB
 rw[<-Zng]
 generalize Md.all (Z7 p.mems) p a=X at *
 generalize Md.all (Z7 p.mems) p b=Y at *
 simp only[Zw,ZZ,ZA,QB] at cA cB
 unfold Z6
 show Zk (Z4 E fn (dp+7+1) 20 [.d (Zw p),.d (ZA a),.d (ZA b)] [])=_
 rw[ZK,S.Zb4,ZM,Zgd,ZP _ _ _ _ _ _ _ _ rfl]
 simp only[eG,go_sem,Z3 S,Z2 S,zN0,zN1,zN2,zN3,zN4,zI0,zI1,zI2,zI3,reduceCtorEq,AD S,cA,cB]
 rw[Y9,Z8 (on S _ _ [7,8,9,10,11] (by decide) rfl) rfl _ _ _ _ _ _ _ _ _ rfl]
 simp only[eG,go_sem,Z3 S,Z2 S,zN0,zN1,zN2,zN3,zN4,zI0,zI1,zI2,zI3,reduceCtorEq,AD S]
 have go:=fun(kx:Nat->K) (D:DV) hx=>Zoa S dp X Y (by omega) kx D (Ck X Y) hx (X.length+Y.length) 0 0 999999999999999999999999999999 [] (by omega) (by omega) (by omega) (by omega) (by simp) rfl
 simp only[Int.cast_ofNat_Int,Y4,Y3] at go
 refine go _ _ ?_
 intro T t9
 generalize Ck X Y=r at *
 by_cases z:r.length=0
 ·have e : r = [] := List.length_eq_zero_iff.1 z
  subst e
  rw[Y4] at t9
  rw[Y3]
  simp only[eG,go_sem,Z3 S,Z2 S,zN0,zN1,zN2,zN3,zN4,zI0,zI1,zI2,zI3,reduceCtorEq,AD S,t9]
 ·rw [ZC z] at t9
  rw[ZB z]
  have hne:r≠[]:=fun e=>z (by rw[e];rfl)
  have hd:deep [.cells ((rC r).map .d) 0 false] 8 (.sref 0 0 0 r.length 2 none)=some (.lst (rC r) r.length none,[0]):=CA r hne _ rfl 6 2 none rfl
  simp only[eG,go_sem,Z3 S,Z2 S,zN0,zN1,zN2,zN3,zN4,zI0,zI1,zI2,zI3,reduceCtorEq,AD S,t9,hd]
  rfl
theorem Zhn (dp:Nat){p:Prog}(hp:Md.Fine p)(hml:p.mems.length<1000)(hN:Z7 p.mems<=1000){a b:Conf}(hIa:Md.Inv (Z7 p.mems) p a)(hIb:Md.Inv (Z7 p.mems) p b)(d:Dir):
  Z6 E fn (dp+8) 23 [Zw p,ZA a,ZA b,.agg [vi d.kind,vi d.n]] (.tup [ZA (bif Dz (Z7 p.mems) p a b d then(QG (Z7 p.mems) p a d).1 else Md.QH),ZA (bif Dz (Z7 p.mems) p a b d then(QG (Z7 p.mems) p b d).1 else Md.QH),vb (Dk (Z7 p.mems) p a b d),vb (Dz (Z7 p.mems) p a b d)]):=by
 have ca:=fun(A:List Blk) (nb:Nat)=>Z4k S dp hp hN hIa d A nb
 have cb:=fun(A:List Blk) (nb:Nat)=>Z4k S dp hp hN hIb d A nb
 obtain⟨a1,a2,a3,a4,a5⟩:=R8 hp hN hIa d
 obtain⟨b1,b2,b3,b4,b5⟩:=R8 hp hN hIb d
 unfold Dz Dk
 generalize Md.Qw (Z7 p.mems) p a d=x at ca ⊢
 generalize Md.Qw (Z7 p.mems) p b d=y at cb ⊢
 generalize QG (Z7 p.mems) p a d=X at *
 generalize QG (Z7 p.mems) p b d=Y at *
 obtain⟨X,o⟩:=X
 obtain⟨Y,q⟩:=Y
 simp only at a1 a2 a3 a4 a5 b1 b2 b3 b4 b5
 have ho:o.length<1073741824:=by omega
 have cO:=fun(A:List Blk) (nb:Nat)=>Z6.flat (Zjv S (dp+6) o q ho) (np S 50 (by decide)) rfl A nb
 simp only[Zw,ZZ,ZA,QB] at ca cb
 unfold Z6
 show Zk (Z4 E fn (dp+7+1) 23 [.d (Zw p),.d (ZA a),.d (ZA b),.d (.agg [vi d.kind,vi d.n])] [])=_
 rw[ZK,S.Zb3,ZM,Zgc,ZP _ _ _ _ _ _ _ _ rfl]
 cases x<;>cases y
 ·by_cases hoq : o = q
  ·simp only[eG,go_sem,Z3 S,Z2 S,zN0,zN1,zN2,zN3,zN4,zI0,zI1,zI2,zI3,reduceCtorEq,RB S,ca,cb,ho,cO,Bool.not_true,Bool.not_false,Q1,YZ,Q0,YY,beq_self_eq_true,Md.QH,eq_true hoq]
  ·simp only[eG,go_sem,Z3 S,Z2 S,zN0,zN1,zN2,zN3,zN4,zI0,zI1,zI2,zI3,reduceCtorEq,RB S,ca,cb,ho,cO,Bool.not_true,Bool.not_false,Q1,YZ,Q0,YY,beq_self_eq_true,Md.QH,eq_false hoq]
 ·simp only[eG,go_sem,Z3 S,Z2 S,zN0,zN1,zN2,zN3,zN4,zI0,zI1,zI2,zI3,reduceCtorEq,RB S,ca,cb,ho,cO,Bool.not_true,Bool.not_false,Q1,YZ,Q0,YY,beq_self_eq_true,Md.QH]
 ·simp only[eG,go_sem,Z3 S,Z2 S,zN0,zN1,zN2,zN3,zN4,zI0,zI1,zI2,zI3,reduceCtorEq,RB S,ca,cb,ho,cO,Bool.not_true,Bool.not_false,Q1,YZ,Q0,YY,beq_self_eq_true,Md.QH]
 ·by_cases hoq : o = q
  ·simp only [eG, go_sem, Z3 S, Z2 S, zN0, zN1, zN2, zN3, zN4, zI0, zI1, zI2, zI3, reduceCtorEq, RB S, ca, cb, ho, cO, Bool.not_true, Bool.not_false, Q1, YZ, Q0, YY, beq_self_eq_true, Md.QH, eq_true hoq]
   rfl
  ·simp only[eG,go_sem,Z3 S,Z2 S,zN0,zN1,zN2,zN3,zN4,zI0,zI1,zI2,zI3,reduceCtorEq,RB S,ca,cb,ho,cO,Bool.not_true,Bool.not_false,Q1,YZ,Q0,YY,beq_self_eq_true,Md.QH,eq_false hoq]
end
end Go.Aug.Mc
