import Derived.Test.YtmfdoekbjkgckaaGreatMc60
import Derived.Test.YtmfdoekbjkgckaaGreatPb
import Derived.Test.YtmfdoekbjkgckaaGreatMc41
import Derived.Test.YtmfdoekbjkgckaaGreatPa
import Derived.Test.YtmfdoekbjkgckaaGreatMl
namespace Go.Aug.Md
open Go Go.Aug
set_option linter.unusedSimpArgs false
set_option linter.unusedVariables false
def YA (a b:Dir):Prop:=a.kind<b.kind∨a.kind=b.kind/\a.n<b.n
theorem Z2h (k:Int)(f:Nat->Bool)(m:Nat):(((List.range m).filter f).map fun n:Nat=>(⟨k,(n:Int)⟩:Dir)).Pairwise YA:=by
 rw[List.pairwise_map]
 refine(List.pairwise_lt_range.filter _).imp ?_
 intro a b h
 exact .inr ⟨rfl,by show(a:Int)<b;omega⟩
theorem Zde (k:Int)(m:Nat):((List.range m).map fun n:Nat=>(⟨k,(n:Int)⟩:Dir)).Pairwise YA:=by
 rw[List.pairwise_map]
 refine List.pairwise_lt_range.imp ?_
 intro a b h
 exact .inr ⟨rfl,by show(a:Int)<b;omega⟩
section
variable {N:Int} {p:Prog} {c:Conf}
theorem Za0 (N:Int)(p:Prog)(c:Conf):(all N p c).Pairwise YA:=by
 have k1:∀(k:Int) (l:List Nat) (d:Dir),d ∈ (l.map fun n:Nat=>(⟨k,(n:Int)⟩:Dir))->d.kind=k:=by
  intro k l d h
  obtain⟨n,_,rfl⟩:=List.mem_map.1 h;rfl
 unfold all
 rw[List.pairwise_append,List.pairwise_append,List.pairwise_append]
 refine⟨⟨⟨Zde _ _,Z2h _ _ _,?_⟩,Z2h _ _ _,?_⟩,?_,?_⟩
 ·intro a ha b hb
  have:=k1 _ _ _ ha;have:=k1 _ _ _ hb
  exact .inl (by omega)
 ·intro a ha b hb
  have hb:=k1 _ _ _ hb
  rcases List.mem_append.1 ha with ha | ha
  ·have:=k1 _ _ _ ha;exact .inl (by omega)
  ·have:=k1 _ _ _ ha;exact .inl (by omega)
 ·cases YM p c with
  | false=>exact List.Pairwise.nil
  | true=>exact List.pairwise_singleton _ _
 ·intro a ha b hb
  have hb:b.kind=4:=by
   cases hr:YM p c with
   | false=>rw[hr] at hb;cases hb
   | true=>
    rw[hr] at hb
    have:b=⟨4,0⟩:=by simpa using hb
    rw[this]
  rcases List.mem_append.1 ha with ha | ha
  ·rcases List.mem_append.1 ha with ha | ha
   ·have:=k1 _ _ _ ha;exact .inl (by omega)
   ·have:=k1 _ _ _ ha;exact .inl (by omega)
  ·have:=k1 _ _ _ ha;exact .inl (by omega)
theorem Zk2 (p:Prog)(c:Conf):YE p c<=max 2 (p.ins.length+1):=by
 unfold YE
 split
 ·omega
 split
 ·omega
 split
 ·omega
 ·omega
structure Cnt (l:List Dir) (k:Nat) (d:Dir):Prop where
 le:k<=l.length
 lo:∀ e ∈ l.take k,YA e d
 hi:∀ e ∈ l.drop k,¬YA e d
theorem Cnt.begin (l:List Dir)(d:Dir)(h:∀ e ∈ l,¬YA e d):Cnt l 0 d:=⟨Nat.zero_le _,fun e h=>by simp at h,fun e he=>h e (by simpa using he)⟩
theorem Cnt.row {l:List Dir}{k:Nat}{kd m:Int}(h:Cnt l k ⟨kd,m⟩)(hm:∀ e ∈ l,0<=e.n/\e.n<m):Cnt l k ⟨kd+1,-1⟩:=by
 refine⟨h.le,fun e he=> ?_,fun e he=> ?_⟩
 ·have := h.lo e he
  unfold YA at this ⊢
  show _<kd+1∨_=kd+1/\_< -1
  have:e.kind<kd∨e.kind=kd/\e.n<m:=this
  omega
 ·have h1 : ¬ (e.kind < kd ∨ e.kind = kd /\ e.n < m) := h.hi e he
  have:=hm e (List.mem_of_mem_drop he)
  show ¬(_<kd+1∨_=kd+1/\_< -1)
  omega
theorem Cnt.end_ {l:List Dir}{k:Nat}{kd m:Int}(h:Cnt l k ⟨kd,m⟩)(hm:∀ e ∈ l,e.kind<kd):k=l.length:=by
 have h0:l.drop k=[]:=by
  cases hq:l.drop k with
  | nil=>rfl
  | cons e t=>
   have he:e ∈ l.drop k:=by rw[hq];exact List.mem_cons_self
   exact absurd (.inl (hm e (List.mem_of_mem_drop he))) (h.hi e he)
 have:=congrArg List.length h0
 rw[List.length_drop,List.length_nil] at this
 have:=h.le
 omega
end
end Go.Aug.Md
namespace Go.Aug.Mc
open Go Go.Aug
set_option linter.unusedSimpArgs false
set_option linter.unusedVariables false
theorem Z4t (d:Dir):¬Md.YA d d:=by unfold Md.YA;omega
theorem Ziq {a b:Dir}(h:Md.YA a b):¬Md.YA b a:=by unfold Md.YA at *;omega
theorem Xz {a b c:Dir}(h:Md.YA a b)(h':Md.YA b c):Md.YA a c:=by unfold Md.YA at *;omega
theorem Xw {a b:Dir}(h:¬Md.YA b a)(hn:b≠a):Md.YA a b:=by
 obtain⟨k,n⟩:=a
 obtain⟨k',n'⟩:=b
 unfold Md.YA at *
 simp only[ne_eq,Dir.mk.injEq,not_and] at *
 omega
theorem Z8k:∀(A B:List Dir),A.Pairwise Md.YA->B.Pairwise Md.YA->(∀ d,d ∈ A↔d ∈ B)->A=B
 | [],[],_,_,_=>rfl
 | [],b::B,_,_,h=>absurd ((h b).2 List.mem_cons_self) List.not_mem_nil
 | a::A,[],_,_,h=>absurd ((h a).1 List.mem_cons_self) List.not_mem_nil
 | a::A,b::B,hA,hB,h=>by
  obtain⟨a1,a2⟩:=List.pairwise_cons.1 hA
  obtain⟨b1,b2⟩:=List.pairwise_cons.1 hB
  have hab:a=b:=by
   rcases List.mem_cons.1 ((h a).1 List.mem_cons_self) with e | e
   ·exact e
   ·rcases List.mem_cons.1 ((h b).2 List.mem_cons_self) with e' | e'
    ·exact e'.symm
    ·exact absurd (b1 a e) (Ziq (a1 b e'))
  subst hab
  have:A=B:=Z8k A B a2 b2 fun d=>by
   constructor
   ·intro hd
    rcases List.mem_cons.1 ((h d).1 (List.mem_cons_of_mem _ hd)) with e | e
    ·exact absurd (a1 d hd) (by rw[e];exact Z4t _)
    ·exact e
   ·intro hd
    rcases List.mem_cons.1 ((h d).2 (List.mem_cons_of_mem _ hd)) with e | e
    ·exact absurd (b1 d hd) (by rw[e];exact Z4t _)
    ·exact e
  rw[this]
theorem X8:∀(l:List Dir) (y d:Dir),d ∈ y::CQ y l↔d ∈ y::l
 | [],y,d=>Iff.rfl
 | z::l,y,d=>by
  unfold CQ
  split
  ·rename_i h
   subst h
   rw[X8 l z d]
   simp
  ·rw [List.mem_cons, X8 l z d]
   simp
theorem Zii (l:List Dir)(d:Dir):d ∈ Aj l↔d ∈ l:=by
 cases l with
 | nil=>exact Iff.rfl
 | cons y l=>exact X8 l y d
def UD (a b:Dir):Prop:=¬Md.YA b a
theorem Z26:∀(l:List Dir) (y:Dir),(y::l).Pairwise UD->(y::CQ y l).Pairwise Md.YA
 | [],y,_=>List.pairwise_singleton _ _
 | z::l,y,h=>by
  obtain⟨h1,h2⟩:=List.pairwise_cons.1 h
  have ih:=Z26 l z h2
  unfold CQ
  split
  ·rename_i e
   subst e
   exact ih
  ·rename_i e
   have hyz:Md.YA y z:=Xw (h1 z List.mem_cons_self) e
   refine List.pairwise_cons.2 ⟨fun d hd=> ?_,ih⟩
   rcases List.mem_cons.1 hd with rfl | hd
   ·exact hyz
   ·exact Xz hyz ((List.pairwise_cons.1 ih).1 d hd)
theorem Zcv {l:List Dir}(h:l.Pairwise UD):(Aj l).Pairwise Md.YA:=by
 cases l with
 | nil=>exact .nil
 | cons y l=>exact Z26 l y h
theorem Zd2 (l:List Dir):(J2 l).Pairwise UD:=by
 unfold J2
 rw[List.pairwise_map]
 refine(W4 (l.map FE)).imp ?_
 intro a b h
 unfold Cj YA at h
 unfold UD Md.YA NT
 simp at h ⊢
 omega
def Hj (N:Int)(p:Prog)(a b:Conf):List Dir:=Aj (J2 (Md.all N p a++Md.all N p b))
theorem Z9e (N:Int)(p:Prog)(a b:Conf):(Hj N p a b).Pairwise Md.YA:=Zcv (Zd2 _)
theorem Z4e (N:Int)(p:Prog)(a b:Conf)(d:Dir):d ∈ Hj N p a b↔d ∈ Md.all N p a∨d ∈ Md.all N p b:=by
 unfold Hj
 rw[Zii,(Z2a _).mem_iff,List.mem_append]
set_option maxHeartbeats 40000000
set_option maxRecDepth 200000
theorem Zip (l:List Int):(Md.make l).ins.length<=5:=by
 show((List.range (Md.nM l)).map _).length<=5
 obtain⟨r,h1,h2⟩:=Md.M0 (Md.ZR (Md.kM l 0) 12)
 rw[List.length_map,List.length_range]
 unfold Md.nM
 rw[h2,Int.toNat_natCast];omega
theorem PZ {p:Prog}(hp:Md.Fine p)(hil:p.ins.length<=5){N:Int}{c:Conf}(hI:Md.Inv N p c):(Md.all N p c).length<1000:=by
 have h1:=List.length_filter_le (fun n:Nat=>Md.can N p c (n:Int)) (List.range c.buf.length)
 have h2:=List.length_filter_le (fun n:Nat=>Md.YU p c (n:Int)) (List.range c.buf.length)
 have h3:=Md.Zk2 p c
 have h4:(bif Md.YM p c then[(⟨4,0⟩:Dir)] else[]).length<=1:=by cases Md.YM p c<;>simp
 have hb:=hI.buf
 have hw:=hp.win
 unfold Md.all
 simp only[List.length_append,List.length_map,List.length_range] at h1 h2 ⊢
 omega
variable {E:Env} {fn:FuncId->Option (Env->cT->cT)}
section
variable (S:Sur E fn)
include S
theorem Zdg (hS:fn 31=some fun _ _ _ xs A=>FB 32 xs A)(dp:Nat){p:Prog}(hp:Md.Fine p)(hil:p.ins.length<=5)(hml:p.mems.length<1000)(hN:Zj p.mems<=1000){a b:Conf}(hIa:Md.Inv (Zj p.mems) p a)(hIb:Md.Inv (Zj p.mems) p b)(A:List Blk)(nb:Nat):
  Y1 false E (Z5 E fn (dp+11)) 11 A nb (some ([ZD p,ZV a,ZV b],[]))=some (.made (.d (rD (Hj (Zj p.mems) p a b))) []):=by
 obtain⟨a1,a2,_⟩:=Nj hp hIa hN ⟨0,0⟩
 obtain⟨b1,b2,_⟩:=Nj hp hIb hN ⟨0,0⟩
 have la:=PZ hp hil hIa
 have lb:=PZ hp hil hIb
 exact Z6.deep (Zfe S dp p a b hS (by omega) (by omega) (by omega) (by omega) (by omega) (by omega)) (np S 11 (by decide)) A nb
end
open Nat renaming reduceLT -> zN0, reduceEqDiff -> zN1, reduceAdd -> zN2, reduceMul -> zN3, reduceLeDiff -> zN4
open Int renaming reduceEq -> zI0, reduceLT -> zI1, reduceLE -> zI2, reduceNeg -> zI3
def FG (a b:Dir):Bool:=bif decide (a.kind=b.kind) then decide (a.n<b.n) else decide (a.kind<b.kind)
theorem Pw (a b:Dir):FG a b=true↔Md.YA a b:=by
 unfold FG Md.YA
 by_cases h:a.kind=b.kind
 ·rw[decide_eq_true h,cond_true,decide_eq_true_eq];omega
 ·rw[decide_eq_false h,cond_false,decide_eq_true_eq];omega
def Bj:List Dir->List Dir->List Dir
 | [],Y=>Y
 | x::X,[]=>x::X
 | x::X,y::Y=>if FG x y=true then x::Bj X (y::Y) else if FG y x=true then y::Bj (x::X) Y else x::Bj X Y
termination_by X Y=>X.length+Y.length
theorem RY (X:List Dir):Bj X []=X:=by
 cases X with
 | nil=>unfold Bj;rfl
 | cons x X=>unfold Bj;rfl
theorem Pk (Y:List Dir):Bj [] Y=Y:=by unfold Bj;rfl
theorem X7 (x:Dir)(X:List Dir)(y:Dir)(Y:List Dir):Bj (x::X) (y::Y)=if FG x y=true then x::Bj X (y::Y) else if FG y x=true then y::Bj (x::X) Y else x::Bj X Y:=by
 rw[Bj]
theorem Ux:∀(n:Nat) (X Y:List Dir),X.length+Y.length=n->∀ d,d ∈ Bj X Y↔d ∈ X∨d ∈ Y:=by
 intro n
 induction n using Nat.strongRecOn with
 | _ n ih=>
  intro X Y hn d
  match X,Y with
  | [],Y=>rw[Pk];simp
  | x::X,[]=>rw[RY];simp
  | x::X,y::Y=>
   simp only[List.length_cons] at hn
   rw[X7]
   split
   ·rw [List.mem_cons, ih (X.length + (y :: Y).length) (by simp; omega) X (y :: Y) rfl d]
    simp only[List.mem_cons]
    constructor
    ·rintro(h | h | h)<;>simp[h]
    ·rintro((h | h) | h | h)<;>simp[h]
   ·split
    ·rw [List.mem_cons, ih ((x :: X).length + Y.length) (by simp; omega) (x :: X) Y rfl d]
     simp only[List.mem_cons]
     constructor
     ·rintro(h | (h | h) | h)<;>simp[h]
     ·rintro((h | h) | h | h)<;>simp[h]
    ·rename_i h1 h2
     have hxy:y=x:=by
      apply Classical.byContradiction
      intro hne
      exact h1 ((Pw x y).2 (Xw (fun h=>h2 ((Pw y x).2 h)) hne))
     subst hxy
     rw[List.mem_cons,ih (X.length+Y.length) (by omega) X Y rfl d]
     simp only[List.mem_cons]
     constructor
     ·rintro(h | h | h)<;>simp[h]
     ·rintro((h | h) | h | h)<;>simp[h]
theorem Zcu:∀(n:Nat) (X Y:List Dir),X.length+Y.length=n->X.Pairwise Md.YA->Y.Pairwise Md.YA->(Bj X Y).Pairwise Md.YA:=by
 intro n
 induction n using Nat.strongRecOn with
 | _ n ih=>
  intro X Y hn hX hY
  match X,Y with
  | [],Y=>rw[Pk];exact hY
  | x::X,[]=>rw[RY];exact hX
  | x::X,y::Y=>
   simp only[List.length_cons] at hn
   obtain⟨a1,a2⟩:=List.pairwise_cons.1 hX
   obtain⟨b1,b2⟩:=List.pairwise_cons.1 hY
   rw[X7]
   split
   ·rename_i h
    have hxy:=(Pw x y).1 h
    refine List.pairwise_cons.2 ⟨fun d hd=> ?_,ih (X.length+(y::Y).length) (by simp;omega) X (y::Y) rfl a2 hY⟩
    rcases(Ux _ X (y::Y) rfl d).1 hd with h | h
    ·exact a1 d h
    ·rcases List.mem_cons.1 h with rfl | h
     ·exact hxy
     ·exact Xz hxy (b1 d h)
   ·split
    ·rename_i h
     have hyx:=(Pw y x).1 h
     refine List.pairwise_cons.2 ⟨fun d hd=> ?_,ih ((x::X).length+Y.length) (by simp;omega) (x::X) Y rfl hX b2⟩
     rcases(Ux _ (x::X) Y rfl d).1 hd with h | h
     ·rcases List.mem_cons.1 h with rfl | h
      ·exact hyx
      ·exact Xz hyx (a1 d h)
     ·exact b1 d h
    ·rename_i h1 h2
     have hxy:y=x:=by
      apply Classical.byContradiction
      intro hne
      exact h1 ((Pw x y).2 (Xw (fun h=>h2 ((Pw y x).2 h)) hne))
     subst hxy
     refine List.pairwise_cons.2 ⟨fun d hd=> ?_,ih (X.length+Y.length) (by omega) X Y rfl a2 b2⟩
     rcases(Ux _ X Y rfl d).1 hd with h | h
     ·exact a1 d h
     ·exact b1 d h
theorem Zi8 (N:Int)(p:Prog)(a b:Conf):Bj (Md.all N p a) (Md.all N p b)=Hj N p a b:=
 Z8k _ _ (Zcu _ _ _ rfl (Md.Za0 N p a) (Md.Za0 N p b)) (Z9e _ _ _ _) fun d=>by rw[Ux _ _ _ rfl,Z4e]
variable {E:Env} {fn:FuncId->Option (Env->cT->cT)}
section
variable (S:Sur E fn)
include S
theorem Z3s:E.lives 47 7=none:=off S 47 7 (by decide) rfl
theorem JM:E.lives 20 1=none/\E.lives 20 15=none/\E.lives 20 21=none:=⟨off S 20 1 (by decide) rfl,off S 20 15 (by decide) rfl,off S 20 21 (by decide) rfl⟩
theorem P5:E.lives 23 11=none/\E.lives 23 15=none:=⟨off S 23 11 (by decide) rfl,off S 23 15 (by decide) rfl⟩
theorem Zfr (dp:Nat)(a b:Dir):Z6 E fn (dp+1) 47 [.agg (Cl.cells a),.agg (Cl.cells b)] (vb (FG a b)):=by
 unfold Z6
 show Zw (Z5 E fn (dp+1) 47 [.d (.agg (Cl.cells a)),.d (.agg (Cl.cells b))] [])=_
 rw[ZU,S.Z7u,ZW,Zc2,ZY _ _ _ _ _ _ _ _ rfl]
 unfold FG
 by_cases h:a.kind=b.kind
 ·rw [decide_eq_true h, cond_true]
  simp only[eG,go_sem,Z2 S,Z1 S,zN0,zN1,zN2,zN3,zN4,zI0,zI1,zI2,zI3,reduceCtorEq,Z3s S,h]
 ·rw [decide_eq_false h, cond_false]
  simp only[eG,go_sem,Z2 S,Z1 S,zN0,zN1,zN2,zN3,zN4,zI0,zI1,zI2,zI3,reduceCtorEq,Z3s S,eq_false h]
theorem H6 (dp:Nat)(a_k a_n b_k b_n:Int)(A:List Blk)(nb:Nat)(us:List Nat):Y1 false E (Z5 E fn (dp+1)) 47 A nb (some ([.agg [vi a_k,vi a_n],.agg [vi b_k,vi b_n]],us))=some (.made (.d (vb (FG (⟨a_k,a_n⟩:Dir) (⟨b_k,b_n⟩:Dir)))) []):=
 Z6.flat (Zfr S dp (⟨a_k,a_n⟩:Dir) (⟨b_k,b_n⟩:Dir) ) (np S 47 (by decide)) (rfl) A nb us
theorem Zj1 (dp:Nat)(X Y:List Dir)(hl:X.length+Y.length<1000000)(kx:Nat->K)(D:DV)(r:List Dir)(hx:∀ T,ZE .bot T 9=QJ 0 r->Zw (kx 0 (mk .bot 94 T) (QH r))=some D):
  ∀(m i k f:Nat) (o:List Dir),X.length+Y.length<=i+k+m->i<=X.length->k<=Y.length->m<=f->o.length<=i+k->o++Bj (X.drop i) (Y.drop k)=r->
  Zw (CC (Zq E 20) (Z5 E fn (dp+7)) (Z9 10 CC (Zq E 20) (Z5 E fn (dp+7)) kx (Y0 0 [.tmp 6]) f) kx (Y0 0 [.tmp 6]) (mk .bot 94 [(7,.d (rD X)),(8,.d (rD Y)),(9,QJ 0 o),(10,aI i),(11,aI k)]) (QH o))=some D:=by
 have done:∀(i k f:Nat) (o:List Dir),i=X.length->k=Y.length->o++Bj (X.drop i) (Y.drop k)=r->
   Zw (CC (Zq E 20) (Z5 E fn (dp+7)) (Z9 10 CC (Zq E 20) (Z5 E fn (dp+7)) kx (Y0 0 [.tmp 6]) f) kx (Y0 0 [.tmp 6]) (mk .bot 94 [(7,.d (rD X)),(8,.d (rD Y)),(9,QJ 0 o),(10,aI i),(11,aI k)]) (QH o))=some D:=by
  intro i k f o hi hk hr
  subst hi hk
  rw[List.drop_length,List.drop_length,Pk,List.append_nil] at hr
  subst hr
  generalize Z9 10 CC _ _ kx _ f=KK
  first | (conv=>lhs;rw[CC]) | rw[CC]
  by_cases h0:o.length=0
  ·have : o = [] := List.length_eq_zero_iff.1 h0
   subst this
   simp only[eG,go_sem,Z2 S,Z1 S,zN0,zN1,zN2,zN3,zN4,zI0,zI1,zI2,zI3,reduceCtorEq,JM S,ZC,ZB,Int.lt_irrefl]
   exact hx _ rfl
  ·rw [Zz h0, Zx h0] at *
   simp only[eG,go_sem,Z2 S,Z1 S,zN0,zN1,zN2,zN3,zN4,zI0,zI1,zI2,zI3,reduceCtorEq,JM S,Int.lt_irrefl]
   exact hx _ rfl
 intro m
 induction m with
 | zero=>
  intro i k f o h1 h2 h3 _ _ hr
  exact done i k f o (by omega) (by omega) hr
 | succ m ih=>
  intro i k f o h1 h2 h3 hf ho hr
  obtain⟨f,rfl⟩:∃ g,f=g+1:=⟨f-1,by omega⟩
  by_cases hi:i<X.length
  ·obtain ⟨x, hX⟩ := QB hi
   have hi':(i:Int)<X.length:=by omega
   have hi2:¬(i:Int)=X.length:=by omega
   by_cases hk:k<Y.length
   ·obtain ⟨y, hY⟩ := QB hk
    have hk':(k:Int)<Y.length:=by omega
    have hk2:¬(k:Int)=Y.length:=by omega
    rw[BK hX,BK hY,X7] at hr
    generalize hK:Z9 10 CC _ _ kx _ (f+1)=KK
    first | (conv=>lhs;rw[CC]) | rw[CC]
    cases hxy:FG x y with
    | true=>
     rw[hxy,if_pos rfl] at hr
     by_cases h0:o.length=0
     ·have : o = [] := List.length_eq_zero_iff.1 h0
      subst this
      have next:=ih (i+1) k f [x] (by omega) (by omega) (by omega) (by omega) (by simp;omega) (by rw[<-hr,BK hY];rfl)
      rw[Zz (by simp),Zx (by simp)] at next
      simp only[eG,go_sem,Z2 S,Z1 S,zN0,zN1,zN2,zN3,zN4,zI0,zI1,zI2,zI3,reduceCtorEq,JM S,ZG,ZH,ZJ,ZK,Z8,Yj,Yz,Yx,Yq,Yk,Option.map_some,Nat.zero_add,Nat.one_mul,Nat.zero_mul,and_self,true_and,wi i (by omega),wi k (by omega),show(0:Nat)<1 by decide,ZC,ZB,hi',hk',hi2,hk2,Zv hX,Zv hY,hxy,H6 S,Bool.not_false,Bool.not_true]
      rw[<-hK,Z7 (on S _ _ [7,8,9,10,11] (by decide) rfl) rfl _ _ _ _ _ _ _ _ _ rfl]
      simp only[eG,go_sem,Z2 S,Z1 S,zN0,zN1,zN2,zN3,zN4,zI0,zI1,zI2,zI3,reduceCtorEq,JM S]
      exact next
     ·have next := ih (i + 1) k f (o ++ [x]) (by omega) (by omega) (by omega) (by omega) (by simp; omega) (by rw [<- hr, BK hY, List.append_assoc]; rfl)
      rw[Zz (Qj _ _),Zx (Qj _ _)] at next
      rw[Zz h0,Zx h0]
      have k1:(o.length+1)*16<=Z4:=by unfold Z4;omega
      have k2:o.length+1<=Z4:=by unfold Z4;omega
      simp only[eG,go_sem,Z2 S,Z1 S,zN0,zN1,zN2,zN3,zN4,zI0,zI1,zI2,zI3,reduceCtorEq,JM S,ZG,ZH,ZJ,ZK,Z8,Yj,Yz,Yx,Yq,Yk,Option.map_some,Nat.zero_add,Nat.one_mul,Nat.zero_mul,and_self,true_and,wi i (by omega),wi k (by omega),show(0:Nat)<1 by decide,k1,k2,hi',hk',hi2,hk2,Zv hX,Zv hY,hxy,H6 S,Bool.not_false,Bool.not_true]
      rw[<-hK,Z7 (on S _ _ [7,8,9,10,11] (by decide) rfl) rfl _ _ _ _ _ _ _ _ _ rfl]
      simp only[eG,go_sem,Z2 S,Z1 S,zN0,zN1,zN2,zN3,zN4,zI0,zI1,zI2,zI3,reduceCtorEq,JM S]
      rw[List.length_append,List.length_singleton] at next
      exact next
    | false=>
     rw[hxy,if_neg (by simp)] at hr
     cases hyx:FG y x with
     | true=>
      rw[hyx,if_pos rfl] at hr
      by_cases h0:o.length=0
      ·have : o = [] := List.length_eq_zero_iff.1 h0
       subst this
       have next:=ih i (k+1) f [y] (by omega) (by omega) (by omega) (by omega) (by simp;omega) (by rw[<-hr,BK hX];rfl)
       rw[Zz (by simp),Zx (by simp)] at next
       simp only[eG,go_sem,Z2 S,Z1 S,zN0,zN1,zN2,zN3,zN4,zI0,zI1,zI2,zI3,reduceCtorEq,JM S,ZG,ZH,ZJ,ZK,Z8,Yj,Yz,Yx,Yq,Yk,Option.map_some,Nat.zero_add,Nat.one_mul,Nat.zero_mul,and_self,true_and,wi i (by omega),wi k (by omega),show(0:Nat)<1 by decide,ZC,ZB,hi',hk',hi2,hk2,Zv hX,Zv hY,hxy,hyx,H6 S,Bool.not_false,Bool.not_true]
       rw[<-hK,Z7 (on S _ _ [7,8,9,10,11] (by decide) rfl) rfl _ _ _ _ _ _ _ _ _ rfl]
       simp only[eG,go_sem,Z2 S,Z1 S,zN0,zN1,zN2,zN3,zN4,zI0,zI1,zI2,zI3,reduceCtorEq,JM S]
       exact next
      ·have next := ih i (k + 1) f (o ++ [y]) (by omega) (by omega) (by omega) (by omega) (by simp; omega) (by rw [<- hr, BK hX, List.append_assoc]; rfl)
       rw[Zz (Qj _ _),Zx (Qj _ _)] at next
       rw[Zz h0,Zx h0]
       have k1:(o.length+1)*16<=Z4:=by unfold Z4;omega
       have k2:o.length+1<=Z4:=by unfold Z4;omega
       simp only[eG,go_sem,Z2 S,Z1 S,zN0,zN1,zN2,zN3,zN4,zI0,zI1,zI2,zI3,reduceCtorEq,JM S,ZG,ZH,ZJ,ZK,Z8,Yj,Yz,Yx,Yq,Yk,Option.map_some,Nat.zero_add,Nat.one_mul,Nat.zero_mul,and_self,true_and,wi i (by omega),wi k (by omega),show(0:Nat)<1 by decide,k1,k2,hi',hk',hi2,hk2,Zv hX,Zv hY,hxy,hyx,H6 S,Bool.not_false,Bool.not_true]
       rw[<-hK,Z7 (on S _ _ [7,8,9,10,11] (by decide) rfl) rfl _ _ _ _ _ _ _ _ _ rfl]
       simp only[eG,go_sem,Z2 S,Z1 S,zN0,zN1,zN2,zN3,zN4,zI0,zI1,zI2,zI3,reduceCtorEq,JM S]
       rw[List.length_append,List.length_singleton] at next
       exact next
     | false=>
      rw[hyx,if_neg (by simp)] at hr
      by_cases h0:o.length=0
      ·have : o = [] := List.length_eq_zero_iff.1 h0
       subst this
       have next:=ih (i+1) (k+1) f [x] (by omega) (by omega) (by omega) (by omega) (by simp;omega) (by rw[<-hr];rfl)
       rw[Zz (by simp),Zx (by simp)] at next
       simp only[eG,go_sem,Z2 S,Z1 S,zN0,zN1,zN2,zN3,zN4,zI0,zI1,zI2,zI3,reduceCtorEq,JM S,ZG,ZH,ZJ,ZK,Z8,Yj,Yz,Yx,Yq,Yk,Option.map_some,Nat.zero_add,Nat.one_mul,Nat.zero_mul,and_self,true_and,wi i (by omega),wi k (by omega),show(0:Nat)<1 by decide,ZC,ZB,hi',hk',hi2,hk2,Zv hX,Zv hY,hxy,hyx,H6 S,Bool.not_false,Bool.not_true]
       rw[<-hK,Z7 (on S _ _ [7,8,9,10,11] (by decide) rfl) rfl _ _ _ _ _ _ _ _ _ rfl]
       simp only[eG,go_sem,Z2 S,Z1 S,zN0,zN1,zN2,zN3,zN4,zI0,zI1,zI2,zI3,reduceCtorEq,JM S]
       exact next
      ·have next := ih (i + 1) (k + 1) f (o ++ [x]) (by omega) (by omega) (by omega) (by omega) (by simp; omega) (by rw [<- hr, List.append_assoc]; rfl)
       rw[Zz (Qj _ _),Zx (Qj _ _)] at next
       rw[Zz h0,Zx h0]
       have k1:(o.length+1)*16<=Z4:=by unfold Z4;omega
       have k2:o.length+1<=Z4:=by unfold Z4;omega
       simp only[eG,go_sem,Z2 S,Z1 S,zN0,zN1,zN2,zN3,zN4,zI0,zI1,zI2,zI3,reduceCtorEq,JM S,ZG,ZH,ZJ,ZK,Z8,Yj,Yz,Yx,Yq,Yk,Option.map_some,Nat.zero_add,Nat.one_mul,Nat.zero_mul,and_self,true_and,wi i (by omega),wi k (by omega),show(0:Nat)<1 by decide,k1,k2,hi',hk',hi2,hk2,Zv hX,Zv hY,hxy,hyx,H6 S,Bool.not_false,Bool.not_true]
       rw[<-hK,Z7 (on S _ _ [7,8,9,10,11] (by decide) rfl) rfl _ _ _ _ _ _ _ _ _ rfl]
       simp only[eG,go_sem,Z2 S,Z1 S,zN0,zN1,zN2,zN3,zN4,zI0,zI1,zI2,zI3,reduceCtorEq,JM S]
       rw[List.length_append,List.length_singleton] at next
       exact next
   ·have hk3 : (k : Int) = Y.length := by omega
    have hk4:¬(k:Int)<Y.length:=by omega
    have hkd:Y.drop k=[]:=List.drop_of_length_le (by omega)
    rw[BK hX,hkd,RY] at hr
    generalize hK:Z9 10 CC _ _ kx _ (f+1)=KK
    first | (conv=>lhs;rw[CC]) | rw[CC]
    by_cases h0:o.length=0
    ·have : o = [] := List.length_eq_zero_iff.1 h0
     subst this
     have next:=ih (i+1) k f [x] (by omega) (by omega) (by omega) (by omega) (by simp;omega) (by rw[<-hr,hkd,RY];rfl)
     rw[Zz (by simp),Zx (by simp)] at next
     simp only[eG,go_sem,Z2 S,Z1 S,zN0,zN1,zN2,zN3,zN4,zI0,zI1,zI2,zI3,reduceCtorEq,JM S,ZG,ZH,ZJ,ZK,Z8,Yj,Yz,Yx,Yq,Yk,Option.map_some,Nat.zero_add,Nat.one_mul,Nat.zero_mul,and_self,true_and,wi i (by omega),wi k (by omega),show(0:Nat)<1 by decide,ZC,ZB,hi',hi2,Zv hX,eq_true hk3,hk4,H6 S,Bool.not_false,Bool.not_true]
     rw[<-hK,Z7 (on S _ _ [7,8,9,10,11] (by decide) rfl) rfl _ _ _ _ _ _ _ _ _ rfl]
     simp only[eG,go_sem,Z2 S,Z1 S,zN0,zN1,zN2,zN3,zN4,zI0,zI1,zI2,zI3,reduceCtorEq,JM S]
     exact next
    ·have next := ih (i + 1) k f (o ++ [x]) (by omega) (by omega) (by omega) (by omega) (by simp; omega) (by rw [<- hr, hkd, RY, List.append_assoc]; rfl)
     rw[Zz (Qj _ _),Zx (Qj _ _)] at next
     rw[Zz h0,Zx h0]
     have k1:(o.length+1)*16<=Z4:=by unfold Z4;omega
     have k2:o.length+1<=Z4:=by unfold Z4;omega
     simp only[eG,go_sem,Z2 S,Z1 S,zN0,zN1,zN2,zN3,zN4,zI0,zI1,zI2,zI3,reduceCtorEq,JM S,ZG,ZH,ZJ,ZK,Z8,Yj,Yz,Yx,Yq,Yk,Option.map_some,Nat.zero_add,Nat.one_mul,Nat.zero_mul,and_self,true_and,wi i (by omega),wi k (by omega),show(0:Nat)<1 by decide,k1,k2,hi',hi2,Zv hX,eq_true hk3,hk4,H6 S,Bool.not_false,Bool.not_true]
     rw[<-hK,Z7 (on S _ _ [7,8,9,10,11] (by decide) rfl) rfl _ _ _ _ _ _ _ _ _ rfl]
     simp only[eG,go_sem,Z2 S,Z1 S,zN0,zN1,zN2,zN3,zN4,zI0,zI1,zI2,zI3,reduceCtorEq,JM S]
     rw[List.length_append,List.length_singleton] at next
     exact next
  ·have hi3 : (i : Int) = X.length := by omega
   have hi4:¬(i:Int)<X.length:=by omega
   have hid:X.drop i=[]:=List.drop_of_length_le (by omega)
   by_cases hk:k<Y.length
   ·obtain ⟨y, hY⟩ := QB hk
    have hk':(k:Int)<Y.length:=by omega
    have hk2:¬(k:Int)=Y.length:=by omega
    rw[hid,BK hY,Pk] at hr
    generalize hK:Z9 10 CC _ _ kx _ (f+1)=KK
    first | (conv=>lhs;rw[CC]) | rw[CC]
    by_cases h0:o.length=0
    ·have : o = [] := List.length_eq_zero_iff.1 h0
     subst this
     have next:=ih i (k+1) f [y] (by omega) (by omega) (by omega) (by omega) (by simp;omega) (by rw[<-hr,hid,Pk];rfl)
     rw[Zz (by simp),Zx (by simp)] at next
     simp only[eG,go_sem,Z2 S,Z1 S,zN0,zN1,zN2,zN3,zN4,zI0,zI1,zI2,zI3,reduceCtorEq,JM S,ZG,ZH,ZJ,ZK,Z8,Yj,Yz,Yx,Yq,Yk,Option.map_some,Nat.zero_add,Nat.one_mul,Nat.zero_mul,and_self,true_and,wi i (by omega),wi k (by omega),show(0:Nat)<1 by decide,ZC,ZB,hk',hk2,Zv hY,eq_true hi3,hi4,H6 S,Bool.not_false,Bool.not_true]
     rw[<-hK,Z7 (on S _ _ [7,8,9,10,11] (by decide) rfl) rfl _ _ _ _ _ _ _ _ _ rfl]
     simp only[eG,go_sem,Z2 S,Z1 S,zN0,zN1,zN2,zN3,zN4,zI0,zI1,zI2,zI3,reduceCtorEq,JM S]
     exact next
    ·have next := ih i (k + 1) f (o ++ [y]) (by omega) (by omega) (by omega) (by omega) (by simp; omega) (by rw [<- hr, hid, Pk, List.append_assoc]; rfl)
     rw[Zz (Qj _ _),Zx (Qj _ _)] at next
     rw[Zz h0,Zx h0]
     have k1:(o.length+1)*16<=Z4:=by unfold Z4;omega
     have k2:o.length+1<=Z4:=by unfold Z4;omega
     simp only[eG,go_sem,Z2 S,Z1 S,zN0,zN1,zN2,zN3,zN4,zI0,zI1,zI2,zI3,reduceCtorEq,JM S,ZG,ZH,ZJ,ZK,Z8,Yj,Yz,Yx,Yq,Yk,Option.map_some,Nat.zero_add,Nat.one_mul,Nat.zero_mul,and_self,true_and,wi i (by omega),wi k (by omega),show(0:Nat)<1 by decide,k1,k2,hk',hk2,Zv hY,eq_true hi3,hi4,H6 S,Bool.not_false,Bool.not_true]
     rw[<-hK,Z7 (on S _ _ [7,8,9,10,11] (by decide) rfl) rfl _ _ _ _ _ _ _ _ _ rfl]
     simp only[eG,go_sem,Z2 S,Z1 S,zN0,zN1,zN2,zN3,zN4,zI0,zI1,zI2,zI3,reduceCtorEq,JM S]
     rw[List.length_append,List.length_singleton] at next
     exact next
   ·exact done i k (f+1) o (by omega) (by omega) hr
theorem Z2l (dp:Nat){p:Prog}(hp:Md.Fine p)(hN:Zj p.mems<=1000){c:Conf}(hI:Md.Inv (Zj p.mems) p c)(d:Dir)(A:List Blk)(nb:Nat):
  Y1 false E (Z5 E fn (dp+7)) 43 A nb (some ([ZD p,ZV c,.agg [vi d.kind,vi d.n]],[]))=some (.made (.d (.tup [ZV (JK (Zj p.mems) p c d).1,rD (JK (Zj p.mems) p c d).2,vb (Md.Jx (Zj p.mems) p c d)])) []):=by
 obtain⟨q1,q2,q3,q4,q5,y1,y2,y3,y4,y5,y6⟩:=Nj hp hI hN d
 have hm:=hI.mem
 have h:=Z6.deep (Zen S dp p c d q1 (by omega) (by omega) (by omega) (by omega) y1 (by rw[hm];exact y2) y3 y4 y5 y6) (np S 43 (by decide)) A nb
 rw[hm] at h
 exact h
theorem Zdh (dp:Nat){p:Prog}(hp:Md.Fine p)(hil:p.ins.length<=5)(hml:p.mems.length<1000)(hN:Zj p.mems<=1000){a b:Conf}(hIa:Md.Inv (Zj p.mems) p a)(hIb:Md.Inv (Zj p.mems) p b):
  Z6 E fn (dp+8) 20 [ZD p,ZV a,ZV b] (rD (Hj (Zj p.mems) p a b)):=by
 obtain⟨a1,a2,_⟩:=Nj hp hIa hN ⟨0,0⟩
 obtain⟨b1,b2,_⟩:=Nj hp hIb hN ⟨0,0⟩
 have la:=PZ hp hil hIa
 have lb:=PZ hp hil hIb
 have cA:=fun(A:List Blk) (nb:Nat)=>Z6.deep (Z36 S (dp+1) p a (by omega) (by omega)) (np S 17 (by decide)) A nb
 have cB:=fun(A:List Blk) (nb:Nat)=>Z6.deep (Z36 S (dp+1) p b (by omega) (by omega)) (np S 17 (by decide)) A nb
 have hma:(a.state.mem.length:Int)=Zj p.mems:=hIa.mem
 have hmb:(b.state.mem.length:Int)=Zj p.mems:=hIb.mem
 rw[hma] at cA
 rw[hmb] at cB
 rw[<-Zi8]
 generalize Md.all (Zj p.mems) p a=X at *
 generalize Md.all (Zj p.mems) p b=Y at *
 simp only[ZD,ZX,ZV,YT] at cA cB
 unfold Z6
 show Zw (Z5 E fn (dp+7+1) 20 [.d (ZD p),.d (ZV a),.d (ZV b)] [])=_
 rw[ZU,S.Z7w,ZW,Zc4,ZY _ _ _ _ _ _ _ _ rfl]
 simp only[eG,go_sem,Z2 S,Z1 S,zN0,zN1,zN2,zN3,zN4,zI0,zI1,zI2,zI3,reduceCtorEq,JM S,cA,cB]
 rw[Y2,Z7 (on S _ _ [7,8,9,10,11] (by decide) rfl) rfl _ _ _ _ _ _ _ _ _ rfl]
 simp only[eG,go_sem,Z2 S,Z1 S,zN0,zN1,zN2,zN3,zN4,zI0,zI1,zI2,zI3,reduceCtorEq,JM S]
 have go:=fun(kx:Nat->K) (D:DV) hx=>Zj1 S dp X Y (by omega) kx D (Bj X Y) hx (X.length+Y.length) 0 0 999999999999999999999999999999 [] (by omega) (by omega) (by omega) (by omega) (by simp) rfl
 simp only[Int.cast_ofNat_Int,ZC,ZB] at go
 refine go _ _ ?_
 intro T t9
 generalize Bj X Y=r at *
 by_cases z:r.length=0
 ·have e : r = [] := List.length_eq_zero_iff.1 z
  subst e
  rw[ZC] at t9
  rw[ZB]
  simp only[eG,go_sem,Z2 S,Z1 S,zN0,zN1,zN2,zN3,zN4,zI0,zI1,zI2,zI3,reduceCtorEq,JM S,t9]
 ·rw [Zz z] at t9
  rw[Zx z]
  have hne:r≠[]:=fun e=>z (by rw[e];rfl)
  have hd:deep [.cells ((rC r).map .d) 0 false] 8 (.sref 0 0 0 r.length 2 none)=some (.lst (rC r) r.length none,[0]):=DK r hne _ rfl 6 2 none rfl
  simp only[eG,go_sem,Z2 S,Z1 S,zN0,zN1,zN2,zN3,zN4,zI0,zI1,zI2,zI3,reduceCtorEq,JM S,t9,hd]
  rfl
theorem Zdf (dp:Nat){p:Prog}(hp:Md.Fine p)(hml:p.mems.length<1000)(hN:Zj p.mems<=1000){a b:Conf}(hIa:Md.Inv (Zj p.mems) p a)(hIb:Md.Inv (Zj p.mems) p b)(d:Dir):
  Z6 E fn (dp+8) 23 [ZD p,ZV a,ZV b,.agg [vi d.kind,vi d.n]] (.tup [ZV (bif MW (Zj p.mems) p a b d then(JK (Zj p.mems) p a d).1 else Md.JU),ZV (bif MW (Zj p.mems) p a b d then(JK (Zj p.mems) p b d).1 else Md.JU),vb (Hv (Zj p.mems) p a b d),vb (MW (Zj p.mems) p a b d)]):=by
 have ca:=fun(A:List Blk) (nb:Nat)=>Z2l S dp hp hN hIa d A nb
 have cb:=fun(A:List Blk) (nb:Nat)=>Z2l S dp hp hN hIb d A nb
 obtain⟨a1,a2,a3,a4,a5⟩:=Z2k hp hN hIa d
 obtain⟨b1,b2,b3,b4,b5⟩:=Z2k hp hN hIb d
 unfold MW Hv
 generalize Md.Jx (Zj p.mems) p a d=x at ca ⊢
 generalize Md.Jx (Zj p.mems) p b d=y at cb ⊢
 generalize JK (Zj p.mems) p a d=X at *
 generalize JK (Zj p.mems) p b d=Y at *
 obtain⟨X,o⟩:=X
 obtain⟨Y,q⟩:=Y
 simp only at a1 a2 a3 a4 a5 b1 b2 b3 b4 b5
 have ho:o.length<1073741824:=by omega
 have cO:=fun(A:List Blk) (nb:Nat)=>Z6.flat (Zf5 S (dp+6) o q ho) (np S 50 (by decide)) rfl A nb
 simp only[ZD,ZX,ZV,YT] at ca cb
 unfold Z6
 show Zw (Z5 E fn (dp+7+1) 23 [.d (ZD p),.d (ZV a),.d (ZV b),.d (.agg [vi d.kind,vi d.n])] [])=_
 rw[ZU,S.Z7v,ZW,Zc3,ZY _ _ _ _ _ _ _ _ rfl]
 cases x<;>cases y
 ·by_cases hoq : o = q
  ·simp only[eG,go_sem,Z2 S,Z1 S,zN0,zN1,zN2,zN3,zN4,zI0,zI1,zI2,zI3,reduceCtorEq,P5 S,ca,cb,ho,cO,Bool.not_true,Bool.not_false,Jq,Jj,Jk,J9,beq_self_eq_true,Md.JU,eq_true hoq]
  ·simp only[eG,go_sem,Z2 S,Z1 S,zN0,zN1,zN2,zN3,zN4,zI0,zI1,zI2,zI3,reduceCtorEq,P5 S,ca,cb,ho,cO,Bool.not_true,Bool.not_false,Jq,Jj,Jk,J9,beq_self_eq_true,Md.JU,eq_false hoq]
 ·simp only[eG,go_sem,Z2 S,Z1 S,zN0,zN1,zN2,zN3,zN4,zI0,zI1,zI2,zI3,reduceCtorEq,P5 S,ca,cb,ho,cO,Bool.not_true,Bool.not_false,Jq,Jj,Jk,J9,beq_self_eq_true,Md.JU]
 ·simp only[eG,go_sem,Z2 S,Z1 S,zN0,zN1,zN2,zN3,zN4,zI0,zI1,zI2,zI3,reduceCtorEq,P5 S,ca,cb,ho,cO,Bool.not_true,Bool.not_false,Jq,Jj,Jk,J9,beq_self_eq_true,Md.JU]
 ·by_cases hoq : o = q
  ·simp only [eG, go_sem, Z2 S, Z1 S, zN0, zN1, zN2, zN3, zN4, zI0, zI1, zI2, zI3, reduceCtorEq, P5 S, ca, cb, ho, cO, Bool.not_true, Bool.not_false, Jq, Jj, Jk, J9, beq_self_eq_true, Md.JU, eq_true hoq]
   rfl
  ·simp only[eG,go_sem,Z2 S,Z1 S,zN0,zN1,zN2,zN3,zN4,zI0,zI1,zI2,zI3,reduceCtorEq,P5 S,ca,cb,ho,cO,Bool.not_true,Bool.not_false,Jq,Jj,Jk,J9,beq_self_eq_true,Md.JU,eq_false hoq]
end
theorem Zcm {l:List Int}{k:Nat}{x:Int}(h:(l.take 40)[k]? =some x):l[k]? =some x/\k<40/\k<l.length:=by
 rw[List.getElem?_take] at h
 split at h
 ·rename_i hk;exact⟨h,hk,(List.getElem?_eq_some_iff.1 h).1⟩
 ·cases h
variable {E:Env} {fn:FuncId->Option (Env->cT->cT)}
section
variable (S:Sur E fn)
include S
theorem Gw:E.lives 10 1=none/\E.lives 10 21=none:=⟨off S 10 1 (by decide) rfl,off S 10 21 (by decide) rfl⟩
theorem Zj4 (dp:Nat){p:Prog}(hp:Md.Fine p)(hil:p.ins.length<=5)(hml:p.mems.length<1000)(hN:Zj p.mems<=1000)(l:List Int)(kx:Nat->K)(P:Option DV->Prop)
  (hx:∀ T x y,ZE .bot T 8=.ref 1 0 0->ZE .bot T 9=.ref 2 0 0->ZE .bot T 10=.ref 3 0 0->ZE .bot T 11=.ref 4 0 0->Md.Inv (Zj p.mems) p x->Md.Inv (Zj p.mems) p y->P (Zw (kx 0 (mk .bot 64 T) [.cells ((ZX p).map .d) 0 false,.cells [zi,zi,zi,zi,zn,zn,zi,zn,zn,zi] 0 false,.cells [zi,zi,zi,zi,zn,zn,zi,zn,zn,zi] 0 false,.cells ((YT x).map .d) 0 false,.cells ((YT y).map .d) 0 false]))):
  ∀(m k f:Nat) (x y:Conf),Md.Inv (Zj p.mems) p x->Md.Inv (Zj p.mems) p y->k+m=(l.take 40).length->m<=f->
  P (Zw (K5 (Zq E 10) (Z5 E fn (dp+8)) (Z9 8 K5 (Zq E 10) (Z5 E fn (dp+8)) kx (Y0 0 [.cell 8 true 10,.cell 9 true 10]) f) kx (Y0 0 [.cell 8 true 10,.cell 9 true 10]) (mk .bot 64 [(3,.d (rD l)),(4,.ref 0 0 0),(8,.ref 1 0 0),(9,.ref 2 0 0),(10,.ref 3 0 0),(11,.ref 4 0 0),(12,aI k)]) [.cells ((ZX p).map .d) 0 false,.cells [zi,zi,zi,zi,zn,zn,zi,zn,zn,zi] 0 false,.cells [zi,zi,zi,zi,zn,zn,zi,zn,zn,zi] 0 false,.cells ((YT x).map .d) 0 false,.cells ((YT y).map .d) 0 false])):=by
 intro m
 have hlen:(l.take 40).length=min 40 l.length:=List.length_take
 induction m with
 | zero=>
  intro k f x y hIx hIy hk _
  generalize Z9 8 K5 _ _ kx _ f=KK
  first | (conv=>lhs;rw[K5]) | rw[K5]
  by_cases hkl:(k:Int)<l.length
  ·have h60 : ¬ (k : Int) < 40 := by omega
   simp only[eG,go_sem,Z2 S,Z1 S,zN0,zN1,zN2,zN3,zN4,zI0,zI1,zI2,zI3,reduceCtorEq,Gw S,hkl,h60]
   exact hx _ x y rfl rfl rfl rfl hIx hIy
  ·simp only [eG, go_sem, Z2 S, Z1 S, zN0, zN1, zN2, zN3, zN4, zI0, zI1, zI2, zI3, reduceCtorEq, Gw S, hkl]
   exact hx _ x y rfl rfl rfl rfl hIx hIy
 | succ m ih=>
  intro k f x y hIx hIy hk hf
  obtain⟨v,hx0⟩:=QB (show k<(l.take 40).length by omega)
  obtain⟨hxk,h60,hkl⟩:=Zcm hx0
  have hkl':(k:Int)<l.length:=by omega
  have h60':(k:Int)<40:=by omega
  obtain⟨f,rfl⟩:∃ g,f=g+1:=⟨f-1,by omega⟩
  have cA:=fun(A:List Blk) (nb:Nat)=>Z6.deep (Zdh S dp hp hil hml hN hIx hIy) (np S 20 (by decide)) A nb
  generalize hD:Hj (Zj p.mems) p x y=d at cA
  generalize hK:Z9 8 K5 _ _ kx _ (f+1)=KK
  first | (conv=>lhs;rw[K5]) | rw[K5]
  by_cases hd:d=[]
  ·subst hd
   simp only[ZD,ZX,ZV,YT] at cA
   simp only[eG,go_sem,Z2 S,Z1 S,zN0,zN1,zN2,zN3,zN4,zI0,zI1,zI2,zI3,reduceCtorEq,Gw S,hkl',h60',cA,List.length_nil]
   exact hx _ x y rfl rfl rfl rfl hIx hIy
  ·have hdl : d.length ≠ 0 := fun h => hd (List.length_eq_zero_iff.1 h)
   have hdl':¬(d.length:Int)=0:=by omega
   have hix:=Md.Z5a v (show 0<d.length by omega)
   obtain⟨dd,hdd⟩:=QB hix
   have hrem:Q4 .rem (aI (Md.YK v 65535)) (aI d.length)=some (aI (Md.S4 v d.length:Nat)):=by
    rw[<-Md.Zjn];exact Z17 _ _ _ hdl'
   have cS:=fun(A:List Blk) (nb:Nat)=>Z6.deep (Zdf S dp hp hml hN hIx hIy dd) (np S 23 (by decide)) A nb
   cases hok:MW (Zj p.mems) p x y dd with
   | false=>
    rw[hok,cond_false,cond_false] at cS
    generalize Hv (Zj p.mems) p x y dd=sb at cS
    have next:=ih (k+1) f x y hIx hIy (by omega) (by omega)
    simp only[ZD,ZX,ZV,YT] at cA cS
    simp only[eG,go_sem,Z2 S,Z1 S,zN0,zN1,zN2,zN3,zN4,zI0,zI1,zI2,zI3,reduceCtorEq,Gw S,hkl',h60',cA,hdl',Zv hxk,QE,hrem,Zv hdd,cS,Bool.not_true,wi k (by omega),Jq,Jj,Jk,J9]
    rw[<-hK,Z7 (on S _ _ [3,4,8,9,10,11,12] (by decide) rfl) rfl _ _ _ _ _ _ _ _ _ rfl]
    simp only[eG,go_sem,Z2 S,Z1 S,zN0,zN1,zN2,zN3,zN4,zI0,zI1,zI2,zI3,reduceCtorEq,Gw S]
    exact next
   | true=>
    have hc:Md.Jx (Zj p.mems) p x dd=true:=by
     have:=hok;unfold MW at this;simp only[Bool.and_eq_true] at this;exact this.2
    have hc2:Md.Jx (Zj p.mems) p y dd=true:=by
     have:=hok;unfold MW Hv at this;simp only[Bool.and_eq_true,beq_iff_eq] at this
     rw[<-this.1.1];exact hc
    have e1:JK (Zj p.mems) p x dd=Md.say (Zj p.mems) p x dd:=by unfold JK;rw[hc];rfl
    have e2:JK (Zj p.mems) p y dd=Md.say (Zj p.mems) p y dd:=by unfold JK;rw[hc2];rfl
    have hIx':=hIx.said hp dd hc
    have hIy':=hIy.said hp dd hc2
    rw[hok,cond_true,cond_true,e1,e2] at cS
    generalize Hv (Zj p.mems) p x y dd=sb at cS
    generalize (Md.say (Zj p.mems) p x dd).1=X at *
    generalize (Md.say (Zj p.mems) p y dd).1=Y at *
    have next:=ih (k+1) f X Y hIx' hIy' (by omega) (by omega)
    simp only[ZD,ZX,ZV,YT] at cA cS
    simp only[eG,go_sem,Z2 S,Z1 S,zN0,zN1,zN2,zN3,zN4,zI0,zI1,zI2,zI3,reduceCtorEq,Gw S,hkl',h60',cA,hdl',Zv hxk,QE,hrem,Zv hdd,cS,Bool.not_true,wi k (by omega),Jq,Jj,Jk,J9]
    rw[<-hK,Z7 (on S _ _ [3,4,8,9,10,11,12] (by decide) rfl) rfl _ _ _ _ _ _ _ _ _ rfl]
    simp only[eG,go_sem,Z2 S,Z1 S,zN0,zN1,zN2,zN3,zN4,zI0,zI1,zI2,zI3,reduceCtorEq,Gw S]
    exact next
theorem Zdi (dp:Nat){p:Prog}(hp:Md.Fine p)(hil:p.ins.length<=5)(hml:p.mems.length<1000)(hN:Zj p.mems<=1000)(a b:State)(hIa:Md.Inv (Zj p.mems) p (Md.K2 a))(hIb:Md.Inv (Zj p.mems) p (Md.K2 b))(l:List Int):
  ∃ x y:Conf,Z6 E fn (dp+9) 10 [ZD p,A4 a,A4 b,rD l] (.tup [ZV x,ZV y])/\Md.Inv (Zj p.mems) p x/\Md.Inv (Zj p.mems) p y:=by
 obtain⟨P,hP⟩:∃ P:Option DV->Prop,P=fun r=>∃ x y:Conf,r=some (.tup [ZV x,ZV y])/\Md.Inv (Zj p.mems) p x/\Md.Inv (Zj p.mems) p y:=⟨_,rfl⟩
 have fin:∀(x y:Conf),Md.Inv (Zj p.mems) p x->Md.Inv (Zj p.mems) p y->P (some (.tup [ZV x,ZV y])):=fun x y h1 h2=>by rw[hP];exact⟨x,y,rfl,h1,h2⟩
 have key:P (Zw (Z5 E fn (dp+8+1) 10 [.d (ZD p),.d (A4 a),.d (A4 b),.d (rD l)] [])):=by
  clear hP
  rw[ZU,S.Z66,ZW,Zae,ZY _ _ _ _ _ _ _ _ rfl]
  simp only[eG,go_sem,Z2 S,Z1 S,zN0,zN1,zN2,zN3,zN4,zI0,zI1,zI2,zI3,reduceCtorEq,Gw S,Zme S]
  rw[Y2,Z7 (on S _ _ [3,4,8,9,10,11,12] (by decide) rfl) rfl _ _ _ _ _ _ _ _ _ rfl]
  simp only[eG,go_sem,Z2 S,Z1 S,zN0,zN1,zN2,zN3,zN4,zI0,zI1,zI2,zI3,reduceCtorEq,Gw S]
  refine Zj4 S dp hp hil hml hN l _ P ?_ (l.take 40).length 0 _ (Md.K2 a) (Md.K2 b) hIa hIb (by omega) (by rw[List.length_take];omega)
  intro T x y t8 t9 t10 t11 hIx hIy
  have fin:=fin x y hIx hIy
  simp only[ZV,YT] at fin
  simp only[eG,go_sem,Z2 S,Z1 S,zN0,zN1,zN2,zN3,zN4,zI0,zI1,zI2,zI3,reduceCtorEq,Gw S,t8,t9,t10,t11,Jq,Jj,Jk,J9]
  exact fin
 rw[hP] at key
 obtain⟨x,y,h1,h2,h3⟩:=key
 exact⟨x,y,h1,h2,h3⟩
end
end Go.Aug.Mc
