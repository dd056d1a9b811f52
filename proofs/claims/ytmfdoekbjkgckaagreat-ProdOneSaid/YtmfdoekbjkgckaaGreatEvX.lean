import Derived.Test.YtmfdoekbjkgckaaGreatEvZ
namespace Go.Aug
open Go
def G5:Nat->List Nat->Bool
 | _,[]=>true
 | k,t::l=>Nat.ble k t&&G5 (t+1) l
theorem Z79 {d:AV}:∀ {l:List Nat} {g:Nat->AV} {k i:Nat},G5 k l=true->i<k->ZS d (l.map fun t=>(t,g t)) i=d
 | [],_,_,_,_,_=>rfl
 | t::l,g,k,i,h,hi=>by
  simp only[G5,Bool.and_eq_true] at h
  have:=Nat.le_of_ble_eq_true h.1
  simp only[List.map_cons,ZS]
  rw[if_neg (by omega)]
  exact Z79 h.2 (by omega)
theorem VH (f:AV->AV)(d:AV)(S:List (Nat×AV)):∀(n k:Nat) (l:List Nat),G5 k l=true->Hq f k l (CC d S n k)=CC .bot (l.map fun t=>(t,f (ZS d S t))) n k
 | 0,k,l,_=>by cases l<;>rfl
 | n+1,k,[],_=>by
  simp only[CC,Hq]
  rw[VH f d S n (k+1) [] rfl]
  rfl
 | n+1,k,t::l,h=>by
  simp only[G5,Bool.and_eq_true] at h
  have hk:=Nat.le_of_ble_eq_true h.1
  simp only[CC,Hq]
  cases hb:Nat.beq k t with
  | true=>
   have:=Nat.eq_of_beq_eq_true hb
   subst this
   simp only[cond_true]
   rw[VH f d S n (k+1) l h.2]
   simp only[List.map_cons,ZS,if_true]
   congr 1
   refine Uq _ _ _ _ n (k+1) fun i h1 _=> ?_
   simp only[ZS]
   rw[if_neg (by omega)]
  | false=>
   have hne:k≠t:=fun e=>by subst e;simp at hb
   simp only[cond_false]
   have ha:G5 (k+1) (t::l)=true:=by simp only[G5,Bool.and_eq_true];exact⟨Nat.ble_eq_true_of_le (by omega),h.2⟩
   rw[VH f d S n (k+1) (t::l) ha]
   congr 1
   exact(Z79 (g:=fun t=>f (ZS d S t)) ha (by omega)).symm
theorem Z66 (f:AV->AV)(d:AV)(N:Nat)(S:List (Nat×AV))(l:List Nat)(h:G5 0 l=true):Hq f 0 l (mk d N S)=mk .bot N (l.map fun t=>(t,f (ZS d S t))):=
 VH f d S N 0 l h
theorem Zhg (A:List Blk)(n0 k:Nat):Q8 A n0 k [] []=[]:=by cases k<;>rfl
@[go_sem] theorem Zx4 (n:Nat) (x:DV):YW (n+1) (.d x)=[]:=id rfl
@[go_sem] theorem Zx0 (n i v o:Nat):YW (n+1) (.ref i v o)=[i]:=id rfl
@[go_sem] theorem Zwu (n i v o len sz:Nat) (k:Option Nat):YW (n+1) (.sref i v o len sz k)=[i]:=id rfl
@[go_sem] theorem Zx7 (n:Nat) (cs:List AV):YW (n+1) (.agg cs)=cs.flatMap (YW n):=id rfl
@[go_sem] theorem Zws (n:Nat) (cs:List AV):YW (n+1) (.tup cs)=cs.flatMap (YW n):=id rfl
@[go_sem] theorem Zx6 (n:Nat):YW (n+1) .bot=[]:=id rfl
@[go_sem] theorem Zx5 (cs:List AV) (v:Nat) (ro:Bool):Dj (some (.cells cs v ro))=cs.flatMap (YW 8):=id rfl
@[go_sem] theorem Zoz (A:List Blk) (n0 k:Nat) (seen:List Nat):Q8 A n0 k [] seen=seen:=by cases k<;>rfl
theorem P8 (A:List Blk)(n0 k i:Nat)(todo seen:List Nat):Q8 A n0 (k+1) (i::todo) seen=
  if i<n0∨i ∈ seen∨A.length<=i then Q8 A n0 k todo seen else Q8 A n0 k (todo++Dj A[i]?) (seen++[i]):=by
 show(bif Nat.blt i n0 || Yj i seen || !Nat.blt i A.length then _ else _)=_
 have h1:Nat.blt i n0=decide (i<n0):=by
  by_cases h:i<n0
  ·rw[decide_eq_true h];exact Nat.ble_eq_true_of_le h
  ·rw [decide_eq_false h]
   cases hb:Nat.blt i n0 with
   | false=>rfl
   | true=>exact absurd (Nat.le_of_ble_eq_true hb) h
 have h2:Nat.blt i A.length=decide (i<A.length):=by
  by_cases h:i<A.length
  ·rw[decide_eq_true h];exact Nat.ble_eq_true_of_le h
  ·rw [decide_eq_false h]
   cases hb:Nat.blt i A.length with
   | false=>rfl
   | true=>exact absurd (Nat.le_of_ble_eq_true hb) h
 have h3:Yj i seen=decide (i ∈ seen):=by
  clear h1 h2
  induction seen with
  | nil=>rfl
  | cons m l ih=>
   rw[Zmu,ih]
   by_cases h:i=m
   ·simp[h]
   ·simp[h]
 rw[h1,h2,h3]
 by_cases a:i<n0<;>by_cases b:i ∈ seen<;>by_cases c:i<A.length<;>simp[a,b,c,Nat.not_le.2,Nat.not_lt.1]<;>omega
@[go_sem] theorem Zx2 (i:Nat):QQ [] i=none:=id rfl
@[go_sem] theorem Zx1 (j:Nat) (l:List Nat) (i:Nat):QQ (j::l) i=if j=i then some 0 else(QQ l i).map (·+1):=by
 show(bif Nat.beq j i then some 0 else(QQ l i).map (·+1))=_
 by_cases h:j=i
 ·subst h;simp
 ·have:Nat.beq j i=false:=by
   cases hb:Nat.beq j i with
   | false=>rfl
   | true=>exact absurd (Nat.eq_of_beq_eq_true hb) h
  rw[this,if_neg h];rfl
def Z3o (v:Nat):Option Blk->Option Nat->Option (Nat×Nat)
 | some (.cells _ v' _),some m=>if v'=v then some (m,0) else none
 | some (.iter _ _),some m=>if 0=v then some (m,0) else none
 | _,_=>none
@[go_sem] theorem Zwv (v v':Nat) (cs:List AV) (ro:Bool) (m:Nat):Z3o v (some (.cells cs v' ro)) (some m)=if v'=v then some (m,0) else none:=id rfl
@[go_sem] theorem Zww (A:List Blk) (ids:List Nat) (i v:Nat):spot A 0 ids i v=Z3o v A[i]? (QQ ids i):=by
 have h1:Nat.blt i 0=false:=by
  cases hq:Nat.blt i 0 with
  | false=>rfl
  | true=>exact absurd (Nat.le_of_ble_eq_true hq) (by omega)
 show(bif Nat.blt i 0 then _ else _)=_
 rw[h1,cond_false]
 unfold QS
 cases A[i]? with
 | none=>rfl
 | some b=>
  cases b with
  | cells cs v' ro=>
   cases QQ ids i with
   | none=>rfl
   | some m=>
    show(bif Nat.beq v' v then some (0+m,0) else none)=if v'=v then some (m,0) else none
    by_cases h:v'=v
    ·subst h;simp
    ·have:Nat.beq v' v=false:=by
      cases hb:Nat.beq v' v with
      | false=>rfl
      | true=>exact absurd (Nat.eq_of_beq_eq_true hb) h
     rw[this,if_neg h];rfl
  | iter s p=>
   cases QQ ids i with
   | none=>rfl
   | some m=>
    show(bif Nat.beq 0 v then some (0+m,0) else none)=if 0=v then some (m,0) else none
    by_cases h:0=v
    ·subst h;simp
    ·have:Nat.beq 0 v=false:=by
      cases hb:Nat.beq 0 v with
      | false=>rfl
      | true=>exact absurd (Nat.eq_of_beq_eq_true hb) h
     rw[this,if_neg h];rfl
  | free=>rfl
def Z4i (o:Nat):Option (Nat×Nat)->AV
 | some p=>.ref p.1 p.2 o
 | none=>.bot
def Z3n (o len sz:Nat)(k:Option Nat):Option (Nat×Nat)->AV
 | some p=>.sref p.1 p.2 o len sz k
 | none=>.bot
@[go_sem] theorem Zwz (o:Nat) (p:Nat×Nat):Z4i o (some p)=.ref p.1 p.2 o:=id rfl
@[go_sem] theorem Zwt (o len sz:Nat) (k:Option Nat) (p:Nat×Nat):Z3n o len sz k (some p)=.sref p.1 p.2 o len sz k:=id rfl
@[go_sem] theorem Zsy (A:List Blk) (n0:Nat) (ids:List Nat) (n i v o:Nat):Yz A n0 ids (n+1) (.ref i v o)=Z4i o (spot A n0 ids i v):=by
 show(match spot A n0 ids i v with | some p=>AV.ref p.1 p.2 o | none=>.bot)=_
 cases spot A n0 ids i v<;>rfl
@[go_sem] theorem Zsx (A:List Blk) (n0:Nat) (ids:List Nat) (n i v o len sz:Nat) (k:Option Nat):Yz A n0 ids (n+1) (.sref i v o len sz k)=Z3n o len sz k (spot A n0 ids i v):=by
 show(match spot A n0 ids i v with | some p=>AV.sref p.1 p.2 o len sz k | none=>.bot)=_
 cases spot A n0 ids i v<;>rfl
@[go_sem] theorem Zt2 (A:List Blk) (n0:Nat) (ids:List Nat) (n:Nat) (cs:List AV):Yz A n0 ids (n+1) (.agg cs)=.agg (cs.map (Yz A n0 ids n)):=id rfl
@[go_sem] theorem Zsw (A:List Blk) (n0:Nat) (ids:List Nat) (n:Nat) (cs:List AV):Yz A n0 ids (n+1) (.tup cs)=.tup (cs.map (Yz A n0 ids n)):=id rfl
@[go_sem] theorem Zt1 (A:List Blk) (n0:Nat) (ids:List Nat) (n:Nat):Yz A n0 ids (n+1) .bot=.bot:=id rfl
def Z4c (A:List Blk)(ids:List Nat):Option Blk->Blk
 | some b=>BG A 0 ids false b
 | none=>.free
@[go_sem] theorem Zwx (A:List Blk) (ids:List Nat) (cs:List AV) (v:Nat) (ro:Bool):Z4c A ids (some (.cells cs v ro))=.cells (cs.map (Yz A 0 ids 8)) 0 ro:=id rfl
@[go_sem] theorem Zwy (A:List Blk) (ids:List Nat):Yq A 0 ids=ids.map fun i=>Z4c A ids A[i]? :=by
 unfold Yq
 simp only[List.take_zero,List.map_nil,List.nil_append]
 refine List.map_congr_left fun i _=> ?_
 rw[List.getD_eq_getElem?_getD]
 cases A[i]? <;>rfl
attribute [go_sem] Z4g Z4a List.flatMap_cons List.flatMap_nil List.map_map
theorem Zmd (E:Env)(f:FuncId)(key:Nat)(l:List Nat)(hl:E.lives f key=some l)(ha:G5 0 l=true)(k:K)(d:AV)(N:Nat)(S:List (Nat×AV))(A:List Blk)(hN:∀ t ∈ l,t<N):
  CZ { br:=E.br,th:=E.th,prim:=E.prim,back:=E.back,lives:=E.lives,live:=E.lives f,nb0:=0 } key k (mk d N S) A=
   k (mk .bot N (l.map fun t=>(t,Yz A 0 (Q8 A 0 100000 (l.flatMap fun t=>YW 8 (ZS d S t)) []) 8 (ZS d S t)))) (Yq A 0 (Q8 A 0 100000 (l.flatMap fun t=>YW 8 (ZS d S t)) [])):=by
 unfold CZ
 simp only[hl]
 unfold VB Sv
 have e:(l.flatMap fun t=>YW 8 (Y6 (mk d N S) t))=l.flatMap fun t=>YW 8 (ZS d S t):=by
  clear ha hl
  induction l with
  | nil=>rfl
  | cons t l ih=>
   rw[List.flatMap_cons,List.flatMap_cons,VA _ _ _ _ (hN t (by simp)),ih (fun t ht=>hN t (by simp[ht]))]
 simp only[List.take_zero,List.flatMap_nil,List.append_nil,e]
 rw[Z66 _ _ _ _ _ ha]
class Cl (α:Type) where
 n:Nat
 cells:α->List DV
 len:∀ a,(cells a).length=n
def rC {α:Type} [Cl α] (l:List α):List DV:=l.flatMap Cl.cells
def rD {α:Type} [Cl α] (l:List α):DV:=.lst (rC l) l.length none
theorem QN {α:Type} [Cl α]:∀ l:List α,(rC l).length=l.length*Cl.n α
 | []=>by simp[rC]
 | a::l=>by
  have:=QN l
  unfold rC at this ⊢
  rw[List.flatMap_cons,List.length_append,this,Cl.len,List.length_cons,Nat.add_mul];omega
theorem XF {α:Type} [Cl α]:∀(l:List α) (i:Nat),(rC l).drop (i*Cl.n α)=rC (l.drop i)
 | [],i=>by simp[rC]
 | a::l,0=>by simp
 | a::l,i+1=>by
  have e:rC (a::l)=Cl.cells a++rC l:=rfl
  have e2:(i+1)*Cl.n α=(Cl.cells a).length+i*Cl.n α:=by rw[Cl.len,Nat.add_mul];omega
  rw[e,e2,<-List.drop_drop,List.drop_left,XF l i]
  rfl
theorem Sw {α:Type} [Cl α]:∀(l:List α) (i:Nat),(rC l).take (i*Cl.n α)=rC (l.take i)
 | [],i=>by simp[rC]
 | a::l,0=>by simp[rC]
 | a::l,i+1=>by
  have e:rC (a::l)=Cl.cells a++rC l:=rfl
  have e2:(i+1)*Cl.n α=(Cl.cells a).length+i*Cl.n α:=by rw[Cl.len,Nat.add_mul];omega
  rw[e,e2,List.take_length_add_append,Sw l i]
  rfl
theorem XG {α:Type} [Cl α] {l:List α}{i:Nat}(h:i<l.length):(rC l).drop (i*Cl.n α)=Cl.cells l[i]++rC (l.drop (i+1)):=by
 rw[XF,List.drop_eq_getElem_cons h];rfl
theorem Z6t {α:Type} [Cl α] {l:List α}{i:Nat}(h:i<l.length){s:Nat}(hs:s=Cl.n α)(k:Option Nat)(kk:IntKind):
  ES (.d (.lst (rC l) l.length k)) (.d (.v (.int kk (i:Int)))) s=some (.d (.vptr (Cl.cells l[i]++rC (l.drop (i+1))))):=by
 subst hs
 show(if 0<=(i:Int)/\(i:Int)<(l.length:Int)/\(i:Int).toNat*Cl.n α<=(rC l).length then _ else _)=_
 rw[if_pos ⟨by omega,by omega,by rw[QN];simp;exact Nat.mul_le_mul_right _ (Nat.le_of_lt h)⟩]
 rw[Int.toNat_natCast,XG h]
theorem PW {α:Type} [Cl α] {s:Nat}(hs:s=Cl.n α)(a:α)(r:List DV):C0 true s (Cl.cells a++r)=some (.agg (Cl.cells a)):=by
 subst hs
 show(if Cl.n α<=(Cl.cells a++r).length then some (DV.agg ((Cl.cells a++r).take (Cl.n α))) else none)=_
 rw[if_pos (by simp[Cl.len]),<-Cl.len a,List.take_left]
@[go_sem] theorem Zt0 (A:List Blk) (n0:Nat) (ids:List Nat) (n:Nat) (x:DV):Yz A n0 ids (n+1) (.d x)=.d x:=id rfl
theorem Zaw (key:Nat)(c:CT)(E:Env)(call:cT)(kx:Nat->K)(kr:K)(n:Nat)(tm:List AV)(A:List Blk):
  Z9 key c E call kx kr (n+1) tm A=CZ E key (c E call (Z9 key c E call kx kr n) kx kr) tm A:=id rfl
end Go.Aug
