import Derived.Test.YtmfdoekbjkgckaaGreatEvZ
namespace Go.Aug
open Go
def GF:Nat->List Nat->Bool
 | _,[]=>true
 | k,t::l=>Nat.ble k t&&GF (t+1) l
theorem Z3r {d:AV}:∀ {l:List Nat} {g:Nat->AV} {k i:Nat},GF k l=true->i<k->ZG d (l.map fun t=>(t,g t)) i=d
 | [],_,_,_,_,_=>rfl
 | t::l,g,k,i,h,hi=>by
  simp only[GF,Bool.and_eq_true] at h
  have:=Nat.le_of_ble_eq_true h.1
  simp only[List.map_cons,ZG]
  rw[if_neg (by omega)]
  exact Z3r h.2 (by omega)
theorem T5 (f:AV->AV)(d:AV)(S:List (Nat×AV)):∀(n k:Nat) (l:List Nat),GF k l=true->FW f k l (AX d S n k)=AX .bot (l.map fun t=>(t,f (ZG d S t))) n k
 | 0,k,l,_=>by cases l<;>rfl
 | n+1,k,[],_=>by
  simp only[AX,FW]
  rw[T5 f d S n (k+1) [] rfl]
  rfl
 | n+1,k,t::l,h=>by
  simp only[GF,Bool.and_eq_true] at h
  have hk:=Nat.le_of_ble_eq_true h.1
  simp only[AX,FW]
  cases hb:Nat.beq k t with
  | true=>
   have:=Nat.eq_of_beq_eq_true hb
   subst this
   simp only[cond_true]
   rw[T5 f d S n (k+1) l h.2]
   simp only[List.map_cons,ZG,if_true]
   congr 1
   refine S5 _ _ _ _ n (k+1) fun i h1 _=> ?_
   simp only[ZG]
   rw[if_neg (by omega)]
  | false=>
   have hne:k≠t:=fun e=>by subst e;simp at hb
   simp only[cond_false]
   have ha:GF (k+1) (t::l)=true:=by simp only[GF,Bool.and_eq_true];exact⟨Nat.ble_eq_true_of_le (by omega),h.2⟩
   rw[T5 f d S n (k+1) (t::l) ha]
   congr 1
   exact(Z3r (g:=fun t=>f (ZG d S t)) ha (by omega)).symm
theorem Zei (f:AV->AV)(d:AV)(N:Nat)(S:List (Nat×AV))(l:List Nat)(h:GF 0 l=true):FW f 0 l (mk d N S)=mk .bot N (l.map fun t=>(t,f (ZG d S t))):=
 T5 f d S N 0 l h
theorem Zal (A:List Blk)(n0 k:Nat):Q1 A n0 k [] []=[]:=by cases k<;>rfl
@[go_sem] theorem Zo7 (n:Nat) (x:DV):YT (n+1) (.d x)=[]:=id rfl
@[go_sem] theorem Zo2 (n i v o:Nat):YT (n+1) (.ref i v o)=[i]:=id rfl
@[go_sem] theorem Znw (n i v o len sz:Nat) (k:Option Nat):YT (n+1) (.sref i v o len sz k)=[i]:=id rfl
@[go_sem] theorem Zoa (n:Nat) (cs:List AV):YT (n+1) (.agg cs)=cs.flatMap (YT n):=id rfl
@[go_sem] theorem Znu (n:Nat) (cs:List AV):YT (n+1) (.tup cs)=cs.flatMap (YT n):=id rfl
@[go_sem] theorem Zo9 (n:Nat):YT (n+1) .bot=[]:=id rfl
@[go_sem] theorem Zo8 (cs:List AV) (v:Nat) (ro:Bool):DC (some (.cells cs v ro))=cs.flatMap (YT 8):=id rfl
@[go_sem] theorem Zo3 (A:List Blk) (n0 k:Nat) (seen:List Nat):Q1 A n0 k [] seen=seen:=by cases k<;>rfl
theorem Mv (A:List Blk)(n0 k i:Nat)(todo seen:List Nat):Q1 A n0 (k+1) (i::todo) seen=
  if i<n0∨i ∈ seen∨A.length<=i then Q1 A n0 k todo seen else Q1 A n0 k (todo++DC A[i]?) (seen++[i]):=by
 show(bif Nat.blt i n0 || ZW i seen || !Nat.blt i A.length then _ else _)=_
 have h1:Nat.blt i n0=decide (i<n0):=by
  by_cases h:i<n0
  ·rw[decide_eq_true h];exact Nat.ble_eq_true_of_le h
  ·rw [decide_eq_false h]
   cases hb:Nat.blt i n0 with
   | false=>rfl
   | true=>exact absurd (Nat.le_of_ble_eq_true hb) h
 have h2:Nat.blt i A.length=decide (i<A.length):=by
  by_cases h:i<A.length
  ·rw[decide_eq_true h];exact Nat.ble_eq_true_of_le h
  ·rw [decide_eq_false h]
   cases hb:Nat.blt i A.length with
   | false=>rfl
   | true=>exact absurd (Nat.le_of_ble_eq_true hb) h
 have h3:ZW i seen=decide (i ∈ seen):=by
  clear h1 h2
  induction seen with
  | nil=>rfl
  | cons m l ih=>
   rw[Zed,ih]
   by_cases h:i=m
   ·simp[h]
   ·simp[h]
 rw[h1,h2,h3]
 by_cases a:i<n0<;>by_cases b:i ∈ seen<;>by_cases c:i<A.length<;>simp[a,b,c,Nat.not_le.2,Nat.not_lt.1]<;>omega
@[go_sem] theorem Zo5 (i:Nat):Q8 [] i=none:=id rfl
@[go_sem] theorem Zo4 (j:Nat) (l:List Nat) (i:Nat):Q8 (j::l) i=if j=i then some 0 else(Q8 l i).map (·+1):=by
 show(bif Nat.beq j i then some 0 else(Q8 l i).map (·+1))=_
 by_cases h:j=i
 ·subst h;simp
 ·have:Nat.beq j i=false:=by
   cases hb:Nat.beq j i with
   | false=>rfl
   | true=>exact absurd (Nat.eq_of_beq_eq_true hb) h
  rw[this,if_neg h];rfl
def Z09 (v:Nat):Option Blk->Option Nat->Option (Nat×Nat)
 | some (.cells _ v' _),some m=>if v'=v then some (m,0) else none
 | some (.iter _ _),some m=>if 0=v then some (m,0) else none
 | _,_=>none
@[go_sem] theorem Znx (v v':Nat) (cs:List AV) (ro:Bool) (m:Nat):Z09 v (some (.cells cs v' ro)) (some m)=if v'=v then some (m,0) else none:=id rfl
@[go_sem] theorem Zny (A:List Blk) (ids:List Nat) (i v:Nat):spot A 0 ids i v=Z09 v A[i]? (Q8 ids i):=by
 have h1:Nat.blt i 0=false:=by
  cases hq:Nat.blt i 0 with
  | false=>rfl
  | true=>exact absurd (Nat.le_of_ble_eq_true hq) (by omega)
 show(bif Nat.blt i 0 then _ else _)=_
 rw[h1,cond_false]
 unfold Q4
 cases A[i]? with
 | none=>rfl
 | some b=>
  cases b with
  | cells cs v' ro=>
   cases Q8 ids i with
   | none=>rfl
   | some m=>
    show(bif Nat.beq v' v then some (0+m,0) else none)=if v'=v then some (m,0) else none
    by_cases h:v'=v
    ·subst h;simp
    ·have:Nat.beq v' v=false:=by
      cases hb:Nat.beq v' v with
      | false=>rfl
      | true=>exact absurd (Nat.eq_of_beq_eq_true hb) h
     rw[this,if_neg h];rfl
  | iter s p=>
   cases Q8 ids i with
   | none=>rfl
   | some m=>
    show(bif Nat.beq 0 v then some (0+m,0) else none)=if 0=v then some (m,0) else none
    by_cases h:0=v
    ·subst h;simp
    ·have:Nat.beq 0 v=false:=by
      cases hb:Nat.beq 0 v with
      | false=>rfl
      | true=>exact absurd (Nat.eq_of_beq_eq_true hb) h
     rw[this,if_neg h];rfl
  | free=>rfl
def Z1b (o:Nat):Option (Nat×Nat)->AV
 | some p=>.ref p.1 p.2 o
 | none=>.bot
def Z08 (o len sz:Nat)(k:Option Nat):Option (Nat×Nat)->AV
 | some p=>.sref p.1 p.2 o len sz k
 | none=>.bot
@[go_sem] theorem Zo1 (o:Nat) (p:Nat×Nat):Z1b o (some p)=.ref p.1 p.2 o:=id rfl
@[go_sem] theorem Znv (o len sz:Nat) (k:Option Nat) (p:Nat×Nat):Z08 o len sz k (some p)=.sref p.1 p.2 o len sz k:=id rfl
@[go_sem] theorem Zjy (A:List Blk) (n0:Nat) (ids:List Nat) (n i v o:Nat):YA A n0 ids (n+1) (.ref i v o)=Z1b o (spot A n0 ids i v):=by
 show(match spot A n0 ids i v with | some p=>AV.ref p.1 p.2 o | none=>.bot)=_
 cases spot A n0 ids i v<;>rfl
@[go_sem] theorem Zjx (A:List Blk) (n0:Nat) (ids:List Nat) (n i v o len sz:Nat) (k:Option Nat):YA A n0 ids (n+1) (.sref i v o len sz k)=Z08 o len sz k (spot A n0 ids i v):=by
 show(match spot A n0 ids i v with | some p=>AV.sref p.1 p.2 o len sz k | none=>.bot)=_
 cases spot A n0 ids i v<;>rfl
@[go_sem] theorem Zk3 (A:List Blk) (n0:Nat) (ids:List Nat) (n:Nat) (cs:List AV):YA A n0 ids (n+1) (.agg cs)=.agg (cs.map (YA A n0 ids n)):=id rfl
@[go_sem] theorem Zjw (A:List Blk) (n0:Nat) (ids:List Nat) (n:Nat) (cs:List AV):YA A n0 ids (n+1) (.tup cs)=.tup (cs.map (YA A n0 ids n)):=id rfl
@[go_sem] theorem Zk2 (A:List Blk) (n0:Nat) (ids:List Nat) (n:Nat):YA A n0 ids (n+1) .bot=.bot:=id rfl
def Z14 (A:List Blk)(ids:List Nat):Option Blk->Blk
 | some b=>AE A 0 ids false b
 | none=>.free
@[go_sem] theorem Znz (A:List Blk) (ids:List Nat) (cs:List AV) (v:Nat) (ro:Bool):Z14 A ids (some (.cells cs v ro))=.cells (cs.map (YA A 0 ids 8)) 0 ro:=id rfl
@[go_sem] theorem Zo0 (A:List Blk) (ids:List Nat):ZV A 0 ids=ids.map fun i=>Z14 A ids A[i]? :=by
 unfold ZV
 simp only[List.take_zero,List.map_nil,List.nil_append]
 refine List.map_congr_left fun i _=> ?_
 rw[List.getD_eq_getElem?_getD]
 cases A[i]? <;>rfl
attribute [go_sem] Z19 Z12 List.flatMap_cons List.flatMap_nil List.map_map
theorem Zdy (E:Env)(f:FuncId)(key:Nat)(l:List Nat)(hl:E.lives f key=some l)(ha:GF 0 l=true)(k:K)(d:AV)(N:Nat)(S:List (Nat×AV))(A:List Blk)(hN:∀ t ∈ l,t<N):
  C6 { br:=E.br,th:=E.th,prim:=E.prim,back:=E.back,lives:=E.lives,live:=E.lives f,nb0:=0 } key k (mk d N S) A=
   k (mk .bot N (l.map fun t=>(t,YA A 0 (Q1 A 0 100000 (l.flatMap fun t=>YT 8 (ZG d S t)) []) 8 (ZG d S t)))) (ZV A 0 (Q1 A 0 100000 (l.flatMap fun t=>YT 8 (ZG d S t)) [])):=by
 unfold C6
 simp only[hl]
 unfold Vw Sx
 have e:(l.flatMap fun t=>YT 8 (ZM (mk d N S) t))=l.flatMap fun t=>YT 8 (ZG d S t):=by
  clear ha hl
  induction l with
  | nil=>rfl
  | cons t l ih=>
   rw[List.flatMap_cons,List.flatMap_cons,Vz _ _ _ _ (hN t (by simp)),ih (fun t ht=>hN t (by simp[ht]))]
 simp only[List.take_zero,List.flatMap_nil,List.append_nil,e]
 rw[Zei _ _ _ _ _ ha]
class Cl (α:Type) where
 n:Nat
 cells:α->List DV
 len:∀ a,(cells a).length=n
def rC {α:Type} [Cl α] (l:List α):List DV:=l.flatMap Cl.cells
def rD {α:Type} [Cl α] (l:List α):DV:=.lst (rC l) l.length none
theorem QH {α:Type} [Cl α]:∀ l:List α,(rC l).length=l.length*Cl.n α
 | []=>by simp[rC]
 | a::l=>by
  have:=QH l
  unfold rC at this ⊢
  rw[List.flatMap_cons,List.length_append,this,Cl.len,List.length_cons,Nat.add_mul];omega
theorem UN {α:Type} [Cl α]:∀(l:List α) (i:Nat),(rC l).drop (i*Cl.n α)=rC (l.drop i)
 | [],i=>by simp[rC]
 | a::l,0=>by simp
 | a::l,i+1=>by
  have e:rC (a::l)=Cl.cells a++rC l:=rfl
  have e2:(i+1)*Cl.n α=(Cl.cells a).length+i*Cl.n α:=by rw[Cl.len,Nat.add_mul];omega
  rw[e,e2,<-List.drop_drop,List.drop_left,UN l i]
  rfl
theorem Px {α:Type} [Cl α]:∀(l:List α) (i:Nat),(rC l).take (i*Cl.n α)=rC (l.take i)
 | [],i=>by simp[rC]
 | a::l,0=>by simp[rC]
 | a::l,i+1=>by
  have e:rC (a::l)=Cl.cells a++rC l:=rfl
  have e2:(i+1)*Cl.n α=(Cl.cells a).length+i*Cl.n α:=by rw[Cl.len,Nat.add_mul];omega
  rw[e,e2,List.take_length_add_append,Px l i]
  rfl
theorem Za8 {α:Type} [Cl α] {l:List α}{i:Nat}(h:i<l.length):(rC l).drop (i*Cl.n α)=Cl.cells l[i]++rC (l.drop (i+1)):=by
 rw[UN,List.drop_eq_getElem_cons h];rfl
theorem VS {α:Type} [Cl α] {l:List α}{i:Nat}(h:i<l.length){s:Nat}(hs:s=Cl.n α)(k:Option Nat)(kk:IntKind):
  BE (.d (.lst (rC l) l.length k)) (.d (.v (.int kk (i:Int)))) s=some (.d (.vptr (Cl.cells l[i]++rC (l.drop (i+1))))):=by
 subst hs
 show(if 0<=(i:Int)/\(i:Int)<(l.length:Int)/\(i:Int).toNat*Cl.n α<=(rC l).length then _ else _)=_
 rw[if_pos ⟨by omega,by omega,by rw[QH];simp;exact Nat.mul_le_mul_right _ (Nat.le_of_lt h)⟩]
 rw[Int.toNat_natCast,Za8 h]
@[go_sem] theorem Zk0 (A:List Blk) (n0:Nat) (ids:List Nat) (n:Nat) (x:DV):YA A n0 ids (n+1) (.d x)=.d x:=id rfl
theorem Zgz (key:Nat)(c:CT)(E:Env)(call:cT)(kx:Nat->K)(kr:K)(n:Nat)(tm:List AV)(A:List Blk):
  Z9 key c E call kx kr (n+1) tm A=C6 E key (c E call (Z9 key c E call kx kr n) kx kr) tm A:=id rfl
end Go.Aug
