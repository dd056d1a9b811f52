import Derived.Test.YtmfdoekbjkgckaaGreatEvC
import Derived.Attr
namespace Go.Aug
open Go
abbrev st (t:Nat)(op:ZV):Stp:=⟨some t,none,op⟩
abbrev su (op:ZV):Stp:=⟨none,none,op⟩
abbrev sg (t j:Nat)(w:Bool)(op:ZV):Stp:=⟨some t,some (j,w),op⟩
abbrev ci (n:Int):Opd:=.c (.v (.int .i64 n))
abbrev zi:AV:=.d (.v (.int .i64 0))
abbrev zb:AV:=.d (.v (.bool false))
abbrev zt:AV:=.d (.v (.string ⟨#[]⟩))
abbrev zn:AV:=.d (.lst [] 0 (some 0))
def ZS (d:AV):List (Nat×AV)->Nat->AV
 | [],_=>d
 | p::S,k=>if p.1=k then p.2 else ZS d S k
def R5 (S:List (Nat×AV))(k:Nat)(x:AV):List (Nat×AV):=(k,x)::S
def CC (d:AV)(S:List (Nat×AV)):Nat->Nat->List AV
 | 0,_=>[]
 | n+1,k=>ZS d S k::CC d S n (k+1)
def mk (d:AV)(N:Nat)(S:List (Nat×AV)):List AV:=CC d S N 0
theorem Z5n (d:AV)(S:List (Nat×AV)):∀ n k i,i<n->Y6 (CC d S n k) i=ZS d S (k+i)
 | n+1,k,0,_=>rfl
 | n+1,k,i+1,h=>by
  show Y6 (CC d S n (k+1)) i=_
  rw[Z5n d S n (k+1) i (by omega)]
  congr 1;omega
@[go_sem] theorem VA (d:AV) (N:Nat) (S:List (Nat×AV)) (i:Nat) (h:i<N):Y6 (mk d N S) i=ZS d S i:=by
 have:=Z5n d S N 0 i h
 simpa [mk] using this
theorem Z13 (d:AV)(S:List (Nat×AV))(k:Nat)(x:AV)(i:Nat):ZS d (R5 S k x) i=if k=i then x else ZS d S i:=id rfl
theorem Uq (d d':AV)(S S':List (Nat×AV)):∀ n k,(∀ i,k<=i->i<k+n->ZS d S i=ZS d' S' i)->CC d S n k=CC d' S' n k
 | 0,_,_=>rfl
 | n+1,k,h=>by
  simp only[CC]
  rw[h k (Nat.le_refl _) (by omega),Uq d d' S S' n (k+1) (fun i h1 h2=>h i (by omega) (by omega))]
theorem Z3v (d:AV)(S:List (Nat×AV))(x:AV):∀ n k i,i<n->CS (CC d S n k) i x=CC d (R5 S (k+i) x) n k
 | n+1,k,0,_=>by
  simp only[CC,CS,Nat.add_zero]
  rw[Z13,if_pos rfl]
  congr 1
  refine Uq _ _ _ _ n (k+1) fun i h1 _=> ?_
  rw[Z13,if_neg (by omega)]
 | n+1,k,i+1,h=>by
  simp only[CC,CS]
  rw[Z3v d S x n (k+1) i (by omega),Z13,if_neg (by omega)]
  have e:k+1+i=k+(i+1):=by omega
  rw[e]
@[go_sem] theorem Z3w (d:AV) (N:Nat) (S:List (Nat×AV)) (i:Nat) (x:AV) (h:i<N):CS (mk d N S) i x=mk d N (R5 S i x):=by
 have:=Z3v d S x N 0 i h
 simpa [mk] using this
def MC:Nat->List AV->List (Nat×AV)
 | _,[]=>[]
 | k,x::l=>(k,x)::MC (k+1) l
theorem Z3b:∀ n k,H1 n=CC JV [] n k
 | 0,_=>rfl
 | n+1,k=>by simp[H1,CC,ZS,Z3b n (k+1)]
theorem Zch:∀(l:List AV) (n k:Nat),l.length<=n->l++H1 (n-l.length)=CC JV (MC k l) n k
 | [],n,k,_=>by simp[MC];exact Z3b n k
 | x::l,0,k,h=>by simp at h
 | x::l,n+1,k,h=>by
  have e:n+1-(x::l).length=n-l.length:=by simp
  rw[e,List.cons_append,Zch l n (k+1) (by simpa using h)]
  simp only[CC,MC,ZS,if_true]
  congr 1
  refine Uq _ _ _ _ n (k+1) fun i h1 _=> ?_
  simp only[ZS]
  rw[if_neg (by omega)]
theorem ZN (N:Nat)(rs:List IRes)(c:CT)(E:Env)(call:cT)(f:FuncId)(args:List AV)(A:List Blk)(h:Nat.ble args.length N=true):
  ZJ N rs c E call f args A=c { E with live:=E.lives f,nb0:=A.length } call (ZY A.length rs) (fun _ _ _=>none) (ZY A.length rs) (mk JV N (MC 0 args)) A:=by
 unfold ZJ
 rw[Zch args N 0 (Nat.le_of_ble_eq_true h)]
 rfl
attribute [go_sem] MC R5 ZS if_true if_false cond_true cond_false List.length_nil List.length_cons Option.map_some Option.map_none Option.bind_some Option.bind_none ite_true ite_false Bool.not_true Bool.not_false List.nil_append List.cons_append List.map_cons List.map_nil
section
variable (E:Env) (call:cT) (kn:K) (kx:Nat->K) (kr:K) (tm:List AV) (A:List Blk)
@[go_sem] theorem Zaq (a b:CT):cQ a b E call kn kx kr tm A=a E call (b E call kn kx kr) kx kr tm A:=id rfl
@[go_sem] theorem Zph:cK E call kn kx kr tm A=kn tm A:=id rfl
@[go_sem] theorem Zar:cZ E call kn kx kr tm A=kr tm A:=id rfl
@[go_sem] theorem Zxy (i:Nat):QC i E call kn kx kr tm A=kx i tm A:=id rfl
@[go_sem] theorem Zy0 (i:Nat) (c:CT):ZT i c E call kn kx kr tm A=c E call kn (GY i kn kx) kr tm A:=id rfl
@[go_sem] theorem Zxz (i j:Nat):GY i kn kx j tm A=(if j=i then kn else kx j) tm A:=by
 unfold GY
 by_cases h:j=i
 ·subst h;simp
 ·have:Nat.beq j i=false:=by
   cases hb:Nat.beq j i with
   | false=>rfl
   | true=>exact absurd (Nat.eq_of_beq_eq_true hb) h
  rw[this,if_neg h];rfl
@[go_sem] theorem Zas:Z1 [] E call kn kx kr tm A=kn tm A:=id rfl
@[go_sem] theorem Zat (d:Option Nat) (op:ZV) (l:List Stp):Z1 (⟨d,none,op⟩::l) E call kn kx kr tm A=FH d (Z1 l E call kn kx kr) tm A (op E call tm A A.length):=id rfl
@[go_sem] theorem Zxt (d:Option Nat) (t:Nat) (b:Bool) (op:ZV) (l:List Stp):Z1 (⟨d,some (t,b),op⟩::l) E call kn kx kr tm A=Gz E call ⟨d,some (t,b),op⟩ (Z1 l E call kn kx kr) tm A (NB b (Y6 tm t)):=id rfl
@[go_sem] theorem Zxl (c:Bool):NB true (.d (.v (.bool c)))=some c:=by cases c<;>rfl
@[go_sem] theorem Zxm (c:Bool):NB false (.d (.v (.bool c)))=some !c:=by cases c<;>rfl
@[go_sem] theorem Zxk (b:Bool):NB b (.d (.tup []))=some false:=id rfl
@[go_sem] theorem Zxo (s:Stp) (k:K):Gz E call s k tm A (some true)=FH s.dst k tm A (s.op E call tm A A.length):=id rfl
@[go_sem] theorem Zxp (s:Stp) (k:K):Gz E call s k tm A (some false)=k (Qk tm s.dst JV) A:=id rfl
@[go_sem] theorem Zav (d:Option Nat) (k:K) (x:AV):FH d k tm A (some (.made x []))=k (Qk tm d x) A:=id rfl
@[go_sem] theorem Zpi (d:Option Nat) (k:K) (x:AV) (b:Blk) (bs:List Blk):FH d k tm A (some (.made x (b::bs)))=k (Qk tm d x) (A++b::bs):=id rfl
@[go_sem] theorem Zxn (d:Option Nat) (k:K) (x:AV) (A':List Blk):FH d k tm A (some (.turned x A'))=k (Qk tm d x) A':=id rfl
@[go_sem] theorem Zxv (d:Option Nat) (k:K):FH d k tm A none=none:=id rfl
@[go_sem] theorem Zxq (x:AV):Qk tm none x=tm:=id rfl
@[go_sem] theorem Zap (t:Nat) (x:AV):Qk tm (some t) x=CS tm t x:=id rfl
@[go_sem] theorem Zpm (key:Nat) (c:Opd) (a b:CT):cJ key c a b E call kn kx kr tm A=RX (a E call (CZ E key kn) kx kr tm A) (b E call (CZ E key kn) kx kr tm A) (look tm c):=id rfl
theorem Zpk (key:Nat)(o:Opd)(a b:CT)(h:look tm o=.d (.v (.bool true))):cJ key o a b E call kn kx kr tm A=a E call (CZ E key kn) kx kr tm A:=by
 show RX _ _ (look tm o)=_
 rw[h];rfl
theorem Zpl (key:Nat)(o:Opd)(a b:CT)(h:look tm o=.d (.v (.bool false))):cJ key o a b E call kn kx kr tm A=b E call (CZ E key kn) kx kr tm A:=by
 show RX _ _ (look tm o)=_
 rw[h];rfl
@[go_sem] theorem Zpn (x y:F1) (c:Bool):RX x y (.d (.v (.bool c)))=bif c then x else y:=by cases c<;>rfl
@[go_sem] theorem Zxw (key:Nat) (c:CT):QR key c E call kn kx kr tm A=Z9 key c E call kx kr 1000000000000000000000000000000 tm A:=id rfl
theorem Zau (key:Nat)(k:K)(h:E.live key=none):CZ E key k tm A=k tm A:=by unfold CZ;rw[h]
@[go_sem] theorem Zax (t:Nat):look tm (.t t)=Y6 tm t:=id rfl
@[go_sem] theorem Zpj (x:DV):look tm (.c x)=.d x:=id rfl
@[go_sem] theorem Zxx (f:FuncId):look tm (.f f)=.fn (.func f) []:=id rfl
end
section
variable (tm:List AV) (A:List Blk)
@[go_sem] theorem Zk6 (n0:Nat) (rs:List IRes):ZY n0 rs tm A=Dv n0 (K4 A (BN tm A rs)):=id rfl
@[go_sem] theorem Zk5:BN tm A []=some []:=id rfl
@[go_sem] theorem Zk3 (t:Nat) (l:List IRes):BN tm A (.tmp t::l)=(BN tm A l).map (Y6 tm t:: ·):=by
 simp only[BN,T9]
 cases BN tm A l<;>rfl
@[go_sem] theorem Zt5 (a:Nat) (ag:Bool) (n:Nat) (l:List IRes):BN tm A (.cell a ag n::l)=(FJ A (Y6 tm a) ag n).bind fun x=>(BN tm A l).map (x:: ·):=by
 simp only[BN,T9]
 cases FJ A (Y6 tm a) ag n<;>cases BN tm A l<;>rfl
@[go_sem] theorem Zk4 (x:AV):K4 A (some [x])=some (x,A):=id rfl
@[go_sem] theorem Zt4 (x y:AV) (l:List AV):K4 A (some (x::y::l))=some (.tup (x::y::l),A):=id rfl
@[go_sem] theorem Zt3:K4 A (some [])=some (.tup [],A):=id rfl
@[go_sem] theorem Zxj (x:DV):Dv 0 (some (.d x,A))=some (.d x,[]):=by
 simp[Dv,YW,Q8,Yz,Yq]
theorem Z4g (cs:List DV):(cs.map AV.d).flatMap (YW 8)=[]:=by
 rw[List.flatMap_map];simp[YW]
theorem Z4a (A:List Blk)(n0:Nat)(ids:List Nat)(cs:List DV):(cs.map AV.d).map (Yz A n0 ids 8)=cs.map AV.d:=by simp[Yz]
theorem Zpe {i v len sz:Nat}{k:Option Nat}{cs:List DV}{ro:Bool}(h:A[i]? =some (.cells (cs.map .d) v ro)):
  Dv 0 (some (.sref i v 0 len sz k,A))=some (.sref 0 0 0 len sz k,[.cells (cs.map .d) 0 ro]):=by
 have hl:i<A.length:=(List.getElem?_eq_some_iff.1 h).1
 have hr:Q8 A 0 100000 [i] []=[i]:=by
  show(bif Nat.blt i 0 || Yj i [] || !Nat.blt i A.length then _ else Q8 A 0 99999 ([]++Dj A[i]?) ([]++[i]))=_
  have h1:Nat.blt i 0=false:=by cases hq:Nat.blt i 0 with
   | false=>rfl
   | true=>exact absurd (Nat.le_of_ble_eq_true hq) (by omega)
  have h2:Nat.blt i A.length=true:=Nat.ble_eq_true_of_le hl
  rw[h1,h2,h]
  simp only[Yj,Dj,Z4g]
  rfl
 have hb:QS A i=some v:=by unfold QS;rw[h]
 have hi:QQ [i] i=some 0:=by simp[QQ]
 have h1:Nat.blt i 0=false:=by cases hq:Nat.blt i 0 with
  | false=>rfl
  | true=>exact absurd (Nat.le_of_ble_eq_true hq) (by omega)
 have hs:spot A 0 [i] i v=some (0,0):=by
  simp only[spot,h1,cond_false,hb,hi,Nat.beq_refl,cond_true]
 have e:Yz A 0 [i] 8 (.sref i v 0 len sz k)=.sref 0 0 0 len sz k:=by
  show(match spot A 0 [i] i v with | some p=>AV.sref p.1 p.2 0 len sz k | none=>.bot)=_
  rw[hs]
 have e2:Yq A 0 [i]=[.cells (cs.map .d) 0 ro]:=by
  have hg:A.getD i .free=.cells (cs.map .d) v ro:=by rw[List.getD_eq_getElem?_getD,h];rfl
  show(A.take 0).map _++[BG A 0 [i] false (A.getD i .free)]=_
  rw[hg]
  show[Blk.cells ((cs.map AV.d).map (Yz A 0 [i] 8)) 0 ro]=_
  rw[Z4a]
 show some (Yz A 0 (Q8 A 0 100000 ([i]++(A.take 0).flatMap _) []) 8 _,Yq A 0 (Q8 A 0 100000 ([i]++(A.take 0).flatMap _) []))=_
 rw[show([i]++(A.take 0).flatMap fun b=>Dj (some b))=[i] from rfl,hr,e,e2]
end
section
variable (E:Env) (call:cT) (tm:List AV) (A:List Blk) (nb:Nat)
@[go_sem] theorem Z58 (x:Opd):oV x E call tm A nb=some (.made (look tm x) []):=id rfl
@[go_sem] theorem Zuv (op:BinOp) (x y:Opd):oB op x y E call tm A nb=one? (Q5 op (look tm x) (look tm y)):=id rfl
@[go_sem] theorem Ztu (x:AV):one? (some x)=some (.made x []):=id rfl
@[go_sem] theorem Zlq (neg:Bool) (sh:Sh) (x y:Opd):F9 neg sh x y E call tm A nb=MV neg (GP sh (look tm x) (look tm y)):=id rfl
@[go_sem] theorem Zlp (neg b:Bool):MV neg (some b)=some (.made (YA (if neg then !b else b)) []):=id rfl
theorem Zln (cells:List AV)(len s:Nat)(parts:List (Nat×Nat×Opd)):YJ cells len s parts E call tm A nb=K7 (M2 E 1000000) len s nb (Bz tm cells parts):=id rfl
@[go_sem] theorem Zll (len s:Nat) (o:Option (List AV)):K7 false len s nb o=NY len s nb o:=id rfl
@[go_sem] theorem Zu2 (len s:Nat) (cs:List AV):K7 true len s nb (some cs)=NX len s nb cs (E7 cs):=id rfl
@[go_sem] theorem Zu3 (len s:Nat) (cs:List AV) (ds:List DV):NX len s nb cs (some ds)=some (.made (.d (.lst ds len (some len))) []):=id rfl
@[go_sem] theorem Zul:E7 []=some []:=id rfl
@[go_sem] theorem Zuk (x:DV) (l:List AV):E7 (.d x::l)=(E7 l).map (x:: ·):=id rfl
@[go_sem] theorem Zlm (len s:Nat) (cs:List AV):NY len s nb (some cs)=some (.made (.sref nb 0 0 len s (some len)) [.cells cs 0 false]):=id rfl
@[go_sem] theorem Zlu (str:Bool) (s bytes:Nat) (b x:Opd):YX str s bytes b x E call tm A nb=TX A nb s bytes (look tm b) (E4 A str s (look tm x)):=id rfl
@[go_sem] theorem Zlt (s bytes:Nat) (b:AV) (new:List AV) (n:Nat):TX A nb s bytes b (some (new,n))=EZ A nb s b (Q0 A s bytes b new n):=id rfl
@[go_sem] theorem Zux (s:Nat) (b:AV):EZ A nb s b (some .same)=some (.made b []):=id rfl
@[go_sem] theorem Zls (s:Nat) (b:AV) (cs:List AV) (len:Nat):EZ A nb s b (some (.fresh cs len))=some (.made (.sref nb 0 0 len s none) [.cells cs 0 false]):=id rfl
@[go_sem] theorem Zuw (s:Nat) (b:AV) (i:Nat) (blk:Blk) (x:AV):EZ A nb s b (some (.turn i blk x))=some (.turned x (A.set i blk)):=id rfl
@[go_sem] theorem Zlo (cells:List AV):Bz tm cells []=some cells:=id rfl
end
theorem Z60 (a:Int)(k:Nat)(hk:k<=62):∃ r:Nat,r<2^k/\ET .and .i64 a ((2^k-1:Nat):Int)=some (.int .i64 r):=by
 refine⟨(BitVec.ofInt 64 a).toNat%2^k,Nat.mod_lt _ (Nat.two_pow_pos k),?_⟩
 have hp:2^k<=2^62:=Nat.pow_le_pow_right (by omega) hk
 have h1:(BitVec.ofInt 64 a&&&BitVec.ofInt 64 ((2^k-1:Nat):Int)).toNat=(BitVec.ofInt 64 a).toNat%2^k:=by
  rw[BitVec.toNat_and]
  have:(BitVec.ofInt 64 ((2^k-1:Nat):Int)).toNat=2^k-1:=by
   rw[BitVec.ofInt_natCast,BitVec.toNat_ofNat]
   exact Nat.mod_eq_of_lt (by omega)
  rw[this,Nat.and_two_pow_sub_one_eq_mod]
 have h2:IntKind.i64.wrap (((BitVec.ofInt 64 a).toNat%2^k:Nat):Int)=(((BitVec.ofInt 64 a).toNat%2^k:Nat):Int):=by
  have hlt:=Nat.mod_lt (BitVec.ofInt 64 a).toNat (Nat.two_pow_pos k)
  generalize (BitVec.ofInt 64 a).toNat%2^k=r at hlt ⊢
  simp[IntKind.wrap,IntKind.bits,IntKind.signed]
  omega
 show some (Value.int .i64 (IntKind.i64.wrap ((BitVec.ofInt 64 a&&&BitVec.ofInt 64 _).toNat:Nat)))=_
 rw[h1,h2]
theorem RK (A:List Blk)(s bytes i ver off len sz:Nat)(k:Option Nat)(new:List AV)(n:Nat):Q0 A s bytes (.sref i ver off len sz k) new n=
  if n=0 then some .same else
  if sz≠s∨Z5<(len+n)*bytes∨Z5<len+n∨new.all AV.one=false then none else
  match A[i]? with
  | some (.cells cs v ro)=>
   if v≠ver∨cs.length<off+len*s then none else
   match k with
   | some c=>
    if c<len+n then some (.fresh ((cs.drop off).take (len*s)++new) (len+n))
    else if ro=false/\off+(len+n)*s<=cs.length then some (.turn i (.cells (splice cs (off+len*s) new) v ro) (.sref i ver off (len+n) sz k))
    else none
   | none=>
    if ro then none else
    if off+(len+n)*s<=cs.length then some (.turn i (.cells (splice cs (off+len*s) new) v ro) (.sref i ver off (len+n) sz none))
    else if off=0/\len*s=cs.length then some (.turn i (.cells (cs++new) (v+1) ro) (.sref i (v+1) 0 (len+n) sz none))
    else none
  | _=>none:=rfl
theorem WG (A:List Blk)(s bytes i c len:Nat)(cs new:List AV)(v:Nat)(hA:A[i]? =some (.cells cs v false))(hn:len≠0)(hc:c=0)(h1:len*bytes<=Z5)(h2:len<=Z5)(h3:new.all AV.one=true):
  Q0 A s bytes (.sref i v 0 0 s (some c)) new len=some (.fresh new len):=by
 rw[RK,if_neg hn,if_neg (by rw[h3];simp;exact⟨by omega,by omega⟩),hA]
 simp[hc]
 omega
end Go.Aug
