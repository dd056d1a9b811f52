import Derived.Test.YthnhboimcidhgaaGreatDoorEvC
import Derived.Attr
namespace Go.Aug
open Go
abbrev st (t:Nat)(op:OpF):Stp:=⟨some t,none,op⟩
abbrev su (op:OpF):Stp:=⟨none,none,op⟩
abbrev sg (t j:Nat)(w:Bool)(op:OpF):Stp:=⟨some t,some (j,w),op⟩
abbrev ci (n:Int):Opd:=.c (.v (.int .i64 n))
abbrev zi:AV:=.d (.v (.int .i64 0))
abbrev zb:AV:=.d (.v (.bool false))
abbrev zt:AV:=.d (.v (.string ⟨#[]⟩))
abbrev zn:AV:=.d (.lst [] 0 (some 0))
def Z01 (d:AV):List (Nat×AV)->Nat->AV
 | [],_=>d
 | p::S,k=>if p.1=k then p.2 else Z01 d S k
def Y0f (S:List (Nat×AV))(k:Nat)(x:AV):List (Nat×AV):=(k,x)::S
def tmF (d:AV)(S:List (Nat×AV)):Nat->Nat->List AV
 | 0,_=>[]
 | n+1,k=>Z01 d S k::tmF d S n (k+1)
def mk (d:AV)(N:Nat)(S:List (Nat×AV)):List AV:=tmF d S N 0
theorem Zp9 (d:AV)(S:List (Nat×AV)):∀ n k i,i<n->Z0r (tmF d S n k) i=Z01 d S (k+i)
 | n+1,k,0,_=>rfl
 | n+1,k,i+1,h=>by
  show Z0r (tmF d S n (k+1)) i=_
  rw[Zp9 d S n (k+1) i (by omega)]
  congr 1;omega
@[go_sem] theorem Zns (d:AV) (N:Nat) (S:List (Nat×AV)) (i:Nat) (h:i<N):Z0r (mk d N S) i=Z01 d S i:=by
 have:=Zp9 d S N 0 i h
 simpa [mk] using this
theorem Zd3 (d:AV)(S:List (Nat×AV))(k:Nat)(x:AV)(i:Nat):Z01 d (Y0f S k x) i=if k=i then x else Z01 d S i:=id rfl
theorem Z8c (d d':AV)(S S':List (Nat×AV)):∀ n k,(∀ i,k<=i->i<k+n->Z01 d S i=Z01 d' S' i)->tmF d S n k=tmF d' S' n k
 | 0,_,_=>rfl
 | n+1,k,h=>by
  simp only[tmF]
  rw[h k (Nat.le_refl _) (by omega),Z8c d d' S S' n (k+1) (fun i h1 h2=>h i (by omega) (by omega))]
theorem Zoq (d:AV)(S:List (Nat×AV))(x:AV):∀ n k i,i<n->Zip (tmF d S n k) i x=tmF d (Y0f S (k+i) x) n k
 | n+1,k,0,_=>by
  simp only[tmF,Zip,Nat.add_zero]
  rw[Zd3,if_pos rfl]
  congr 1
  refine Z8c _ _ _ _ n (k+1) fun i h1 _=> ?_
  rw[Zd3,if_neg (by omega)]
 | n+1,k,i+1,h=>by
  simp only[tmF,Zip]
  rw[Zoq d S x n (k+1) i (by omega),Zd3,if_neg (by omega)]
  have e:k+1+i=k+(i+1):=by omega
  rw[e]
@[go_sem] theorem Zs0 (d:AV) (N:Nat) (S:List (Nat×AV)) (i:Nat) (x:AV) (h:i<N):Zip (mk d N S) i x=mk d N (Y0f S i x):=by
 have:=Zoq d S x N 0 i h
 simpa [mk] using this
def Zxa:Nat->List AV->List (Nat×AV)
 | _,[]=>[]
 | k,x::l=>(k,x)::Zxa (k+1) l
theorem Zf8:∀ n k,Z77 n=tmF Z26 [] n k
 | 0,_=>rfl
 | n+1,k=>by simp[Z77,tmF,Z01,Zf8 n (k+1)]
theorem Zuf:∀(l:List AV) (n k:Nat),l.length<=n->l++Z77 (n-l.length)=tmF Z26 (Zxa k l) n k
 | [],n,k,_=>by simp[Zxa];exact Zf8 n k
 | x::l,0,k,h=>by simp at h
 | x::l,n+1,k,h=>by
  have e:n+1-(x::l).length=n-l.length:=by simp
  rw[e,List.cons_append,Zuf l n (k+1) (by simpa using h)]
  simp only[tmF,Zxa,Z01,if_true]
  congr 1
  refine Z8c _ _ _ _ n (k+1) fun i h1 _=> ?_
  simp only[Z01]
  rw[if_neg (by omega)]
theorem Z6 (N:Nat)(rs:List IRes)(c:CT)(E:Env)(call:cT)(f:FuncId)(args:List AV)(A:List Blk)(h:Nat.ble args.length N=true):
  mkF N rs c E call f args A=c { E with live:=E.lives f,nb0:=A.length } call (Z0u A.length rs) (fun _ _ _=>none) (Z0u A.length rs) (mk Z26 N (Zxa 0 args)) A:=by
 unfold mkF
 rw[Zuf args N 0 (Nat.le_of_ble_eq_true h)]
 rfl
attribute [go_sem] Zxa Y0f Z01 if_true if_false cond_true cond_false List.length_nil List.length_cons Option.map_some Option.map_none Option.bind_some Option.bind_none ite_true ite_false Bool.not_true Bool.not_false List.nil_append List.cons_append List.map_cons List.map_nil
section
variable (E:Env) (call:cT) (kn:K) (kx:Nat->K) (kr:K) (tm:List AV) (A:List Blk)
@[go_sem] theorem Y21 (a b:CT):cQ a b E call kn kx kr tm A=a E call (b E call kn kx kr) kx kr tm A:=id rfl
@[go_sem] theorem Y20:cK E call kn kx kr tm A=kn tm A:=id rfl
@[go_sem] theorem Y22:cZ E call kn kx kr tm A=kr tm A:=id rfl
@[go_sem] theorem Y8f (i:Nat):Z14 i E call kn kx kr tm A=kx i tm A:=id rfl
@[go_sem] theorem Y5v (i:Nat) (c:CT):Zp i c E call kn kx kr tm A=c E call kn (Z6k i kn kx) kr tm A:=id rfl
@[go_sem] theorem Y3w (i j:Nat):Z6k i kn kx j tm A=(if j=i then kn else kx j) tm A:=by
 unfold Z6k
 by_cases h:j=i
 ·subst h;simp
 ·have:Nat.beq j i=false:=by
   cases hb:Nat.beq j i with
   | false=>rfl
   | true=>exact absurd (Nat.eq_of_beq_eq_true hb) h
  rw[this,if_neg h];rfl
@[go_sem] theorem Zxm:cOz [] E call kn kx kr tm A=kn tm A:=id rfl
@[go_sem] theorem Y23 (d:Option Nat) (op:OpF) (l:List Stp):cOz (⟨d,none,op⟩::l) E call kn kx kr tm A=Zr5 d (cOz l E call kn kx kr) tm A (op E call tm A A.length):=id rfl
@[go_sem] theorem Y8c (d:Option Nat) (t:Nat) (b:Bool) (op:OpF) (l:List Stp):cOz (⟨d,some (t,b),op⟩::l) E call kn kx kr tm A=Zc6 E call ⟨d,some (t,b),op⟩ (cOz l E call kn kx kr) tm A (Zc0 b (Z0r tm t)):=id rfl
@[go_sem] theorem Y5p (c:Bool):Zc0 true (.d (.v (.bool c)))=some c:=by cases c<;>rfl
@[go_sem] theorem Y5q (c:Bool):Zc0 false (.d (.v (.bool c)))=some !c:=by cases c<;>rfl
@[go_sem] theorem Y5o (b:Bool):Zc0 b (.d (.tup []))=some false:=id rfl
@[go_sem] theorem Y5r (s:Stp) (k:K):Zc6 E call s k tm A (some true)=Zr5 s.dst k tm A (s.op E call tm A A.length):=id rfl
@[go_sem] theorem Y5s (s:Stp) (k:K):Zc6 E call s k tm A (some false)=k (Z44 tm s.dst Z26) A:=id rfl
@[go_sem] theorem Ztr (d:Option Nat) (k:K) (x:AV):Zr5 d k tm A (some (.made x []))=k (Z44 tm d x) A:=id rfl
@[go_sem] theorem Zzk (d:Option Nat) (k:K) (x:AV) (b:Blk) (bs:List Blk):Zr5 d k tm A (some (.made x (b::bs)))=k (Z44 tm d x) (A++b::bs):=id rfl
@[go_sem] theorem Y3u (d:Option Nat) (k:K) (x:AV) (A':List Blk):Zr5 d k tm A (some (.turned x A'))=k (Z44 tm d x) A':=id rfl
@[go_sem] theorem Y8d (d:Option Nat) (k:K):Zr5 d k tm A none=none:=id rfl
@[go_sem] theorem Y8b (x:AV):Z44 tm none x=tm:=id rfl
@[go_sem] theorem Zxl (t:Nat) (x:AV):Z44 tm (some t) x=Zip tm t x:=id rfl
@[go_sem] theorem Y24 (key:Nat) (c:Opd) (a b:CT):cJ key c a b E call kn kx kr tm A=Zgh (a E call (Zmj E key kn) kx kr tm A) (b E call (Zmj E key kn) kx kr tm A) (look tm c):=id rfl
theorem Zzn (key:Nat)(o:Opd)(a b:CT)(h:look tm o=.d (.v (.bool true))):cJ key o a b E call kn kx kr tm A=a E call (Zmj E key kn) kx kr tm A:=by
 show Zgh _ _ (look tm o)=_
 rw[h];rfl
theorem Zzo (key:Nat)(o:Opd)(a b:CT)(h:look tm o=.d (.v (.bool false))):cJ key o a b E call kn kx kr tm A=b E call (Zmj E key kn) kx kr tm A:=by
 show Zgh _ _ (look tm o)=_
 rw[h];rfl
@[go_sem] theorem Zw8 (x y:Ans) (c:Bool):Zgh x y (.d (.v (.bool c)))=bif c then x else y:=by cases c<;>rfl
@[go_sem] theorem Y8e (key:Nat) (c:CT):Z1l key c E call kn kx kr tm A=Zi key c E call kx kr 1000000000000000000000000000000 tm A:=id rfl
theorem Zxn (key:Nat)(k:K)(h:E.live key=none):Zmj E key k tm A=k tm A:=by unfold Zmj;rw[h]
@[go_sem] theorem Zxo (t:Nat):look tm (.t t)=Z0r tm t:=id rfl
@[go_sem] theorem Zzm (x:DV):look tm (.c x)=.d x:=id rfl
@[go_sem] theorem Y5u (f:FuncId):look tm (.f f)=.fn (.func f) []:=id rfl
end
section
variable (tm:List AV) (A:List Blk)
@[go_sem] theorem Y4f (n0:Nat) (rs:List IRes):Z0u n0 rs tm A=Zl7 n0 (Z8t A (Z1e tm A rs)):=id rfl
@[go_sem] theorem Y4e:Z1e tm A []=some []:=id rfl
@[go_sem] theorem Y4c (t:Nat) (l:List IRes):Z1e tm A (.tmp t::l)=(Z1e tm A l).map (Z0r tm t:: ·):=by
 simp only[Z1e,Zti]
 cases Z1e tm A l<;>rfl
@[go_sem] theorem Y6l (a:Nat) (ag:Bool) (n:Nat) (l:List IRes):Z1e tm A (.cell a ag n::l)=(Z4p A (Z0r tm a) ag n).bind fun x=>(Z1e tm A l).map (x:: ·):=by
 simp only[Z1e,Zti]
 cases Z4p A (Z0r tm a) ag n<;>cases Z1e tm A l<;>rfl
@[go_sem] theorem Y4d (x:AV):Z8t A (some [x])=some (x,A):=id rfl
@[go_sem] theorem Y8z (x y:AV) (l:List AV):Z8t A (some (x::y::l))=some (.tup (x::y::l),A):=id rfl
@[go_sem] theorem Y6k:Z8t A (some [])=some (.tup [],A):=id rfl
@[go_sem] theorem Y8a (x:DV):Zl7 0 (some (.d x,A))=some (.d x,[]):=by
 simp[Zl7,Q5,Z0t,ren,Z1r]
theorem Zfh (cs:List DV):(cs.map AV.d).flatMap (Q5 8)=[]:=by
 rw[List.flatMap_map];simp[Q5]
theorem Zjc (A:List Blk)(n0:Nat)(ids:List Nat)(cs:List DV):(cs.map AV.d).map (ren A n0 ids 8)=cs.map AV.d:=by simp[ren]
theorem Zw7 {i v len sz:Nat}{k:Option Nat}{cs:List DV}{ro:Bool}(h:A[i]? =some (.cells (cs.map .d) v ro)):
  Zl7 0 (some (.sref i v 0 len sz k,A))=some (.sref 0 0 0 len sz k,[.cells (cs.map .d) 0 ro]):=by
 have hl:i<A.length:=(List.getElem?_eq_some_iff.1 h).1
 have hr:Z0t A 0 100000 [i] []=[i]:=by
  show(bif Nat.blt i 0 || Z1b i [] || !Nat.blt i A.length then _ else Z0t A 0 99999 ([]++Z9o A[i]?) ([]++[i]))=_
  have h1:Nat.blt i 0=false:=by cases hq:Nat.blt i 0 with
   | false=>rfl
   | true=>exact absurd (Nat.le_of_ble_eq_true hq) (by omega)
  have h2:Nat.blt i A.length=true:=Nat.ble_eq_true_of_le hl
  rw[h1,h2,h]
  simp only[Z1b,Z9o,Zfh]
  rfl
 have hb:Qc A i=some v:=by unfold Qc;rw[h]
 have hi:idx [i] i=some 0:=by simp[idx]
 have h1:Nat.blt i 0=false:=by cases hq:Nat.blt i 0 with
  | false=>rfl
  | true=>exact absurd (Nat.le_of_ble_eq_true hq) (by omega)
 have hs:spot A 0 [i] i v=some (0,0):=by
  simp only[spot,h1,cond_false,hb,hi,Nat.beq_refl,cond_true]
 have e:ren A 0 [i] 8 (.sref i v 0 len sz k)=.sref 0 0 0 len sz k:=by
  show(match spot A 0 [i] i v with | some p=>AV.sref p.1 p.2 0 len sz k | none=>.bot)=_
  rw[hs]
 have e2:Z1r A 0 [i]=[.cells (cs.map .d) 0 ro]:=by
  have hg:A.getD i .free=.cells (cs.map .d) v ro:=by rw[List.getD_eq_getElem?_getD,h];rfl
  show(A.take 0).map _++[Zfg A 0 [i] false (A.getD i .free)]=_
  rw[hg]
  show[Blk.cells ((cs.map AV.d).map (ren A 0 [i] 8)) 0 ro]=_
  rw[Zjc]
 show some (ren A 0 (Z0t A 0 100000 ([i]++(A.take 0).flatMap _) []) 8 _,Z1r A 0 (Z0t A 0 100000 ([i]++(A.take 0).flatMap _) []))=_
 rw[show([i]++(A.take 0).flatMap fun b=>Z9o (some b))=[i] from rfl,hr,e,e2]
end
section
variable (E:Env) (call:cT) (tm:List AV) (A:List Blk) (nb:Nat)
@[go_sem] theorem Y11 (x:Opd):oV x E call tm A nb=some (.made (look tm x) []):=id rfl
@[go_sem] theorem Y9p (op:BinOp) (x y:Opd):oB op x y E call tm A nb=one? (Ji op (look tm x) (look tm y)):=id rfl
@[go_sem] theorem Y9a (x:AV):one? (some x)=some (.made x []):=id rfl
@[go_sem] theorem Y9n (neg:Bool) (sh:Sh) (x y:Opd):oEq neg sh x y E call tm A nb=Zat neg (eqV sh (look tm x) (look tm y)):=id rfl
@[go_sem] theorem Y4o (neg b:Bool):Zat neg (some b)=some (.made (Q7 (if neg then !b else b)) []):=id rfl
theorem Y14 (cells:List AV)(len s:Nat)(parts:List (Nat×Nat×Opd)):Z2g cells len s parts E call tm A nb=Zvl (thF E 1000000) len s nb (Z3u tm cells parts):=id rfl
@[go_sem] theorem Y12 (len s:Nat) (o:Option (List AV)):Zvl false len s nb o=Zys len s nb o:=id rfl
@[go_sem] theorem Y6w (len s:Nat) (cs:List AV):Zvl true len s nb (some cs)=Zyr len s nb cs (Z83 cs):=id rfl
@[go_sem] theorem Y6x (len s:Nat) (cs:List AV) (ds:List DV):Zyr len s nb cs (some ds)=some (.made (.d (.lst ds len (some len))) []):=id rfl
@[go_sem] theorem Y39:Z83 []=some []:=id rfl
@[go_sem] theorem Y38 (x:DV) (l:List AV):Z83 (.d x::l)=(Z83 l).map (x:: ·):=id rfl
@[go_sem] theorem Y13 (len s:Nat) (cs:List AV):Zys len s nb (some cs)=some (.made (.sref nb 0 0 len s (some len)) [.cells cs 0 false]):=id rfl
@[go_sem] theorem Y4t (str:Bool) (s bytes:Nat) (b x:Opd):Z3c str s bytes b x E call tm A nb=Y2p A nb s bytes (look tm b) (Z0g A str s (look tm x)):=id rfl
@[go_sem] theorem Y16 (s bytes:Nat) (b:AV) (new:List AV) (n:Nat):Y2p A nb s bytes b (some (new,n))=Z27 A nb s b (Qs A s bytes b new n):=id rfl
@[go_sem] theorem Y78 (s:Nat) (b:AV):Z27 A nb s b (some .same)=some (.made b []):=id rfl
@[go_sem] theorem Y15 (s:Nat) (b:AV) (cs:List AV) (len:Nat):Z27 A nb s b (some (.fresh cs len))=some (.made (.sref nb 0 0 len s none) [.cells cs 0 false]):=id rfl
@[go_sem] theorem Y77 (s:Nat) (b:AV) (i:Nat) (blk:Blk) (x:AV):Z27 A nb s b (some (.turn i blk x))=some (.turned x (A.set i blk)):=id rfl
@[go_sem] theorem Zya (cells:List AV):Z3u tm cells []=some cells:=id rfl
end
theorem Zt2 (a:Int)(k:Nat)(hk:k<=62):∃ r:Nat,r<2^k/\Z94 .and .i64 a ((2^k-1:Nat):Int)=some (.int .i64 r):=by
 refine⟨(BitVec.ofInt 64 a).toNat%2^k,Nat.mod_lt _ (Nat.two_pow_pos k),?_⟩
 have hp:2^k<=2^62:=Nat.pow_le_pow_right (by omega) hk
 have h1:(BitVec.ofInt 64 a&&&BitVec.ofInt 64 ((2^k-1:Nat):Int)).toNat=(BitVec.ofInt 64 a).toNat%2^k:=by
  rw[BitVec.toNat_and]
  have:(BitVec.ofInt 64 ((2^k-1:Nat):Int)).toNat=2^k-1:=by
   rw[BitVec.ofInt_natCast,BitVec.toNat_ofNat]
   exact Nat.mod_eq_of_lt (by omega)
  rw[this,Nat.and_two_pow_sub_one_eq_mod]
 have h2:IntKind.i64.wrap (((BitVec.ofInt 64 a).toNat%2^k:Nat):Int)=(((BitVec.ofInt 64 a).toNat%2^k:Nat):Int):=by
  have hlt:=Nat.mod_lt (BitVec.ofInt 64 a).toNat (Nat.two_pow_pos k)
  generalize (BitVec.ofInt 64 a).toNat%2^k=r at hlt ⊢
  simp[IntKind.wrap,IntKind.bits,IntKind.signed]
  omega
 show some (Value.int .i64 (IntKind.i64.wrap ((BitVec.ofInt 64 a&&&BitVec.ofInt 64 _).toNat:Nat)))=_
 rw[h1,h2]
theorem Z2l (A:List Blk)(s bytes i ver off len sz:Nat)(k:Option Nat)(new:List AV)(n:Nat):Qs A s bytes (.sref i ver off len sz k) new n=
  if n=0 then some .same else
  if sz≠s∨Zf<(len+n)*bytes∨Zf<len+n∨new.all AV.one=false then none else
  match A[i]? with
  | some (.cells cs v ro)=>
   if v≠ver∨cs.length<off+len*s then none else
   match k with
   | some c=>
    if c<len+n then some (.fresh ((cs.drop off).take (len*s)++new) (len+n))
    else if ro=false/\off+(len+n)*s<=cs.length then some (.turn i (.cells (splice cs (off+len*s) new) v ro) (.sref i ver off (len+n) sz k))
    else none
   | none=>
    if ro then none else
    if off+(len+n)*s<=cs.length then some (.turn i (.cells (splice cs (off+len*s) new) v ro) (.sref i ver off (len+n) sz none))
    else if off=0/\len*s=cs.length then some (.turn i (.cells (cs++new) (v+1) ro) (.sref i (v+1) 0 (len+n) sz none))
    else none
  | _=>none:=rfl
theorem Zui (A:List Blk)(s bytes i c len:Nat)(cs new:List AV)(v:Nat)(hA:A[i]? =some (.cells cs v false))(hn:len≠0)(hc:c=0)(h1:len*bytes<=Zf)(h2:len<=Zf)(h3:new.all AV.one=true):
  Qs A s bytes (.sref i v 0 0 s (some c)) new len=some (.fresh new len):=by
 rw[Z2l,if_neg hn,if_neg (by rw[h3];simp;exact⟨by omega,by omega⟩),hA]
 simp[hc]
 omega
end Go.Aug
