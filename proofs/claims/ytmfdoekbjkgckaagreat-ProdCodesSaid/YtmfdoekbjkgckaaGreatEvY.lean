import Derived.Test.YtmfdoekbjkgckaaGreatEvC
import Derived.Attr
namespace Go.Aug
open Go
abbrev st (t:Nat)(op:Zw):Stp:=⟨some t,none,op⟩
abbrev su (op:Zw):Stp:=⟨none,none,op⟩
abbrev sg (t j:Nat)(w:Bool)(op:Zw):Stp:=⟨some t,some (j,w),op⟩
abbrev ci (n:Int):Opd:=.c (.v (.int .i64 n))
abbrev zi:AV:=.d (.v (.int .i64 0))
abbrev zb:AV:=.d (.v (.bool false))
abbrev zt:AV:=.d (.v (.string ⟨#[]⟩))
abbrev zn:AV:=.d (.lst [] 0 (some 0))
def ZG (d:AV):List (Nat×AV)->Nat->AV
 | [],_=>d
 | p::S,k=>if p.1=k then p.2 else ZG d S k
def N3 (S:List (Nat×AV))(k:Nat)(x:AV):List (Nat×AV):=(k,x)::S
def AX (d:AV)(S:List (Nat×AV)):Nat->Nat->List AV
 | 0,_=>[]
 | n+1,k=>ZG d S k::AX d S n (k+1)
def mk (d:AV)(N:Nat)(S:List (Nat×AV)):List AV:=AX d S N 0
theorem Z2a (d:AV)(S:List (Nat×AV)):∀ n k i,i<n->ZM (AX d S n k) i=ZG d S (k+i)
 | n+1,k,0,_=>rfl
 | n+1,k,i+1,h=>by
  show ZM (AX d S n (k+1)) i=_
  rw[Z2a d S n (k+1) i (by omega)]
  congr 1;omega
@[go_sem] theorem Vz (d:AV) (N:Nat) (S:List (Nat×AV)) (i:Nat) (h:i<N):ZM (mk d N S) i=ZG d S i:=by
 have:=Z2a d S N 0 i h
 simpa [mk] using this
theorem VZ (d:AV)(S:List (Nat×AV))(k:Nat)(x:AV)(i:Nat):ZG d (N3 S k x) i=if k=i then x else ZG d S i:=id rfl
theorem S5 (d d':AV)(S S':List (Nat×AV)):∀ n k,(∀ i,k<=i->i<k+n->ZG d S i=ZG d' S' i)->AX d S n k=AX d' S' n k
 | 0,_,_=>rfl
 | n+1,k,h=>by
  simp only[AX]
  rw[h k (Nat.le_refl _) (by omega),S5 d d' S S' n (k+1) (fun i h1 h2=>h i (by omega) (by omega))]
theorem Z0k (d:AV)(S:List (Nat×AV))(x:AV):∀ n k i,i<n->Bk (AX d S n k) i x=AX d (N3 S (k+i) x) n k
 | n+1,k,0,_=>by
  simp only[AX,Bk,Nat.add_zero]
  rw[VZ,if_pos rfl]
  congr 1
  refine S5 _ _ _ _ n (k+1) fun i h1 _=> ?_
  rw[VZ,if_neg (by omega)]
 | n+1,k,i+1,h=>by
  simp only[AX,Bk]
  rw[Z0k d S x n (k+1) i (by omega),VZ,if_neg (by omega)]
  have e:k+1+i=k+(i+1):=by omega
  rw[e]
@[go_sem] theorem Z0l (d:AV) (N:Nat) (S:List (Nat×AV)) (i:Nat) (x:AV) (h:i<N):Bk (mk d N S) i x=mk d N (N3 S i x):=by
 have:=Z0k d S x N 0 i h
 simpa [mk] using this
def M5:Nat->List AV->List (Nat×AV)
 | _,[]=>[]
 | k,x::l=>(k,x)::M5 (k+1) l
theorem XU:∀ n k,FB n=AX AR [] n k
 | 0,_=>rfl
 | n+1,k=>by simp[FB,AX,ZG,XU n (k+1)]
theorem Z7a:∀(l:List AV) (n k:Nat),l.length<=n->l++FB (n-l.length)=AX AR (M5 k l) n k
 | [],n,k,_=>by simp[M5];exact XU n k
 | x::l,0,k,h=>by simp at h
 | x::l,n+1,k,h=>by
  have e:n+1-(x::l).length=n-l.length:=by simp
  rw[e,List.cons_append,Z7a l n (k+1) (by simpa using h)]
  simp only[AX,M5,ZG,if_true]
  congr 1
  refine S5 _ _ _ _ n (k+1) fun i h1 _=> ?_
  simp only[ZG]
  rw[if_neg (by omega)]
theorem Yq (N:Nat)(rs:List IRes)(c:CT)(E:Env)(call:cT)(f:FuncId)(args:List AV)(A:List Blk)(h:Nat.ble args.length N=true):
  Y7 N rs c E call f args A=c { E with live:=E.lives f,nb0:=A.length } call (YD A.length rs) (fun _ _ _=>none) (YD A.length rs) (mk AR N (M5 0 args)) A:=by
 unfold Y7
 rw[Z7a args N 0 (Nat.le_of_ble_eq_true h)]
 rfl
attribute [go_sem] M5 N3 ZG if_true if_false cond_true cond_false List.length_nil List.length_cons Option.map_some Option.map_none Option.bind_some Option.bind_none ite_true ite_false Bool.not_true Bool.not_false List.nil_append List.cons_append List.map_cons List.map_nil
section
variable (E:Env) (call:cT) (kn:K) (kx:Nat->K) (kr:K) (tm:List AV) (A:List Blk)
@[go_sem] theorem Z5s (a b:CT):cQ a b E call kn kx kr tm A=a E call (b E call kn kx kr) kx kr tm A:=id rfl
@[go_sem] theorem Zgx:cK E call kn kx kr tm A=kn tm A:=id rfl
@[go_sem] theorem Z5t:cZ E call kn kx kr tm A=kr tm A:=id rfl
@[go_sem] theorem Zp1 (i:Nat):Q2 i E call kn kx kr tm A=kx i tm A:=id rfl
@[go_sem] theorem Zp3 (i:Nat) (c:CT):ZK i c E call kn kx kr tm A=c E call kn (KE i kn kx) kr tm A:=id rfl
@[go_sem] theorem Zp2 (i j:Nat):KE i kn kx j tm A=(if j=i then kn else kx j) tm A:=by
 unfold KE
 by_cases h:j=i
 ·subst h;simp
 ·have:Nat.beq j i=false:=by
   cases hb:Nat.beq j i with
   | false=>rfl
   | true=>exact absurd (Nat.eq_of_beq_eq_true hb) h
  rw[this,if_neg h];rfl
@[go_sem] theorem Z5u:Z3 [] E call kn kx kr tm A=kn tm A:=id rfl
@[go_sem] theorem Z5v (d:Option Nat) (op:Zw) (l:List Stp):Z3 (⟨d,none,op⟩::l) E call kn kx kr tm A=DP d (Z3 l E call kn kx kr) tm A (op E call tm A A.length):=id rfl
@[go_sem] theorem Zow (d:Option Nat) (t:Nat) (b:Bool) (op:Zw) (l:List Stp):Z3 (⟨d,some (t,b),op⟩::l) E call kn kx kr tm A=ER E call ⟨d,some (t,b),op⟩ (Z3 l E call kn kx kr) tm A (KR b (ZM tm t)):=id rfl
@[go_sem] theorem Zoo (c:Bool):KR true (.d (.v (.bool c)))=some c:=by cases c<;>rfl
@[go_sem] theorem Zop (c:Bool):KR false (.d (.v (.bool c)))=some !c:=by cases c<;>rfl
@[go_sem] theorem Zon (b:Bool):KR b (.d (.tup []))=some false:=id rfl
@[go_sem] theorem Zor (s:Stp) (k:K):ER E call s k tm A (some true)=DP s.dst k tm A (s.op E call tm A A.length):=id rfl
@[go_sem] theorem Zos (s:Stp) (k:K):ER E call s k tm A (some false)=k (YN tm s.dst AR) A:=id rfl
@[go_sem] theorem Z5x (d:Option Nat) (k:K) (x:AV):DP d k tm A (some (.made x []))=k (YN tm d x) A:=id rfl
@[go_sem] theorem Zgy (d:Option Nat) (k:K) (x:AV) (b:Blk) (bs:List Blk):DP d k tm A (some (.made x (b::bs)))=k (YN tm d x) (A++b::bs):=id rfl
@[go_sem] theorem Zoq (d:Option Nat) (k:K) (x:AV) (A':List Blk):DP d k tm A (some (.turned x A'))=k (YN tm d x) A':=id rfl
@[go_sem] theorem Zoy (d:Option Nat) (k:K):DP d k tm A none=none:=id rfl
@[go_sem] theorem Zot (x:AV):YN tm none x=tm:=id rfl
@[go_sem] theorem Z5r (t:Nat) (x:AV):YN tm (some t) x=Bk tm t x:=id rfl
@[go_sem] theorem Zh3 (key:Nat) (c:Opd) (a b:CT):cJ key c a b E call kn kx kr tm A=NS (a E call (C6 E key kn) kx kr tm A) (b E call (C6 E key kn) kx kr tm A) (look tm c):=id rfl
theorem Zh1 (key:Nat)(o:Opd)(a b:CT)(h:look tm o=.d (.v (.bool true))):cJ key o a b E call kn kx kr tm A=a E call (C6 E key kn) kx kr tm A:=by
 show NS _ _ (look tm o)=_
 rw[h];rfl
theorem Zh2 (key:Nat)(o:Opd)(a b:CT)(h:look tm o=.d (.v (.bool false))):cJ key o a b E call kn kx kr tm A=b E call (C6 E key kn) kx kr tm A:=by
 show NS _ _ (look tm o)=_
 rw[h];rfl
@[go_sem] theorem Zh4 (x y:DZ) (c:Bool):NS x y (.d (.v (.bool c)))=bif c then x else y:=by cases c<;>rfl
@[go_sem] theorem Zoz (key:Nat) (c:CT):Qw key c E call kn kx kr tm A=Z9 key c E call kx kr 1000000000000000000000000000000 tm A:=id rfl
theorem Z5w (key:Nat)(k:K)(h:E.live key=none):C6 E key k tm A=k tm A:=by unfold C6;rw[h]
@[go_sem] theorem Z5y (t:Nat):look tm (.t t)=ZM tm t:=id rfl
@[go_sem] theorem Zh0 (x:DV):look tm (.c x)=.d x:=id rfl
@[go_sem] theorem Zp0 (f:FuncId):look tm (.f f)=.fn (.func f) []:=id rfl
end
section
variable (tm:List AV) (A:List Blk)
@[go_sem] theorem Zbz (n0:Nat) (rs:List IRes):YD n0 rs tm A=Cj n0 (GM A (JW tm A rs)):=id rfl
@[go_sem] theorem Zby:JW tm A []=some []:=id rfl
@[go_sem] theorem Zbw (t:Nat) (l:List IRes):JW tm A (.tmp t::l)=(JW tm A l).map (ZM tm t:: ·):=by
 simp only[JW,R5]
 cases JW tm A l<;>rfl
@[go_sem] theorem Zk6 (a:Nat) (ag:Bool) (n:Nat) (l:List IRes):JW tm A (.cell a ag n::l)=(DQ A (ZM tm a) ag n).bind fun x=>(JW tm A l).map (x:: ·):=by
 simp only[JW,R5]
 cases DQ A (ZM tm a) ag n<;>cases JW tm A l<;>rfl
@[go_sem] theorem Zbx (x:AV):GM A (some [x])=some (x,A):=id rfl
@[go_sem] theorem Zk5 (x y:AV) (l:List AV):GM A (some (x::y::l))=some (.tup (x::y::l),A):=id rfl
@[go_sem] theorem Zk4:GM A (some [])=some (.tup [],A):=id rfl
@[go_sem] theorem Zom (x:DV):Cj 0 (some (.d x,A))=some (.d x,[]):=by
 simp[Cj,YT,Q1,YA,ZV]
theorem Z19 (cs:List DV):(cs.map AV.d).flatMap (YT 8)=[]:=by
 rw[List.flatMap_map];simp[YT]
theorem Z12 (A:List Blk)(n0:Nat)(ids:List Nat)(cs:List DV):(cs.map AV.d).map (YA A n0 ids 8)=cs.map AV.d:=by simp[YA]
theorem Zgu {i v len sz:Nat}{k:Option Nat}{cs:List DV}{ro:Bool}(h:A[i]? =some (.cells (cs.map .d) v ro)):
  Cj 0 (some (.sref i v 0 len sz k,A))=some (.sref 0 0 0 len sz k,[.cells (cs.map .d) 0 ro]):=by
 have hl:i<A.length:=(List.getElem?_eq_some_iff.1 h).1
 have hr:Q1 A 0 100000 [i] []=[i]:=by
  show(bif Nat.blt i 0 || ZW i [] || !Nat.blt i A.length then _ else Q1 A 0 99999 ([]++DC A[i]?) ([]++[i]))=_
  have h1:Nat.blt i 0=false:=by cases hq:Nat.blt i 0 with
   | false=>rfl
   | true=>exact absurd (Nat.le_of_ble_eq_true hq) (by omega)
  have h2:Nat.blt i A.length=true:=Nat.ble_eq_true_of_le hl
  rw[h1,h2,h]
  simp only[ZW,DC,Z19]
  rfl
 have hb:Q4 A i=some v:=by unfold Q4;rw[h]
 have hi:Q8 [i] i=some 0:=by simp[Q8]
 have h1:Nat.blt i 0=false:=by cases hq:Nat.blt i 0 with
  | false=>rfl
  | true=>exact absurd (Nat.le_of_ble_eq_true hq) (by omega)
 have hs:spot A 0 [i] i v=some (0,0):=by
  simp only[spot,h1,cond_false,hb,hi,Nat.beq_refl,cond_true]
 have e:YA A 0 [i] 8 (.sref i v 0 len sz k)=.sref 0 0 0 len sz k:=by
  show(match spot A 0 [i] i v with | some p=>AV.sref p.1 p.2 0 len sz k | none=>.bot)=_
  rw[hs]
 have e2:ZV A 0 [i]=[.cells (cs.map .d) 0 ro]:=by
  have hg:A.getD i .free=.cells (cs.map .d) v ro:=by rw[List.getD_eq_getElem?_getD,h];rfl
  show(A.take 0).map _++[AE A 0 [i] false (A.getD i .free)]=_
  rw[hg]
  show[Blk.cells ((cs.map AV.d).map (YA A 0 [i] 8)) 0 ro]=_
  rw[Z12]
 show some (YA A 0 (Q1 A 0 100000 ([i]++(A.take 0).flatMap _) []) 8 _,ZV A 0 (Q1 A 0 100000 ([i]++(A.take 0).flatMap _) []))=_
 rw[show([i]++(A.take 0).flatMap fun b=>DC (some b))=[i] from rfl,hr,e,e2]
end
section
variable (E:Env) (call:cT) (tm:List AV) (A:List Blk) (nb:Nat)
@[go_sem] theorem Z23 (x:Opd):oV x E call tm A nb=some (.made (look tm x) []):=id rfl
@[go_sem] theorem Zlw (op:BinOp) (x y:Opd):oB op x y E call tm A nb=one? (YF op (look tm x) (look tm y)):=id rfl
@[go_sem] theorem Zkv (x:AV):one? (some x)=some (.made x []):=id rfl
@[go_sem] theorem Zdg (neg:Bool) (sh:Sh) (x y:Opd):GR neg sh x y E call tm A nb=K9 neg (F3 sh (look tm x) (look tm y)):=id rfl
@[go_sem] theorem Zdf (neg b:Bool):K9 neg (some b)=some (.made (ZZ (if neg then !b else b)) []):=id rfl
theorem Zdd (cells:List AV)(len s:Nat)(parts:List (Nat×Nat×Opd)):Y2 cells len s parts E call tm A nb=GU (HG E 1000000) len s nb (JJ tm cells parts):=id rfl
@[go_sem] theorem Zdb (len s:Nat) (o:Option (List AV)):GU false len s nb o=M7 len s nb o:=id rfl
@[go_sem] theorem Zl3 (len s:Nat) (cs:List AV):GU true len s nb (some cs)=M6 len s nb cs (CM cs):=id rfl
@[go_sem] theorem Zl4 (len s:Nat) (cs:List AV) (ds:List DV):M6 len s nb cs (some ds)=some (.made (.d (.lst ds len (some len))) []):=id rfl
@[go_sem] theorem Zlm:CM []=some []:=id rfl
@[go_sem] theorem Zll (x:DV) (l:List AV):CM (.d x::l)=(CM l).map (x:: ·):=id rfl
@[go_sem] theorem Zdc (len s:Nat) (cs:List AV):M7 len s nb (some cs)=some (.made (.sref nb 0 0 len s (some len)) [.cells cs 0 false]):=id rfl
@[go_sem] theorem Zdj (str:Bool) (s bytes:Nat) (b x:Opd):Y5 str s bytes b x E call tm A nb=RM A nb s bytes (look tm b) (CH A str s (look tm x)):=id rfl
@[go_sem] theorem Zdi (s bytes:Nat) (b:AV) (new:List AV) (n:Nat):RM A nb s bytes b (some (new,n))=Dk A nb s b (ZS A s bytes b new n):=id rfl
@[go_sem] theorem Zly (s:Nat) (b:AV):Dk A nb s b (some .same)=some (.made b []):=id rfl
@[go_sem] theorem Zdh (s:Nat) (b:AV) (cs:List AV) (len:Nat):Dk A nb s b (some (.fresh cs len))=some (.made (.sref nb 0 0 len s none) [.cells cs 0 false]):=id rfl
@[go_sem] theorem Zlx (s:Nat) (b:AV) (i:Nat) (blk:Blk) (x:AV):Dk A nb s b (some (.turn i blk x))=some (.turned x (A.set i blk)):=id rfl
@[go_sem] theorem Zde (cells:List AV):JJ tm cells []=some cells:=id rfl
end
theorem Zee (a:Int)(k:Nat)(hk:k<=62):∃ r:Nat,r<2^k/\E8 .and .i64 a ((2^k-1:Nat):Int)=some (.int .i64 r):=by
 refine⟨(BitVec.ofInt 64 a).toNat%2^k,Nat.mod_lt _ (Nat.two_pow_pos k),?_⟩
 have hp:2^k<=2^62:=Nat.pow_le_pow_right (by omega) hk
 have h1:(BitVec.ofInt 64 a&&&BitVec.ofInt 64 ((2^k-1:Nat):Int)).toNat=(BitVec.ofInt 64 a).toNat%2^k:=by
  rw[BitVec.toNat_and]
  have:(BitVec.ofInt 64 ((2^k-1:Nat):Int)).toNat=2^k-1:=by
   rw[BitVec.ofInt_natCast,BitVec.toNat_ofNat]
   exact Nat.mod_eq_of_lt (by omega)
  rw[this,Nat.and_two_pow_sub_one_eq_mod]
 have h2:IntKind.i64.wrap (((BitVec.ofInt 64 a).toNat%2^k:Nat):Int)=(((BitVec.ofInt 64 a).toNat%2^k:Nat):Int):=by
  have hlt:=Nat.mod_lt (BitVec.ofInt 64 a).toNat (Nat.two_pow_pos k)
  generalize (BitVec.ofInt 64 a).toNat%2^k=r at hlt ⊢
  simp[IntKind.wrap,IntKind.bits,IntKind.signed]
  omega
 show some (Value.int .i64 (IntKind.i64.wrap ((BitVec.ofInt 64 a&&&BitVec.ofInt 64 _).toNat:Nat)))=_
 rw[h1,h2]
theorem R9 (A:List Blk)(s bytes i ver off len sz:Nat)(k:Option Nat)(new:List AV)(n:Nat):ZS A s bytes (.sref i ver off len sz k) new n=
  if n=0 then some .same else
  if sz≠s∨Z4<(len+n)*bytes∨Z4<len+n∨new.all AV.one=false then none else
  match A[i]? with
  | some (.cells cs v ro)=>
   if v≠ver∨cs.length<off+len*s then none else
   match k with
   | some c=>
    if c<len+n then some (.fresh ((cs.drop off).take (len*s)++new) (len+n))
    else if ro=false/\off+(len+n)*s<=cs.length then some (.turn i (.cells (splice cs (off+len*s) new) v ro) (.sref i ver off (len+n) sz k))
    else none
   | none=>
    if ro then none else
    if off+(len+n)*s<=cs.length then some (.turn i (.cells (splice cs (off+len*s) new) v ro) (.sref i ver off (len+n) sz none))
    else if off=0/\len*s=cs.length then some (.turn i (.cells (cs++new) (v+1) ro) (.sref i (v+1) 0 (len+n) sz none))
    else none
  | _=>none:=rfl
theorem Z7b (A:List Blk)(s bytes i c len:Nat)(cs new:List AV)(v:Nat)(hA:A[i]? =some (.cells cs v false))(hn:len≠0)(hc:c=0)(h1:len*bytes<=Z4)(h2:len<=Z4)(h3:new.all AV.one=true):
  ZS A s bytes (.sref i v 0 0 s (some c)) new len=some (.fresh new len):=by
 rw[R9,if_neg hn,if_neg (by rw[h3];simp;exact⟨by omega,by omega⟩),hA]
 simp[hc]
 omega
end Go.Aug
