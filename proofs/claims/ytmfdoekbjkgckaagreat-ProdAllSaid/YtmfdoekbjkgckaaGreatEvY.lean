import Derived.Test.YtmfdoekbjkgckaaGreatEvC
import Derived.Attr
namespace Go.Aug
open Go
abbrev st (t:Nat)(op:ZM):Stp:=⟨some t,none,op⟩
abbrev su (op:ZM):Stp:=⟨none,none,op⟩
abbrev sg (t j:Nat)(w:Bool)(op:ZM):Stp:=⟨some t,some (j,w),op⟩
abbrev ci (n:Int):Opd:=.c (.v (.int .i64 n))
abbrev zi:AV:=.d (.v (.int .i64 0))
abbrev zb:AV:=.d (.v (.bool false))
abbrev zt:AV:=.d (.v (.string ⟨#[]⟩))
abbrev zn:AV:=.d (.lst [] 0 (some 0))
def ZE (d:AV):List (Nat×AV)->Nat->AV
 | [],_=>d
 | p::S,k=>if p.1=k then p.2 else ZE d S k
def P1 (S:List (Nat×AV))(k:Nat)(x:AV):List (Nat×AV):=(k,x)::S
def BC (d:AV)(S:List (Nat×AV)):Nat->Nat->List AV
 | 0,_=>[]
 | n+1,k=>ZE d S k::BC d S n (k+1)
def mk (d:AV)(N:Nat)(S:List (Nat×AV)):List AV:=BC d S N 0
theorem Z44 (d:AV)(S:List (Nat×AV)):∀ n k i,i<n->Y3 (BC d S n k) i=ZE d S (k+i)
 | n+1,k,0,_=>rfl
 | n+1,k,i+1,h=>by
  show Y3 (BC d S n (k+1)) i=_
  rw[Z44 d S n (k+1) i (by omega)]
  congr 1;omega
@[go_sem] theorem Uj (d:AV) (N:Nat) (S:List (Nat×AV)) (i:Nat) (h:i<N):Y3 (mk d N S) i=ZE d S i:=by
 have:=Z44 d S N 0 i h
 simpa [mk] using this
theorem XN (d:AV)(S:List (Nat×AV))(k:Nat)(x:AV)(i:Nat):ZE d (P1 S k x) i=if k=i then x else ZE d S i:=id rfl
theorem Tj (d d':AV)(S S':List (Nat×AV)):∀ n k,(∀ i,k<=i->i<k+n->ZE d S i=ZE d' S' i)->BC d S n k=BC d' S' n k
 | 0,_,_=>rfl
 | n+1,k,h=>by
  simp only[BC]
  rw[h k (Nat.le_refl _) (by omega),Tj d d' S S' n (k+1) (fun i h1 h2=>h i (by omega) (by omega))]
theorem Z2f (d:AV)(S:List (Nat×AV))(x:AV):∀ n k i,i<n->BR (BC d S n k) i x=BC d (P1 S (k+i) x) n k
 | n+1,k,0,_=>by
  simp only[BC,BR,Nat.add_zero]
  rw[XN,if_pos rfl]
  congr 1
  refine Tj _ _ _ _ n (k+1) fun i h1 _=> ?_
  rw[XN,if_neg (by omega)]
 | n+1,k,i+1,h=>by
  simp only[BC,BR]
  rw[Z2f d S x n (k+1) i (by omega),XN,if_neg (by omega)]
  have e:k+1+i=k+(i+1):=by omega
  rw[e]
@[go_sem] theorem Z2g (d:AV) (N:Nat) (S:List (Nat×AV)) (i:Nat) (x:AV) (h:i<N):BR (mk d N S) i x=mk d N (P1 S i x):=by
 have:=Z2f d S x N 0 i h
 simpa [mk] using this
def N3:Nat->List AV->List (Nat×AV)
 | _,[]=>[]
 | k,x::l=>(k,x)::N3 (k+1) l
theorem Z1u:∀ n k,FY n=BC JH [] n k
 | 0,_=>rfl
 | n+1,k=>by simp[FY,BC,ZE,Z1u n (k+1)]
theorem Z9u:∀(l:List AV) (n k:Nat),l.length<=n->l++FY (n-l.length)=BC JH (N3 k l) n k
 | [],n,k,_=>by simp[N3];exact Z1u n k
 | x::l,0,k,h=>by simp at h
 | x::l,n+1,k,h=>by
  have e:n+1-(x::l).length=n-l.length:=by simp
  rw[e,List.cons_append,Z9u l n (k+1) (by simpa using h)]
  simp only[BC,N3,ZE,if_true]
  congr 1
  refine Tj _ _ _ _ n (k+1) fun i h1 _=> ?_
  simp only[ZE]
  rw[if_neg (by omega)]
theorem ZY (N:Nat)(rs:List IRes)(c:CT)(E:Env)(call:cT)(f:FuncId)(args:List AV)(A:List Blk)(h:Nat.ble args.length N=true):
  ZZ N rs c E call f args A=c { E with live:=E.lives f,nb0:=A.length } call (Y0 A.length rs) (fun _ _ _=>none) (Y0 A.length rs) (mk JH N (N3 0 args)) A:=by
 unfold ZZ
 rw[Z9u args N 0 (Nat.le_of_ble_eq_true h)]
 rfl
attribute [go_sem] N3 P1 ZE if_true if_false cond_true cond_false List.length_nil List.length_cons Option.map_some Option.map_none Option.bind_some Option.bind_none ite_true ite_false Bool.not_true Bool.not_false List.nil_append List.cons_append List.map_cons List.map_nil
section
variable (E:Env) (call:cT) (kn:K) (kx:Nat->K) (kr:K) (tm:List AV) (A:List Blk)
@[go_sem] theorem Z89 (a b:CT):cQ a b E call kn kx kr tm A=a E call (b E call kn kx kr) kx kr tm A:=id rfl
@[go_sem] theorem Zl1:cK E call kn kx kr tm A=kn tm A:=id rfl
@[go_sem] theorem Z8a:cZ E call kn kx kr tm A=kr tm A:=id rfl
@[go_sem] theorem Zta (i:Nat):QN i E call kn kx kr tm A=kx i tm A:=id rfl
@[go_sem] theorem Ztc (i:Nat) (c:CT):ZQ i c E call kn kx kr tm A=c E call kn (K1 i kn kx) kr tm A:=id rfl
@[go_sem] theorem Ztb (i j:Nat):K1 i kn kx j tm A=(if j=i then kn else kx j) tm A:=by
 unfold K1
 by_cases h:j=i
 ·subst h;simp
 ·have:Nat.beq j i=false:=by
   cases hb:Nat.beq j i with
   | false=>rfl
   | true=>exact absurd (Nat.eq_of_beq_eq_true hb) h
  rw[this,if_neg h];rfl
@[go_sem] theorem Z8b:Z3 [] E call kn kx kr tm A=kn tm A:=id rfl
@[go_sem] theorem Z8c (d:Option Nat) (op:ZM) (l:List Stp):Z3 (⟨d,none,op⟩::l) E call kn kx kr tm A=EB d (Z3 l E call kn kx kr) tm A (op E call tm A A.length):=id rfl
@[go_sem] theorem Zt5 (d:Option Nat) (t:Nat) (b:Bool) (op:ZM) (l:List Stp):Z3 (⟨d,some (t,b),op⟩::l) E call kn kx kr tm A=FA E call ⟨d,some (t,b),op⟩ (Z3 l E call kn kx kr) tm A (MJ b (Y3 tm t)):=id rfl
@[go_sem] theorem Zsx (c:Bool):MJ true (.d (.v (.bool c)))=some c:=by cases c<;>rfl
@[go_sem] theorem Zsy (c:Bool):MJ false (.d (.v (.bool c)))=some !c:=by cases c<;>rfl
@[go_sem] theorem Zsw (b:Bool):MJ b (.d (.tup []))=some false:=id rfl
@[go_sem] theorem Zt0 (s:Stp) (k:K):FA E call s k tm A (some true)=EB s.dst k tm A (s.op E call tm A A.length):=id rfl
@[go_sem] theorem Zt1 (s:Stp) (k:K):FA E call s k tm A (some false)=k (Qx tm s.dst JH) A:=id rfl
@[go_sem] theorem Z8e (d:Option Nat) (k:K) (x:AV):EB d k tm A (some (.made x []))=k (Qx tm d x) A:=id rfl
@[go_sem] theorem Zl2 (d:Option Nat) (k:K) (x:AV) (b:Blk) (bs:List Blk):EB d k tm A (some (.made x (b::bs)))=k (Qx tm d x) (A++b::bs):=id rfl
@[go_sem] theorem Zsz (d:Option Nat) (k:K) (x:AV) (A':List Blk):EB d k tm A (some (.turned x A'))=k (Qx tm d x) A':=id rfl
@[go_sem] theorem Zt7 (d:Option Nat) (k:K):EB d k tm A none=none:=id rfl
@[go_sem] theorem Zt2 (x:AV):Qx tm none x=tm:=id rfl
@[go_sem] theorem Z88 (t:Nat) (x:AV):Qx tm (some t) x=BR tm t x:=id rfl
@[go_sem] theorem Zl6 (key:Nat) (c:Opd) (a b:CT):cJ key c a b E call kn kx kr tm A=PT (a E call (BU E key kn) kx kr tm A) (b E call (BU E key kn) kx kr tm A) (look tm c):=id rfl
theorem Zl4 (key:Nat)(o:Opd)(a b:CT)(h:look tm o=.d (.v (.bool true))):cJ key o a b E call kn kx kr tm A=a E call (BU E key kn) kx kr tm A:=by
 show PT _ _ (look tm o)=_
 rw[h];rfl
theorem Zl5 (key:Nat)(o:Opd)(a b:CT)(h:look tm o=.d (.v (.bool false))):cJ key o a b E call kn kx kr tm A=b E call (BU E key kn) kx kr tm A:=by
 show PT _ _ (look tm o)=_
 rw[h];rfl
@[go_sem] theorem Zl7 (x y:DU) (c:Bool):PT x y (.d (.v (.bool c)))=bif c then x else y:=by cases c<;>rfl
@[go_sem] theorem Zt8 (key:Nat) (c:CT):QW key c E call kn kx kr tm A=Z9 key c E call kx kr 1000000000000000000000000000000 tm A:=id rfl
theorem Z8d (key:Nat)(k:K)(h:E.live key=none):BU E key k tm A=k tm A:=by unfold BU;rw[h]
@[go_sem] theorem Z8g (t:Nat):look tm (.t t)=Y3 tm t:=id rfl
@[go_sem] theorem Zl3 (x:DV):look tm (.c x)=.d x:=id rfl
@[go_sem] theorem Zt9 (f:FuncId):look tm (.f f)=.fn (.func f) []:=id rfl
end
section
variable (tm:List AV) (A:List Blk)
@[go_sem] theorem Zg0 (n0:Nat) (rs:List IRes):Y0 n0 rs tm A=CN n0 (HE A (AQ tm A rs)):=id rfl
@[go_sem] theorem Zfz:AQ tm A []=some []:=id rfl
@[go_sem] theorem Zfx (t:Nat) (l:List IRes):AQ tm A (.tmp t::l)=(AQ tm A l).map (Y3 tm t:: ·):=by
 simp only[AQ,Sj]
 cases AQ tm A l<;>rfl
@[go_sem] theorem Zoh (a:Nat) (ag:Bool) (n:Nat) (l:List IRes):AQ tm A (.cell a ag n::l)=(ED A (Y3 tm a) ag n).bind fun x=>(AQ tm A l).map (x:: ·):=by
 simp only[AQ,Sj]
 cases ED A (Y3 tm a) ag n<;>cases AQ tm A l<;>rfl
@[go_sem] theorem Zfy (x:AV):HE A (some [x])=some (x,A):=id rfl
@[go_sem] theorem Zog (x y:AV) (l:List AV):HE A (some (x::y::l))=some (.tup (x::y::l),A):=id rfl
@[go_sem] theorem Zof:HE A (some [])=some (.tup [],A):=id rfl
@[go_sem] theorem Zsv (x:DV):CN 0 (some (.d x,A))=some (.d x,[]):=by
 simp[CN,YV,Q8,Yw,Y9]
theorem Z31 (cs:List DV):(cs.map AV.d).flatMap (YV 8)=[]:=by
 rw[List.flatMap_map];simp[YV]
theorem Z2v (A:List Blk)(n0:Nat)(ids:List Nat)(cs:List DV):(cs.map AV.d).map (Yw A n0 ids 8)=cs.map AV.d:=by simp[Yw]
theorem Zky {i v len sz:Nat}{k:Option Nat}{cs:List DV}{ro:Bool}(h:A[i]? =some (.cells (cs.map .d) v ro)):
  CN 0 (some (.sref i v 0 len sz k,A))=some (.sref 0 0 0 len sz k,[.cells (cs.map .d) 0 ro]):=by
 have hl:i<A.length:=(List.getElem?_eq_some_iff.1 h).1
 have hr:Q8 A 0 100000 [i] []=[i]:=by
  show(bif Nat.blt i 0 || Yv i [] || !Nat.blt i A.length then _ else Q8 A 0 99999 ([]++C7 A[i]?) ([]++[i]))=_
  have h1:Nat.blt i 0=false:=by cases hq:Nat.blt i 0 with
   | false=>rfl
   | true=>exact absurd (Nat.le_of_ble_eq_true hq) (by omega)
  have h2:Nat.blt i A.length=true:=Nat.ble_eq_true_of_le hl
  rw[h1,h2,h]
  simp only[Yv,C7,Z31]
  rfl
 have hb:QP A i=some v:=by unfold QP;rw[h]
 have hi:QM [i] i=some 0:=by simp[QM]
 have h1:Nat.blt i 0=false:=by cases hq:Nat.blt i 0 with
  | false=>rfl
  | true=>exact absurd (Nat.le_of_ble_eq_true hq) (by omega)
 have hs:spot A 0 [i] i v=some (0,0):=by
  simp only[spot,h1,cond_false,hb,hi,Nat.beq_refl,cond_true]
 have e:Yw A 0 [i] 8 (.sref i v 0 len sz k)=.sref 0 0 0 len sz k:=by
  show(match spot A 0 [i] i v with | some p=>AV.sref p.1 p.2 0 len sz k | none=>.bot)=_
  rw[hs]
 have e2:Y9 A 0 [i]=[.cells (cs.map .d) 0 ro]:=by
  have hg:A.getD i .free=.cells (cs.map .d) v ro:=by rw[List.getD_eq_getElem?_getD,h];rfl
  show(A.take 0).map _++[AG A 0 [i] false (A.getD i .free)]=_
  rw[hg]
  show[Blk.cells ((cs.map AV.d).map (Yw A 0 [i] 8)) 0 ro]=_
  rw[Z2v]
 show some (Yw A 0 (Q8 A 0 100000 ([i]++(A.take 0).flatMap _) []) 8 _,Y9 A 0 (Q8 A 0 100000 ([i]++(A.take 0).flatMap _) []))=_
 rw[show([i]++(A.take 0).flatMap fun b=>C7 (some b))=[i] from rfl,hr,e,e2]
end
section
variable (E:Env) (call:cT) (tm:List AV) (A:List Blk) (nb:Nat)
@[go_sem] theorem Z3u (x:Opd):oV x E call tm A nb=some (.made (look tm x) []):=id rfl
@[go_sem] theorem Zq7 (op:BinOp) (x y:Opd):oB op x y E call tm A nb=one? (Q4 op (look tm x) (look tm y)):=id rfl
@[go_sem] theorem Zp6 (x:AV):one? (some x)=some (.made x []):=id rfl
@[go_sem] theorem Zhi (neg:Bool) (sh:Sh) (x y:Opd):DC neg sh x y E call tm A nb=M5 neg (FP sh (look tm x) (look tm y)):=id rfl
@[go_sem] theorem Zhh (neg b:Bool):M5 neg (some b)=some (.made (YB (if neg then !b else b)) []):=id rfl
theorem Zhf (cells:List AV)(len s:Nat)(parts:List (Nat×Nat×Opd)):Q9 cells len s parts E call tm A nb=HH (KA E 1000000) len s nb (AA tm cells parts):=id rfl
@[go_sem] theorem Zhd (len s:Nat) (o:Option (List AV)):HH false len s nb o=N5 len s nb o:=id rfl
@[go_sem] theorem Zpe (len s:Nat) (cs:List AV):HH true len s nb (some cs)=N4 len s nb cs (D6 cs):=id rfl
@[go_sem] theorem Zpf (len s:Nat) (cs:List AV) (ds:List DV):N4 len s nb cs (some ds)=some (.made (.d (.lst ds len (some len))) []):=id rfl
@[go_sem] theorem Zpx:D6 []=some []:=id rfl
@[go_sem] theorem Zpw (x:DV) (l:List AV):D6 (.d x::l)=(D6 l).map (x:: ·):=id rfl
@[go_sem] theorem Zhe (len s:Nat) (cs:List AV):N5 len s nb (some cs)=some (.made (.sref nb 0 0 len s (some len)) [.cells cs 0 false]):=id rfl
@[go_sem] theorem Zhm (str:Bool) (s bytes:Nat) (b x:Opd):QF str s bytes b x E call tm A nb=ST A nb s bytes (look tm b) (Eq A str s (look tm x)):=id rfl
@[go_sem] theorem Zhl (s bytes:Nat) (b:AV) (new:List AV) (n:Nat):ST A nb s bytes b (some (new,n))=DS A nb s b (J4 A s bytes b new n):=id rfl
@[go_sem] theorem Zq9 (s:Nat) (b:AV):DS A nb s b (some .same)=some (.made b []):=id rfl
@[go_sem] theorem Zhk (s:Nat) (b:AV) (cs:List AV) (len:Nat):DS A nb s b (some (.fresh cs len))=some (.made (.sref nb 0 0 len s none) [.cells cs 0 false]):=id rfl
@[go_sem] theorem Zq8 (s:Nat) (b:AV) (i:Nat) (blk:Blk) (x:AV):DS A nb s b (some (.turn i blk x))=some (.turned x (A.set i blk)):=id rfl
@[go_sem] theorem Zhg (cells:List AV):AA tm cells []=some cells:=id rfl
end
theorem Z4i (a:Int)(k:Nat)(hk:k<=62):∃ r:Nat,r<2^k/\DJ .and .i64 a ((2^k-1:Nat):Int)=some (.int .i64 r):=by
 refine⟨(BitVec.ofInt 64 a).toNat%2^k,Nat.mod_lt _ (Nat.two_pow_pos k),?_⟩
 have hp:2^k<=2^62:=Nat.pow_le_pow_right (by omega) hk
 have h1:(BitVec.ofInt 64 a&&&BitVec.ofInt 64 ((2^k-1:Nat):Int)).toNat=(BitVec.ofInt 64 a).toNat%2^k:=by
  rw[BitVec.toNat_and]
  have:(BitVec.ofInt 64 ((2^k-1:Nat):Int)).toNat=2^k-1:=by
   rw[BitVec.ofInt_natCast,BitVec.toNat_ofNat]
   exact Nat.mod_eq_of_lt (by omega)
  rw[this,Nat.and_two_pow_sub_one_eq_mod]
 have h2:IntKind.i64.wrap (((BitVec.ofInt 64 a).toNat%2^k:Nat):Int)=(((BitVec.ofInt 64 a).toNat%2^k:Nat):Int):=by
  have hlt:=Nat.mod_lt (BitVec.ofInt 64 a).toNat (Nat.two_pow_pos k)
  generalize (BitVec.ofInt 64 a).toNat%2^k=r at hlt ⊢
  simp[IntKind.wrap,IntKind.bits,IntKind.signed]
  omega
 show some (Value.int .i64 (IntKind.i64.wrap ((BitVec.ofInt 64 a&&&BitVec.ofInt 64 _).toNat:Nat)))=_
 rw[h1,h2]
theorem Sw (A:List Blk)(s bytes i ver off len sz:Nat)(k:Option Nat)(new:List AV)(n:Nat):J4 A s bytes (.sref i ver off len sz k) new n=
  if n=0 then some .same else
  if sz≠s∨Z4<(len+n)*bytes∨Z4<len+n∨new.all AV.one=false then none else
  match A[i]? with
  | some (.cells cs v ro)=>
   if v≠ver∨cs.length<off+len*s then none else
   match k with
   | some c=>
    if c<len+n then some (.fresh ((cs.drop off).take (len*s)++new) (len+n))
    else if ro=false/\off+(len+n)*s<=cs.length then some (.turn i (.cells (splice cs (off+len*s) new) v ro) (.sref i ver off (len+n) sz k))
    else none
   | none=>
    if ro then none else
    if off+(len+n)*s<=cs.length then some (.turn i (.cells (splice cs (off+len*s) new) v ro) (.sref i ver off (len+n) sz none))
    else if off=0/\len*s=cs.length then some (.turn i (.cells (cs++new) (v+1) ro) (.sref i (v+1) 0 (len+n) sz none))
    else none
  | _=>none:=rfl
theorem SS (A:List Blk)(s bytes i c len:Nat)(cs new:List AV)(v:Nat)(hA:A[i]? =some (.cells cs v false))(hn:len≠0)(hc:c=0)(h1:len*bytes<=Z4)(h2:len<=Z4)(h3:new.all AV.one=true):
  J4 A s bytes (.sref i v 0 0 s (some c)) new len=some (.fresh new len):=by
 rw[Sw,if_neg hn,if_neg (by rw[h3];simp;exact⟨by omega,by omega⟩),hA]
 simp[hc]
 omega
end Go.Aug
