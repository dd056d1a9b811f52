import Derived.Test.YthnhboimcidhgaaGreatDoorEvC
import Derived.Attr
namespace Go.Aug
open Go
abbrev st (t:Nat)(op:ZV):Stp:=⟨some t,none,op⟩
abbrev su (op:ZV):Stp:=⟨none,none,op⟩
abbrev sg (t j:Nat)(w:Bool)(op:ZV):Stp:=⟨some t,some (j,w),op⟩
abbrev ci (n:Int):Opd:=.c (.v (.int .i64 n))
abbrev zi:AV:=.d (.v (.int .i64 0))
abbrev zb:AV:=.d (.v (.bool false))
abbrev zt:AV:=.d (.v (.string ⟨#[]⟩))
abbrev zn:AV:=.d (.lst [] 0 (some 0))
def ZX (d:AV):List (Nat×AV)->Nat->AV
 | [],_=>d
 | p::S,k=>if p.1=k then p.2 else ZX d S k
def RF (S:List (Nat×AV))(k:Nat)(x:AV):List (Nat×AV):=(k,x)::S
def CB (d:AV)(S:List (Nat×AV)):Nat->Nat->List AV
 | 0,_=>[]
 | n+1,k=>ZX d S k::CB d S n (k+1)
def mk (d:AV)(N:Nat)(S:List (Nat×AV)):List AV:=CB d S N 0
theorem Z6w (d:AV)(S:List (Nat×AV)):∀ n k i,i<n->Y4 (CB d S n k) i=ZX d S (k+i)
 | n+1,k,0,_=>rfl
 | n+1,k,i+1,h=>by
  show Y4 (CB d S n (k+1)) i=_
  rw[Z6w d S n (k+1) i (by omega)]
  congr 1;omega
@[go_sem] theorem Z17 (d:AV) (N:Nat) (S:List (Nat×AV)) (i:Nat) (h:i<N):Y4 (mk d N S) i=ZX d S i:=by
 have:=Z6w d S N 0 i h
 simpa [mk] using this
theorem Z1s (d:AV)(S:List (Nat×AV))(k:Nat)(x:AV)(i:Nat):ZX d (RF S k x) i=if k=i then x else ZX d S i:=id rfl
theorem V3 (d d':AV)(S S':List (Nat×AV)):∀ n k,(∀ i,k<=i->i<k+n->ZX d S i=ZX d' S' i)->CB d S n k=CB d' S' n k
 | 0,_,_=>rfl
 | n+1,k,h=>by
  simp only[CB]
  rw[h k (Nat.le_refl _) (by omega),V3 d d' S S' n (k+1) (fun i h1 h2=>h i (by omega) (by omega))]
theorem Z4x (d:AV)(S:List (Nat×AV))(x:AV):∀ n k i,i<n->CR (CB d S n k) i x=CB d (RF S (k+i) x) n k
 | n+1,k,0,_=>by
  simp only[CB,CR,Nat.add_zero]
  rw[Z1s,if_pos rfl]
  congr 1
  refine V3 _ _ _ _ n (k+1) fun i h1 _=> ?_
  rw[Z1s,if_neg (by omega)]
 | n+1,k,i+1,h=>by
  simp only[CB,CR]
  rw[Z4x d S x n (k+1) i (by omega),Z1s,if_neg (by omega)]
  have e:k+1+i=k+(i+1):=by omega
  rw[e]
@[go_sem] theorem Z4y (d:AV) (N:Nat) (S:List (Nat×AV)) (i:Nat) (x:AV) (h:i<N):CR (mk d N S) i x=mk d N (RF S i x):=by
 have:=Z4x d S x N 0 i h
 simpa [mk] using this
def MU:Nat->List AV->List (Nat×AV)
 | _,[]=>[]
 | k,x::l=>(k,x)::MU (k+1) l
theorem Z4a:∀ n k,Hw n=CB CK [] n k
 | 0,_=>rfl
 | n+1,k=>by simp[Hw,CB,ZX,Z4a n (k+1)]
theorem Zdq:∀(l:List AV) (n k:Nat),l.length<=n->l++Hw (n-l.length)=CB CK (MU k l) n k
 | [],n,k,_=>by simp[MU];exact Z4a n k
 | x::l,0,k,h=>by simp at h
 | x::l,n+1,k,h=>by
  have e:n+1-(x::l).length=n-l.length:=by simp
  rw[e,List.cons_append,Zdq l n (k+1) (by simpa using h)]
  simp only[CB,MU,ZX,if_true]
  congr 1
  refine V3 _ _ _ _ n (k+1) fun i h1 _=> ?_
  simp only[ZX]
  rw[if_neg (by omega)]
theorem ZC (N:Nat)(rs:List IRes)(c:CT)(E:Env)(call:cT)(f:FuncId)(args:List AV)(A:List Blk)(h:Nat.ble args.length N=true):
  ZB N rs c E call f args A=c { E with live:=E.lives f,nb0:=A.length } call (ZY A.length rs) (fun _ _ _=>none) (ZY A.length rs) (mk CK N (MU 0 args)) A:=by
 unfold ZB
 rw[Zdq args N 0 (Nat.le_of_ble_eq_true h)]
 rfl
attribute [go_sem] MU RF ZX if_true if_false cond_true cond_false List.length_nil List.length_cons Option.map_some Option.map_none Option.bind_some Option.bind_none ite_true ite_false Bool.not_true Bool.not_false List.nil_append List.cons_append List.map_cons List.map_nil
section
variable (E:Env) (call:cT) (kn:K) (kx:Nat->K) (kr:K) (tm:List AV) (A:List Blk)
@[go_sem] theorem Zby (a b:CT):cQ a b E call kn kx kr tm A=a E call (b E call kn kx kr) kx kr tm A:=id rfl
@[go_sem] theorem Zqq:cK E call kn kx kr tm A=kn tm A:=id rfl
@[go_sem] theorem Zbz:cZ E call kn kx kr tm A=kr tm A:=id rfl
@[go_sem] theorem Zzg (i:Nat):Q4 i E call kn kx kr tm A=kx i tm A:=id rfl
@[go_sem] theorem Zzi (i:Nat) (c:CT):ZR i c E call kn kx kr tm A=c E call kn (Hq i kn kx) kr tm A:=id rfl
@[go_sem] theorem Zzh (i j:Nat):Hq i kn kx j tm A=(if j=i then kn else kx j) tm A:=by
 unfold Hq
 by_cases h:j=i
 ·subst h;simp
 ·have:Nat.beq j i=false:=by
   cases hb:Nat.beq j i with
   | false=>rfl
   | true=>exact absurd (Nat.eq_of_beq_eq_true hb) h
  rw[this,if_neg h];rfl
@[go_sem] theorem Zc0:Z1 [] E call kn kx kr tm A=kn tm A:=id rfl
@[go_sem] theorem Zc1 (d:Option Nat) (op:ZV) (l:List Stp):Z1 (⟨d,none,op⟩::l) E call kn kx kr tm A=FP d (Z1 l E call kn kx kr) tm A (op E call tm A A.length):=id rfl
@[go_sem] theorem Zzb (d:Option Nat) (t:Nat) (b:Bool) (op:ZV) (l:List Stp):Z1 (⟨d,some (t,b),op⟩::l) E call kn kx kr tm A=GP E call ⟨d,some (t,b),op⟩ (Z1 l E call kn kx kr) tm A (NU b (Y4 tm t)):=id rfl
@[go_sem] theorem Zz3 (c:Bool):NU true (.d (.v (.bool c)))=some c:=by cases c<;>rfl
@[go_sem] theorem Zz4 (c:Bool):NU false (.d (.v (.bool c)))=some !c:=by cases c<;>rfl
@[go_sem] theorem Zz2 (b:Bool):NU b (.d (.tup []))=some false:=id rfl
@[go_sem] theorem Zz6 (s:Stp) (k:K):GP E call s k tm A (some true)=FP s.dst k tm A (s.op E call tm A A.length):=id rfl
@[go_sem] theorem Zz7 (s:Stp) (k:K):GP E call s k tm A (some false)=k (YZ tm s.dst CK) A:=id rfl
@[go_sem] theorem Zc3 (d:Option Nat) (k:K) (x:AV):FP d k tm A (some (.made x []))=k (YZ tm d x) A:=id rfl
@[go_sem] theorem Zqr (d:Option Nat) (k:K) (x:AV) (b:Blk) (bs:List Blk):FP d k tm A (some (.made x (b::bs)))=k (YZ tm d x) (A++b::bs):=id rfl
@[go_sem] theorem Zz5 (d:Option Nat) (k:K) (x:AV) (A':List Blk):FP d k tm A (some (.turned x A'))=k (YZ tm d x) A':=id rfl
@[go_sem] theorem Zzd (d:Option Nat) (k:K):FP d k tm A none=none:=id rfl
@[go_sem] theorem Zz8 (x:AV):YZ tm none x=tm:=id rfl
@[go_sem] theorem Zbx (t:Nat) (x:AV):YZ tm (some t) x=CR tm t x:=id rfl
@[go_sem] theorem Zqw (key:Nat) (c:Opd) (a b:CT):cJ key c a b E call kn kx kr tm A=Sx (a E call (DT E key kn) kx kr tm A) (b E call (DT E key kn) kx kr tm A) (look tm c):=id rfl
theorem Zqu (key:Nat)(o:Opd)(a b:CT)(h:look tm o=.d (.v (.bool true))):cJ key o a b E call kn kx kr tm A=a E call (DT E key kn) kx kr tm A:=by
 show Sx _ _ (look tm o)=_
 rw[h];rfl
theorem Zqv (key:Nat)(o:Opd)(a b:CT)(h:look tm o=.d (.v (.bool false))):cJ key o a b E call kn kx kr tm A=b E call (DT E key kn) kx kr tm A:=by
 show Sx _ _ (look tm o)=_
 rw[h];rfl
@[go_sem] theorem Zqx (x y:G1) (c:Bool):Sx x y (.d (.v (.bool c)))=bif c then x else y:=by cases c<;>rfl
@[go_sem] theorem Zze (key:Nat) (c:CT):QD key c E call kn kx kr tm A=Z9 key c E call kx kr 1000000000000000000000000000000 tm A:=id rfl
theorem Zc2 (key:Nat)(k:K)(h:E.live key=none):DT E key k tm A=k tm A:=by unfold DT;rw[h]
@[go_sem] theorem Zc4 (t:Nat):look tm (.t t)=Y4 tm t:=id rfl
@[go_sem] theorem Zqt (x:DV):look tm (.c x)=.d x:=id rfl
@[go_sem] theorem Zzf (f:FuncId):look tm (.f f)=.fn (.func f) []:=id rfl
end
section
variable (tm:List AV) (A:List Blk)
@[go_sem] theorem Zln (n0:Nat) (rs:List IRes):ZY n0 rs tm A=Dw n0 (KA A (BM tm A rs)):=id rfl
@[go_sem] theorem Zlm:BM tm A []=some []:=id rfl
@[go_sem] theorem Zlk (t:Nat) (l:List IRes):BM tm A (.tmp t::l)=(BM tm A l).map (Y4 tm t:: ·):=by
 simp only[BM,TQ]
 cases BM tm A l<;>rfl
@[go_sem] theorem Zum (a:Nat) (ag:Bool) (n:Nat) (l:List IRes):BM tm A (.cell a ag n::l)=(FQ A (Y4 tm a) ag n).bind fun x=>(BM tm A l).map (x:: ·):=by
 simp only[BM,TQ]
 cases FQ A (Y4 tm a) ag n<;>cases BM tm A l<;>rfl
@[go_sem] theorem Zll (x:AV):KA A (some [x])=some (x,A):=id rfl
@[go_sem] theorem Zul (x y:AV) (l:List AV):KA A (some (x::y::l))=some (.tup (x::y::l),A):=id rfl
@[go_sem] theorem Zuk:KA A (some [])=some (.tup [],A):=id rfl
@[go_sem] theorem Zz1 (x:DV):Dw 0 (some (.d x,A))=some (.d x,[]):=by
 simp[Dw,Qj,QK,YM,Yq]
theorem Z5q (cs:List DV):(cs.map AV.d).flatMap (Qj 8)=[]:=by
 rw[List.flatMap_map];simp[Qj]
theorem Z5k (A:List Blk)(n0:Nat)(ids:List Nat)(cs:List DV):(cs.map AV.d).map (YM A n0 ids 8)=cs.map AV.d:=by simp[YM]
theorem Zqn {i v len sz:Nat}{k:Option Nat}{cs:List DV}{ro:Bool}(h:A[i]? =some (.cells (cs.map .d) v ro)):
  Dw 0 (some (.sref i v 0 len sz k,A))=some (.sref 0 0 0 len sz k,[.cells (cs.map .d) 0 ro]):=by
 have hl:i<A.length:=(List.getElem?_eq_some_iff.1 h).1
 have hr:QK A 0 100000 [i] []=[i]:=by
  show(bif Nat.blt i 0 || Y8 i [] || !Nat.blt i A.length then _ else QK A 0 99999 ([]++ET A[i]?) ([]++[i]))=_
  have h1:Nat.blt i 0=false:=by cases hq:Nat.blt i 0 with
   | false=>rfl
   | true=>exact absurd (Nat.le_of_ble_eq_true hq) (by omega)
  have h2:Nat.blt i A.length=true:=Nat.ble_eq_true_of_le hl
  rw[h1,h2,h]
  simp only[Y8,ET,Z5q]
  rfl
 have hb:QF A i=some v:=by unfold QF;rw[h]
 have hi:QP [i] i=some 0:=by simp[QP]
 have h1:Nat.blt i 0=false:=by cases hq:Nat.blt i 0 with
  | false=>rfl
  | true=>exact absurd (Nat.le_of_ble_eq_true hq) (by omega)
 have hs:spot A 0 [i] i v=some (0,0):=by
  simp only[spot,h1,cond_false,hb,hi,Nat.beq_refl,cond_true]
 have e:YM A 0 [i] 8 (.sref i v 0 len sz k)=.sref 0 0 0 len sz k:=by
  show(match spot A 0 [i] i v with | some p=>AV.sref p.1 p.2 0 len sz k | none=>.bot)=_
  rw[hs]
 have e2:Yq A 0 [i]=[.cells (cs.map .d) 0 ro]:=by
  have hg:A.getD i .free=.cells (cs.map .d) v ro:=by rw[List.getD_eq_getElem?_getD,h];rfl
  show(A.take 0).map _++[C4 A 0 [i] false (A.getD i .free)]=_
  rw[hg]
  show[Blk.cells ((cs.map AV.d).map (YM A 0 [i] 8)) 0 ro]=_
  rw[Z5k]
 show some (YM A 0 (QK A 0 100000 ([i]++(A.take 0).flatMap _) []) 8 _,Yq A 0 (QK A 0 100000 ([i]++(A.take 0).flatMap _) []))=_
 rw[show([i]++(A.take 0).flatMap fun b=>ET (some b))=[i] from rfl,hr,e,e2]
end
section
variable (E:Env) (call:cT) (tm:List AV) (A:List Blk) (nb:Nat)
@[go_sem] theorem Z6i (x:Opd):oV x E call tm A nb=some (.made (look tm x) []):=id rfl
@[go_sem] theorem Zwc (op:BinOp) (x y:Opd):oB op x y E call tm A nb=one? (YT op (look tm x) (look tm y)):=id rfl
@[go_sem] theorem Zvb (x:AV):one? (some x)=some (.made x []):=id rfl
@[go_sem] theorem Zn2 (neg:Bool) (sh:Sh) (x y:Opd):HG neg sh x y E call tm A nb=Nk neg (H2 sh (look tm x) (look tm y)):=id rfl
@[go_sem] theorem Zn1 (neg b:Bool):Nk neg (some b)=some (.made (Yx (if neg then !b else b)) []):=id rfl
theorem Zmz (cells:List AV)(len s:Nat)(parts:List (Nat×Nat×Opd)):YA cells len s parts E call tm A nb=KE (ME E 1000000) len s nb (Bz tm cells parts):=id rfl
@[go_sem] theorem Zmx (len s:Nat) (o:Option (List AV)):KE false len s nb o=PC len s nb o:=id rfl
@[go_sem] theorem Zvj (len s:Nat) (cs:List AV):KE true len s nb (some cs)=PB len s nb cs (Ez cs):=id rfl
@[go_sem] theorem Zvk (len s:Nat) (cs:List AV) (ds:List DV):PB len s nb cs (some ds)=some (.made (.d (.lst ds len (some len))) []):=id rfl
@[go_sem] theorem Zw2:Ez []=some []:=id rfl
@[go_sem] theorem Zw1 (x:DV) (l:List AV):Ez (.d x::l)=(Ez l).map (x:: ·):=id rfl
@[go_sem] theorem Zmy (len s:Nat) (cs:List AV):PC len s nb (some cs)=some (.made (.sref nb 0 0 len s (some len)) [.cells cs 0 false]):=id rfl
@[go_sem] theorem Zn5 (str:Bool) (s bytes:Nat) (b x:Opd):YQ str s bytes b x E call tm A nb=UB A nb s bytes (look tm b) (E9 A str s (look tm x)):=id rfl
@[go_sem] theorem Zn4 (s bytes:Nat) (b:AV) (new:List AV) (n:Nat):UB A nb s bytes b (some (new,n))=F8 A nb s b (YU A s bytes b new n):=id rfl
@[go_sem] theorem Zwe (s:Nat) (b:AV):F8 A nb s b (some .same)=some (.made b []):=id rfl
@[go_sem] theorem Zn3 (s:Nat) (b:AV) (cs:List AV) (len:Nat):F8 A nb s b (some (.fresh cs len))=some (.made (.sref nb 0 0 len s none) [.cells cs 0 false]):=id rfl
@[go_sem] theorem Zwd (s:Nat) (b:AV) (i:Nat) (blk:Blk) (x:AV):F8 A nb s b (some (.turn i blk x))=some (.turned x (A.set i blk)):=id rfl
@[go_sem] theorem Zn0 (cells:List AV):Bz tm cells []=some cells:=id rfl
end
theorem Z75 (a:Int)(k:Nat)(hk:k<=62):∃ r:Nat,r<2^k/\F4 .and .i64 a ((2^k-1:Nat):Int)=some (.int .i64 r):=by
 refine⟨(BitVec.ofInt 64 a).toNat%2^k,Nat.mod_lt _ (Nat.two_pow_pos k),?_⟩
 have hp:2^k<=2^62:=Nat.pow_le_pow_right (by omega) hk
 have h1:(BitVec.ofInt 64 a&&&BitVec.ofInt 64 ((2^k-1:Nat):Int)).toNat=(BitVec.ofInt 64 a).toNat%2^k:=by
  rw[BitVec.toNat_and]
  have:(BitVec.ofInt 64 ((2^k-1:Nat):Int)).toNat=2^k-1:=by
   rw[BitVec.ofInt_natCast,BitVec.toNat_ofNat]
   exact Nat.mod_eq_of_lt (by omega)
  rw[this,Nat.and_two_pow_sub_one_eq_mod]
 have h2:IntKind.i64.wrap (((BitVec.ofInt 64 a).toNat%2^k:Nat):Int)=(((BitVec.ofInt 64 a).toNat%2^k:Nat):Int):=by
  have hlt:=Nat.mod_lt (BitVec.ofInt 64 a).toNat (Nat.two_pow_pos k)
  generalize (BitVec.ofInt 64 a).toNat%2^k=r at hlt ⊢
  simp[IntKind.wrap,IntKind.bits,IntKind.signed]
  omega
 show some (Value.int .i64 (IntKind.i64.wrap ((BitVec.ofInt 64 a&&&BitVec.ofInt 64 _).toNat:Nat)))=_
 rw[h1,h2]
theorem S3 (A:List Blk)(s bytes i ver off len sz:Nat)(k:Option Nat)(new:List AV)(n:Nat):YU A s bytes (.sref i ver off len sz k) new n=
  if n=0 then some .same else
  if sz≠s∨Z5<(len+n)*bytes∨Z5<len+n∨new.all AV.one=false then none else
  match A[i]? with
  | some (.cells cs v ro)=>
   if v≠ver∨cs.length<off+len*s then none else
   match k with
   | some c=>
    if c<len+n then some (.fresh ((cs.drop off).take (len*s)++new) (len+n))
    else if ro=false/\off+(len+n)*s<=cs.length then some (.turn i (.cells (splice cs (off+len*s) new) v ro) (.sref i ver off (len+n) sz k))
    else none
   | none=>
    if ro then none else
    if off+(len+n)*s<=cs.length then some (.turn i (.cells (splice cs (off+len*s) new) v ro) (.sref i ver off (len+n) sz none))
    else if off=0/\len*s=cs.length then some (.turn i (.cells (cs++new) (v+1) ro) (.sref i (v+1) 0 (len+n) sz none))
    else none
  | _=>none:=rfl
theorem Zdr (A:List Blk)(s bytes i c len:Nat)(cs new:List AV)(v:Nat)(hA:A[i]? =some (.cells cs v false))(hn:len≠0)(hc:c=0)(h1:len*bytes<=Z5)(h2:len<=Z5)(h3:new.all AV.one=true):
  YU A s bytes (.sref i v 0 0 s (some c)) new len=some (.fresh new len):=by
 rw[S3,if_neg hn,if_neg (by rw[h3];simp;exact⟨by omega,by omega⟩),hA]
 simp[hc]
 omega
end Go.Aug
