import Derived.Test.YtmfdoekbjkgckaaGreatEvC
import Derived.Attr
namespace Go.Aug
open Go
abbrev st (t:Nat)(op:ZU):Stp:=⟨some t,none,op⟩
abbrev su (op:ZU):Stp:=⟨none,none,op⟩
abbrev sg (t j:Nat)(w:Bool)(op:ZU):Stp:=⟨some t,some (j,w),op⟩
abbrev ci (n:Int):Opd:=.c (.v (.int .i64 n))
abbrev zi:AV:=.d (.v (.int .i64 0))
abbrev zb:AV:=.d (.v (.bool false))
abbrev zt:AV:=.d (.v (.string ⟨#[]⟩))
abbrev zn:AV:=.d (.lst [] 0 (some 0))
def ZT (d:AV):List (Nat×AV)->Nat->AV
 | [],_=>d
 | p::S,k=>if p.1=k then p.2 else ZT d S k
def Rz (S:List (Nat×AV))(k:Nat)(x:AV):List (Nat×AV):=(k,x)::S
def CF (d:AV)(S:List (Nat×AV)):Nat->Nat->List AV
 | 0,_=>[]
 | n+1,k=>ZT d S k::CF d S n (k+1)
def mk (d:AV)(N:Nat)(S:List (Nat×AV)):List AV:=CF d S N 0
theorem Z6a (d:AV)(S:List (Nat×AV)):∀ n k i,i<n->Y6 (CF d S n k) i=ZT d S (k+i)
 | n+1,k,0,_=>rfl
 | n+1,k,i+1,h=>by
  show Y6 (CF d S n (k+1)) i=_
  rw[Z6a d S n (k+1) i (by omega)]
  congr 1;omega
@[go_sem] theorem VQ (d:AV) (N:Nat) (S:List (Nat×AV)) (i:Nat) (h:i<N):Y6 (mk d N S) i=ZT d S i:=by
 have:=Z6a d S N 0 i h
 simpa [mk] using this
theorem Z1k (d:AV)(S:List (Nat×AV))(k:Nat)(x:AV)(i:Nat):ZT d (Rz S k x) i=if k=i then x else ZT d S i:=id rfl
theorem UH (d d':AV)(S S':List (Nat×AV)):∀ n k,(∀ i,k<=i->i<k+n->ZT d S i=ZT d' S' i)->CF d S n k=CF d' S' n k
 | 0,_,_=>rfl
 | n+1,k,h=>by
  simp only[CF]
  rw[h k (Nat.le_refl _) (by omega),UH d d' S S' n (k+1) (fun i h1 h2=>h i (by omega) (by omega))]
theorem Z4e (d:AV)(S:List (Nat×AV))(x:AV):∀ n k i,i<n->CV (CF d S n k) i x=CF d (Rz S (k+i) x) n k
 | n+1,k,0,_=>by
  simp only[CF,CV,Nat.add_zero]
  rw[Z1k,if_pos rfl]
  congr 1
  refine UH _ _ _ _ n (k+1) fun i h1 _=> ?_
  rw[Z1k,if_neg (by omega)]
 | n+1,k,i+1,h=>by
  simp only[CF,CV]
  rw[Z4e d S x n (k+1) i (by omega),Z1k,if_neg (by omega)]
  have e:k+1+i=k+(i+1):=by omega
  rw[e]
@[go_sem] theorem Z4f (d:AV) (N:Nat) (S:List (Nat×AV)) (i:Nat) (x:AV) (h:i<N):CV (mk d N S) i x=mk d N (Rz S i x):=by
 have:=Z4e d S x N 0 i h
 simpa [mk] using this
def MN:Nat->List AV->List (Nat×AV)
 | _,[]=>[]
 | k,x::l=>(k,x)::MN (k+1) l
theorem Z3u:∀ n k,H7 n=CF JX [] n k
 | 0,_=>rfl
 | n+1,k=>by simp[H7,CF,ZT,Z3u n (k+1)]
theorem Zd6:∀(l:List AV) (n k:Nat),l.length<=n->l++H7 (n-l.length)=CF JX (MN k l) n k
 | [],n,k,_=>by simp[MN];exact Z3u n k
 | x::l,0,k,h=>by simp at h
 | x::l,n+1,k,h=>by
  have e:n+1-(x::l).length=n-l.length:=by simp
  rw[e,List.cons_append,Zd6 l n (k+1) (by simpa using h)]
  simp only[CF,MN,ZT,if_true]
  congr 1
  refine UH _ _ _ _ n (k+1) fun i h1 _=> ?_
  simp only[ZT]
  rw[if_neg (by omega)]
theorem ZP (N:Nat)(rs:List IRes)(c:CT)(E:Env)(call:cT)(f:FuncId)(args:List AV)(A:List Blk)(h:Nat.ble args.length N=true):
  ZJ N rs c E call f args A=c { E with live:=E.lives f,nb0:=A.length } call (ZX A.length rs) (fun _ _ _=>none) (ZX A.length rs) (mk JX N (MN 0 args)) A:=by
 unfold ZJ
 rw[Zd6 args N 0 (Nat.le_of_ble_eq_true h)]
 rfl
attribute [go_sem] MN Rz ZT if_true if_false cond_true cond_false List.length_nil List.length_cons Option.map_some Option.map_none Option.bind_some Option.bind_none ite_true ite_false Bool.not_true Bool.not_false List.nil_append List.cons_append List.map_cons List.map_nil
section
variable (E:Env) (call:cT) (kn:K) (kx:Nat->K) (kr:K) (tm:List AV) (A:List Blk)
@[go_sem] theorem Zbh (a b:CT):cQ a b E call kn kx kr tm A=a E call (b E call kn kx kr) kx kr tm A:=id rfl
@[go_sem] theorem Zqe:cK E call kn kx kr tm A=kn tm A:=id rfl
@[go_sem] theorem Zbi:cZ E call kn kx kr tm A=kr tm A:=id rfl
@[go_sem] theorem Zyt (i:Nat):QJ i E call kn kx kr tm A=kx i tm A:=id rfl
@[go_sem] theorem Zyv (i:Nat) (c:CT):ZS i c E call kn kx kr tm A=c E call kn (H4 i kn kx) kr tm A:=id rfl
@[go_sem] theorem Zyu (i j:Nat):H4 i kn kx j tm A=(if j=i then kn else kx j) tm A:=by
 unfold H4
 by_cases h:j=i
 ·subst h;simp
 ·have:Nat.beq j i=false:=by
   cases hb:Nat.beq j i with
   | false=>rfl
   | true=>exact absurd (Nat.eq_of_beq_eq_true hb) h
  rw[this,if_neg h];rfl
@[go_sem] theorem Zbj:Z1 [] E call kn kx kr tm A=kn tm A:=id rfl
@[go_sem] theorem Zbk (d:Option Nat) (op:ZU) (l:List Stp):Z1 (⟨d,none,op⟩::l) E call kn kx kr tm A=FN d (Z1 l E call kn kx kr) tm A (op E call tm A A.length):=id rfl
@[go_sem] theorem Zyo (d:Option Nat) (t:Nat) (b:Bool) (op:ZU) (l:List Stp):Z1 (⟨d,some (t,b),op⟩::l) E call kn kx kr tm A=GC E call ⟨d,some (t,b),op⟩ (Z1 l E call kn kx kr) tm A (NM b (Y6 tm t)):=id rfl
@[go_sem] theorem Zyg (c:Bool):NM true (.d (.v (.bool c)))=some c:=by cases c<;>rfl
@[go_sem] theorem Zyh (c:Bool):NM false (.d (.v (.bool c)))=some !c:=by cases c<;>rfl
@[go_sem] theorem Zyf (b:Bool):NM b (.d (.tup []))=some false:=id rfl
@[go_sem] theorem Zyj (s:Stp) (k:K):GC E call s k tm A (some true)=FN s.dst k tm A (s.op E call tm A A.length):=id rfl
@[go_sem] theorem Zyk (s:Stp) (k:K):GC E call s k tm A (some false)=k (QF tm s.dst JX) A:=id rfl
@[go_sem] theorem Zbm (d:Option Nat) (k:K) (x:AV):FN d k tm A (some (.made x []))=k (QF tm d x) A:=id rfl
@[go_sem] theorem Zqf (d:Option Nat) (k:K) (x:AV) (b:Blk) (bs:List Blk):FN d k tm A (some (.made x (b::bs)))=k (QF tm d x) (A++b::bs):=id rfl
@[go_sem] theorem Zyi (d:Option Nat) (k:K) (x:AV) (A':List Blk):FN d k tm A (some (.turned x A'))=k (QF tm d x) A':=id rfl
@[go_sem] theorem Zyq (d:Option Nat) (k:K):FN d k tm A none=none:=id rfl
@[go_sem] theorem Zyl (x:AV):QF tm none x=tm:=id rfl
@[go_sem] theorem Zbg (t:Nat) (x:AV):QF tm (some t) x=CV tm t x:=id rfl
@[go_sem] theorem Zqj (key:Nat) (c:Opd) (a b:CT):cJ key c a b E call kn kx kr tm A=S7 (a E call (D2 E key kn) kx kr tm A) (b E call (D2 E key kn) kx kr tm A) (look tm c):=id rfl
theorem Zqh (key:Nat)(o:Opd)(a b:CT)(h:look tm o=.d (.v (.bool true))):cJ key o a b E call kn kx kr tm A=a E call (D2 E key kn) kx kr tm A:=by
 show S7 _ _ (look tm o)=_
 rw[h];rfl
theorem Zqi (key:Nat)(o:Opd)(a b:CT)(h:look tm o=.d (.v (.bool false))):cJ key o a b E call kn kx kr tm A=b E call (D2 E key kn) kx kr tm A:=by
 show S7 _ _ (look tm o)=_
 rw[h];rfl
@[go_sem] theorem Zqk (x y:F6) (c:Bool):S7 x y (.d (.v (.bool c)))=bif c then x else y:=by cases c<;>rfl
@[go_sem] theorem Zyr (key:Nat) (c:CT):QW key c E call kn kx kr tm A=Zj key c E call kx kr 1000000000000000000000000000000 tm A:=id rfl
theorem Zbl (key:Nat)(k:K)(h:E.live key=none):D2 E key k tm A=k tm A:=by unfold D2;rw[h]
@[go_sem] theorem Zbo (t:Nat):look tm (.t t)=Y6 tm t:=id rfl
@[go_sem] theorem Zqg (x:DV):look tm (.c x)=.d x:=id rfl
@[go_sem] theorem Zys (f:FuncId):look tm (.f f)=.fn (.func f) []:=id rfl
end
section
variable (tm:List AV) (A:List Blk)
@[go_sem] theorem Zl1 (n0:Nat) (rs:List IRes):ZX n0 rs tm A=DE n0 (Kx A (BQ tm A rs)):=id rfl
@[go_sem] theorem Zl0:BQ tm A []=some []:=id rfl
@[go_sem] theorem Zky (t:Nat) (l:List IRes):BQ tm A (.tmp t::l)=(BQ tm A l).map (Y6 tm t:: ·):=by
 simp only[BQ,TF]
 cases BQ tm A l<;>rfl
@[go_sem] theorem Zu0 (a:Nat) (ag:Bool) (n:Nat) (l:List IRes):BQ tm A (.cell a ag n::l)=(FP A (Y6 tm a) ag n).bind fun x=>(BQ tm A l).map (x:: ·):=by
 simp only[BQ,TF]
 cases FP A (Y6 tm a) ag n<;>cases BQ tm A l<;>rfl
@[go_sem] theorem Zkz (x:AV):Kx A (some [x])=some (x,A):=id rfl
@[go_sem] theorem Ztz (x y:AV) (l:List AV):Kx A (some (x::y::l))=some (.tup (x::y::l),A):=id rfl
@[go_sem] theorem Zty:Kx A (some [])=some (.tup [],A):=id rfl
@[go_sem] theorem Zye (x:DV):DE 0 (some (.d x,A))=some (.d x,[]):=by
 simp[DE,Q2,QD,Yz,Yq]
theorem Z51 (cs:List DV):(cs.map AV.d).flatMap (Q2 8)=[]:=by
 rw[List.flatMap_map];simp[Q2]
theorem Z4v (A:List Blk)(n0:Nat)(ids:List Nat)(cs:List DV):(cs.map AV.d).map (Yz A n0 ids 8)=cs.map AV.d:=by simp[Yz]
theorem Zqb {i v len sz:Nat}{k:Option Nat}{cs:List DV}{ro:Bool}(h:A[i]? =some (.cells (cs.map .d) v ro)):
  DE 0 (some (.sref i v 0 len sz k,A))=some (.sref 0 0 0 len sz k,[.cells (cs.map .d) 0 ro]):=by
 have hl:i<A.length:=(List.getElem?_eq_some_iff.1 h).1
 have hr:QD A 0 100000 [i] []=[i]:=by
  show(bif Nat.blt i 0 || Yj i [] || !Nat.blt i A.length then _ else QD A 0 99999 ([]++Dx A[i]?) ([]++[i]))=_
  have h1:Nat.blt i 0=false:=by cases hq:Nat.blt i 0 with
   | false=>rfl
   | true=>exact absurd (Nat.le_of_ble_eq_true hq) (by omega)
  have h2:Nat.blt i A.length=true:=Nat.ble_eq_true_of_le hl
  rw[h1,h2,h]
  simp only[Yj,Dx,Z51]
  rfl
 have hb:QZ A i=some v:=by unfold QZ;rw[h]
 have hi:QY [i] i=some 0:=by simp[QY]
 have h1:Nat.blt i 0=false:=by cases hq:Nat.blt i 0 with
  | false=>rfl
  | true=>exact absurd (Nat.le_of_ble_eq_true hq) (by omega)
 have hs:spot A 0 [i] i v=some (0,0):=by
  simp only[spot,h1,cond_false,hb,hi,Nat.beq_refl,cond_true]
 have e:Yz A 0 [i] 8 (.sref i v 0 len sz k)=.sref 0 0 0 len sz k:=by
  show(match spot A 0 [i] i v with | some p=>AV.sref p.1 p.2 0 len sz k | none=>.bot)=_
  rw[hs]
 have e2:Yq A 0 [i]=[.cells (cs.map .d) 0 ro]:=by
  have hg:A.getD i .free=.cells (cs.map .d) v ro:=by rw[List.getD_eq_getElem?_getD,h];rfl
  show(A.take 0).map _++[BJ A 0 [i] false (A.getD i .free)]=_
  rw[hg]
  show[Blk.cells ((cs.map AV.d).map (Yz A 0 [i] 8)) 0 ro]=_
  rw[Z4v]
 show some (Yz A 0 (QD A 0 100000 ([i]++(A.take 0).flatMap _) []) 8 _,Yq A 0 (QD A 0 100000 ([i]++(A.take 0).flatMap _) []))=_
 rw[show([i]++(A.take 0).flatMap fun b=>Dx (some b))=[i] from rfl,hr,e,e2]
end
section
variable (E:Env) (call:cT) (tm:List AV) (A:List Blk) (nb:Nat)
@[go_sem] theorem Z5v (x:Opd):oV x E call tm A nb=some (.made (look tm x) []):=id rfl
@[go_sem] theorem Zvq (op:BinOp) (x y:Opd):oB op x y E call tm A nb=one? (Qz op (look tm x) (look tm y)):=id rfl
@[go_sem] theorem Zup (x:AV):one? (some x)=some (.made x []):=id rfl
@[go_sem] theorem Zmm (neg:Bool) (sh:Sh) (x y:Opd):Dw neg sh x y E call tm A nb=N5 neg (GX sh (look tm x) (look tm y)):=id rfl
@[go_sem] theorem Zml (neg b:Bool):N5 neg (some b)=some (.made (YD (if neg then !b else b)) []):=id rfl
theorem Zmj (cells:List AV)(len s:Nat)(parts:List (Nat×Nat×Opd)):YE cells len s parts E call tm A nb=Kv (Mk E 1000000) len s nb (BA tm cells parts):=id rfl
@[go_sem] theorem Zmh (len s:Nat) (o:Option (List AV)):Kv false len s nb o=P8 len s nb o:=id rfl
@[go_sem] theorem Zux (len s:Nat) (cs:List AV):Kv true len s nb (some cs)=P7 len s nb cs (Ez cs):=id rfl
@[go_sem] theorem Zuy (len s:Nat) (cs:List AV) (ds:List DV):P7 len s nb cs (some ds)=some (.made (.d (.lst ds len (some len))) []):=id rfl
@[go_sem] theorem Zvg:Ez []=some []:=id rfl
@[go_sem] theorem Zvf (x:DV) (l:List AV):Ez (.d x::l)=(Ez l).map (x:: ·):=id rfl
@[go_sem] theorem Zmi (len s:Nat) (cs:List AV):P8 len s nb (some cs)=some (.made (.sref nb 0 0 len s (some len)) [.cells cs 0 false]):=id rfl
@[go_sem] theorem Zmq (str:Bool) (s bytes:Nat) (b x:Opd):YV str s bytes b x E call tm A nb=U9 A nb s bytes (look tm b) (Ek A str s (look tm x)):=id rfl
@[go_sem] theorem Zmp (s bytes:Nat) (b:AV) (new:List AV) (n:Nat):U9 A nb s bytes b (some (new,n))=F4 A nb s b (Q7 A s bytes b new n):=id rfl
@[go_sem] theorem Zvs (s:Nat) (b:AV):F4 A nb s b (some .same)=some (.made b []):=id rfl
@[go_sem] theorem Zmo (s:Nat) (b:AV) (cs:List AV) (len:Nat):F4 A nb s b (some (.fresh cs len))=some (.made (.sref nb 0 0 len s none) [.cells cs 0 false]):=id rfl
@[go_sem] theorem Zvr (s:Nat) (b:AV) (i:Nat) (blk:Blk) (x:AV):F4 A nb s b (some (.turn i blk x))=some (.turned x (A.set i blk)):=id rfl
@[go_sem] theorem Zmk (cells:List AV):BA tm cells []=some cells:=id rfl
end
theorem Z6n (a:Int)(k:Nat)(hk:k<=62):∃ r:Nat,r<2^k/\EZ .and .i64 a ((2^k-1:Nat):Int)=some (.int .i64 r):=by
 refine⟨(BitVec.ofInt 64 a).toNat%2^k,Nat.mod_lt _ (Nat.two_pow_pos k),?_⟩
 have hp:2^k<=2^62:=Nat.pow_le_pow_right (by omega) hk
 have h1:(BitVec.ofInt 64 a&&&BitVec.ofInt 64 ((2^k-1:Nat):Int)).toNat=(BitVec.ofInt 64 a).toNat%2^k:=by
  rw[BitVec.toNat_and]
  have:(BitVec.ofInt 64 ((2^k-1:Nat):Int)).toNat=2^k-1:=by
   rw[BitVec.ofInt_natCast,BitVec.toNat_ofNat]
   exact Nat.mod_eq_of_lt (by omega)
  rw[this,Nat.and_two_pow_sub_one_eq_mod]
 have h2:IntKind.i64.wrap (((BitVec.ofInt 64 a).toNat%2^k:Nat):Int)=(((BitVec.ofInt 64 a).toNat%2^k:Nat):Int):=by
  have hlt:=Nat.mod_lt (BitVec.ofInt 64 a).toNat (Nat.two_pow_pos k)
  generalize (BitVec.ofInt 64 a).toNat%2^k=r at hlt ⊢
  simp[IntKind.wrap,IntKind.bits,IntKind.signed]
  omega
 show some (Value.int .i64 (IntKind.i64.wrap ((BitVec.ofInt 64 a&&&BitVec.ofInt 64 _).toNat:Nat)))=_
 rw[h1,h2]
theorem RW (A:List Blk)(s bytes i ver off len sz:Nat)(k:Option Nat)(new:List AV)(n:Nat):Q7 A s bytes (.sref i ver off len sz k) new n=
  if n=0 then some .same else
  if sz≠s∨Z5<(len+n)*bytes∨Z5<len+n∨new.all AV.one=false then none else
  match A[i]? with
  | some (.cells cs v ro)=>
   if v≠ver∨cs.length<off+len*s then none else
   match k with
   | some c=>
    if c<len+n then some (.fresh ((cs.drop off).take (len*s)++new) (len+n))
    else if ro=false/\off+(len+n)*s<=cs.length then some (.turn i (.cells (splice cs (off+len*s) new) v ro) (.sref i ver off (len+n) sz k))
    else none
   | none=>
    if ro then none else
    if off+(len+n)*s<=cs.length then some (.turn i (.cells (splice cs (off+len*s) new) v ro) (.sref i ver off (len+n) sz none))
    else if off=0/\len*s=cs.length then some (.turn i (.cells (cs++new) (v+1) ro) (.sref i (v+1) 0 (len+n) sz none))
    else none
  | _=>none:=rfl
theorem WY (A:List Blk)(s bytes i c len:Nat)(cs new:List AV)(v:Nat)(hA:A[i]? =some (.cells cs v false))(hn:len≠0)(hc:c=0)(h1:len*bytes<=Z5)(h2:len<=Z5)(h3:new.all AV.one=true):
  Q7 A s bytes (.sref i v 0 0 s (some c)) new len=some (.fresh new len):=by
 rw[RW,if_neg hn,if_neg (by rw[h3];simp;exact⟨by omega,by omega⟩),hA]
 simp[hc]
 omega
end Go.Aug
