import Derived.Test.YthnhboimcidhgaaGreatDoorEvC
import Derived.Attr
namespace Go.Aug
open Go
abbrev st (t:Nat)(op:OpF):Stp:=⟨some t,none,op⟩
abbrev su (op:OpF):Stp:=⟨none,none,op⟩
abbrev sg (t j:Nat)(w:Bool)(op:OpF):Stp:=⟨some t,some (j,w),op⟩
abbrev ci (n:Int):Opd:=.c (.v (.int .i64 n))
abbrev zi:AV:=.d (.v (.int .i64 0))
abbrev zb:AV:=.d (.v (.bool false))
abbrev zt:AV:=.d (.v (.string ⟨#[]⟩))
abbrev zn:AV:=.d (.lst [] 0 (some 0))
def getS (d:AV):List (Nat×AV)->Nat->AV
 | [],_=>d
 | p::S,k=>if p.1=k then p.2 else getS d S k
def putS (S:List (Nat×AV))(k:Nat)(x:AV):List (Nat×AV):=(k,x)::S
def tmF (d:AV)(S:List (Nat×AV)):Nat->Nat->List AV
 | 0,_=>[]
 | n+1,k=>getS d S k::tmF d S n (k+1)
def mk (d:AV)(N:Nat)(S:List (Nat×AV)):List AV:=tmF d S N 0
theorem nthA_tmF (d:AV)(S:List (Nat×AV)):∀ n k i,i<n->nthA (tmF d S n k) i=getS d S (k+i)
 | n+1,k,0,_=>rfl
 | n+1,k,i+1,h=>by
  show nthA (tmF d S n (k+1)) i=_
  rw[nthA_tmF d S n (k+1) i (by omega)]
  congr 1;omega
@[go_sem] theorem nthA_mk (d:AV) (N:Nat) (S:List (Nat×AV)) (i:Nat) (h:i<N):nthA (mk d N S) i=getS d S i:=by
 have:=nthA_tmF d S N 0 i h
 simpa [mk] using this
theorem getS_putS (d:AV)(S:List (Nat×AV))(k:Nat)(x:AV)(i:Nat):getS d (putS S k x) i=if k=i then x else getS d S i:=id rfl
theorem tmF_congr (d d':AV)(S S':List (Nat×AV)):∀ n k,(∀ i,k<=i->i<k+n->getS d S i=getS d' S' i)->tmF d S n k=tmF d' S' n k
 | 0,_,_=>rfl
 | n+1,k,h=>by
  simp only[tmF]
  rw[h k (Nat.le_refl _) (by omega),tmF_congr d d' S S' n (k+1) (fun i h1 h2=>h i (by omega) (by omega))]
theorem setA_tmF (d:AV)(S:List (Nat×AV))(x:AV):∀ n k i,i<n->setA (tmF d S n k) i x=tmF d (putS S (k+i) x) n k
 | n+1,k,0,_=>by
  simp only[tmF,setA,Nat.add_zero]
  rw[getS_putS,if_pos rfl]
  congr 1
  refine tmF_congr _ _ _ _ n (k+1) fun i h1 _=> ?_
  rw[getS_putS,if_neg (by omega)]
 | n+1,k,i+1,h=>by
  simp only[tmF,setA]
  rw[setA_tmF d S x n (k+1) i (by omega),getS_putS,if_neg (by omega)]
  have e:k+1+i=k+(i+1):=by omega
  rw[e]
@[go_sem] theorem setA_mk (d:AV) (N:Nat) (S:List (Nat×AV)) (i:Nat) (x:AV) (h:i<N):setA (mk d N S) i x=mk d N (putS S i x):=by
 have:=setA_tmF d S x N 0 i h
 simpa [mk] using this
def numb:Nat->List AV->List (Nat×AV)
 | _,[]=>[]
 | k,x::l=>(k,x)::numb (k+1) l
theorem undefs_tmF:∀ n k,undefs n=tmF aundef [] n k
 | 0,_=>rfl
 | n+1,k=>by simp[undefs,tmF,getS,undefs_tmF n (k+1)]
theorem args_mk:∀(l:List AV) (n k:Nat),l.length<=n->l++undefs (n-l.length)=tmF aundef (numb k l) n k
 | [],n,k,_=>by simp[numb];exact undefs_tmF n k
 | x::l,0,k,h=>by simp at h
 | x::l,n+1,k,h=>by
  have e:n+1-(x::l).length=n-l.length:=by simp
  rw[e,List.cons_append,args_mk l n (k+1) (by simpa using h)]
  simp only[tmF,numb,getS,if_true]
  congr 1
  refine tmF_congr _ _ _ _ n (k+1) fun i h1 _=> ?_
  simp only[getS]
  rw[if_neg (by omega)]
theorem mkF_run (N:Nat)(rs:List IRes)(c:CT)(E:Env)(call:cT)(f:FuncId)(args:List AV)(A:List Blk)(h:Nat.ble args.length N=true):
  mkF N rs c E call f args A=c { E with live:=E.lives f,nb0:=A.length } call (kEnd A.length rs) (fun _ _ _=>none) (kEnd A.length rs) (mk aundef N (numb 0 args)) A:=by
 unfold mkF
 rw[args_mk args N 0 (Nat.le_of_ble_eq_true h)]
 rfl
attribute [go_sem] numb putS getS if_true if_false cond_true cond_false List.length_nil List.length_cons Option.map_some Option.map_none Option.bind_some Option.bind_none ite_true ite_false Bool.not_true Bool.not_false List.nil_append List.cons_append List.map_cons List.map_nil
section
variable (E:Env) (call:cT) (kn:K) (kx:Nat->K) (kr:K) (tm:List AV) (A:List Blk)
@[go_sem] theorem e_seq (a b:CT):cQ a b E call kn kx kr tm A=a E call (b E call kn kx kr) kx kr tm A:=id rfl
@[go_sem] theorem e_skip:cK E call kn kx kr tm A=kn tm A:=id rfl
@[go_sem] theorem e_ret:cZ E call kn kx kr tm A=kr tm A:=id rfl
@[go_sem] theorem e_exit (i:Nat):cExit i E call kn kx kr tm A=kx i tm A:=id rfl
@[go_sem] theorem e_block (i:Nat) (c:CT):cBlock i c E call kn kx kr tm A=c E call kn (blockK i kn kx) kr tm A:=id rfl
@[go_sem] theorem e_blockK (i j:Nat):blockK i kn kx j tm A=(if j=i then kn else kx j) tm A:=by
 unfold blockK
 by_cases h:j=i
 ·subst h;simp
 ·have:Nat.beq j i=false:=by
   cases hb:Nat.beq j i with
   | false=>rfl
   | true=>exact absurd (Nat.eq_of_beq_eq_true hb) h
  rw[this,if_neg h];rfl
@[go_sem] theorem e_ops0:cOz [] E call kn kx kr tm A=kn tm A:=id rfl
@[go_sem] theorem e_ops (d:Option Nat) (op:OpF) (l:List Stp):cOz (⟨d,none,op⟩::l) E call kn kx kr tm A=goOn d (cOz l E call kn kx kr) tm A (op E call tm A A.length):=id rfl
@[go_sem] theorem e_opsG (d:Option Nat) (t:Nat) (b:Bool) (op:OpF) (l:List Stp):cOz (⟨d,some (t,b),op⟩::l) E call kn kx kr tm A=stepW E call ⟨d,some (t,b),op⟩ (cOz l E call kn kx kr) tm A (wantIs b (nthA tm t)):=id rfl
@[go_sem] theorem e_wantT (c:Bool):wantIs true (.d (.v (.bool c)))=some c:=by cases c<;>rfl
@[go_sem] theorem e_wantF (c:Bool):wantIs false (.d (.v (.bool c)))=some !c:=by cases c<;>rfl
@[go_sem] theorem e_wantU (b:Bool):wantIs b (.d (.tup []))=some false:=id rfl
@[go_sem] theorem e_stepT (s:Stp) (k:K):stepW E call s k tm A (some true)=goOn s.dst k tm A (s.op E call tm A A.length):=id rfl
@[go_sem] theorem e_stepF (s:Stp) (k:K):stepW E call s k tm A (some false)=k (setO tm s.dst aundef) A:=id rfl
@[go_sem] theorem e_made0 (d:Option Nat) (k:K) (x:AV):goOn d k tm A (some (.made x []))=k (setO tm d x) A:=id rfl
@[go_sem] theorem e_made1 (d:Option Nat) (k:K) (x:AV) (b:Blk) (bs:List Blk):goOn d k tm A (some (.made x (b::bs)))=k (setO tm d x) (A++b::bs):=id rfl
@[go_sem] theorem e_turned (d:Option Nat) (k:K) (x:AV) (A':List Blk):goOn d k tm A (some (.turned x A'))=k (setO tm d x) A':=id rfl
@[go_sem] theorem e_none (d:Option Nat) (k:K):goOn d k tm A none=none:=id rfl
@[go_sem] theorem e_setN (x:AV):setO tm none x=tm:=id rfl
@[go_sem] theorem e_setS (t:Nat) (x:AV):setO tm (some t) x=setA tm t x:=id rfl
@[go_sem] theorem e_cond (key:Nat) (c:Opd) (a b:CT):cJ key c a b E call kn kx kr tm A=branch (a E call (nrmK E key kn) kx kr tm A) (b E call (nrmK E key kn) kx kr tm A) (look tm c):=id rfl
theorem e_condT (key:Nat)(o:Opd)(a b:CT)(h:look tm o=.d (.v (.bool true))):cJ key o a b E call kn kx kr tm A=a E call (nrmK E key kn) kx kr tm A:=by
 show branch _ _ (look tm o)=_
 rw[h];rfl
theorem e_condF (key:Nat)(o:Opd)(a b:CT)(h:look tm o=.d (.v (.bool false))):cJ key o a b E call kn kx kr tm A=b E call (nrmK E key kn) kx kr tm A:=by
 show branch _ _ (look tm o)=_
 rw[h];rfl
@[go_sem] theorem e_branch (x y:Ans) (c:Bool):branch x y (.d (.v (.bool c)))=bif c then x else y:=by cases c<;>rfl
@[go_sem] theorem e_loop (key:Nat) (c:CT):cLoop key c E call kn kx kr tm A=loopK key c E call kx kr 1000000000000000000000000000000 tm A:=id rfl
theorem e_nrm0 (key:Nat)(k:K)(h:E.live key=none):nrmK E key k tm A=k tm A:=by unfold nrmK;rw[h]
@[go_sem] theorem e_look (t:Nat):look tm (.t t)=nthA tm t:=id rfl
@[go_sem] theorem e_lookC (x:DV):look tm (.c x)=.d x:=id rfl
@[go_sem] theorem e_lookF (f:FuncId):look tm (.f f)=.fn (.func f) []:=id rfl
end
section
variable (tm:List AV) (A:List Blk)
@[go_sem] theorem r_end (n0:Nat) (rs:List IRes):kEnd n0 rs tm A=endN n0 (packed A (evRess tm A rs)):=id rfl
@[go_sem] theorem r_nil:evRess tm A []=some []:=id rfl
@[go_sem] theorem r_tmp (t:Nat) (l:List IRes):evRess tm A (.tmp t::l)=(evRess tm A l).map (nthA tm t:: ·):=by
 simp only[evRess,evRes]
 cases evRess tm A l<;>rfl
@[go_sem] theorem r_cell (a:Nat) (ag:Bool) (n:Nat) (l:List IRes):evRess tm A (.cell a ag n::l)=(evLoad A (nthA tm a) ag n).bind fun x=>(evRess tm A l).map (x:: ·):=by
 simp only[evRess,evRes]
 cases evLoad A (nthA tm a) ag n<;>cases evRess tm A l<;>rfl
@[go_sem] theorem r_one (x:AV):packed A (some [x])=some (x,A):=id rfl
@[go_sem] theorem r_two (x y:AV) (l:List AV):packed A (some (x::y::l))=some (.tup (x::y::l),A):=id rfl
@[go_sem] theorem r_zero:packed A (some [])=some (.tup [],A):=id rfl
@[go_sem] theorem endN_d (x:DV):endN 0 (some (.d x,A))=some (.d x,[]):=by
 simp[endN,refsOf,reach,ren,renH]
theorem refs_map_d (cs:List DV):(cs.map AV.d).flatMap (refsOf 8)=[]:=by
 rw[List.flatMap_map];simp[refsOf]
theorem ren_map_d (A:List Blk)(n0:Nat)(ids:List Nat)(cs:List DV):(cs.map AV.d).map (ren A n0 ids 8)=cs.map AV.d:=by simp[ren]
theorem endN_own {i v len sz:Nat}{k:Option Nat}{cs:List DV}{ro:Bool}(h:A[i]? =some (.cells (cs.map .d) v ro)):
  endN 0 (some (.sref i v 0 len sz k,A))=some (.sref 0 0 0 len sz k,[.cells (cs.map .d) 0 ro]):=by
 have hl:i<A.length:=(List.getElem?_eq_some_iff.1 h).1
 have hr:reach A 0 100000 [i] []=[i]:=by
  show(bif Nat.blt i 0 || memN i [] || !Nat.blt i A.length then _ else reach A 0 99999 ([]++refsB A[i]?) ([]++[i]))=_
  have h1:Nat.blt i 0=false:=by cases hq:Nat.blt i 0 with
   | false=>rfl
   | true=>exact absurd (Nat.le_of_ble_eq_true hq) (by omega)
  have h2:Nat.blt i A.length=true:=Nat.ble_eq_true_of_le hl
  rw[h1,h2,h]
  simp only[memN,refsB,refs_map_d]
  rfl
 have hb:blkVer A i=some v:=by unfold blkVer;rw[h]
 have hi:idx [i] i=some 0:=by simp[idx]
 have h1:Nat.blt i 0=false:=by cases hq:Nat.blt i 0 with
  | false=>rfl
  | true=>exact absurd (Nat.le_of_ble_eq_true hq) (by omega)
 have hs:spot A 0 [i] i v=some (0,0):=by
  simp only[spot,h1,cond_false,hb,hi,Nat.beq_refl,cond_true]
 have e:ren A 0 [i] 8 (.sref i v 0 len sz k)=.sref 0 0 0 len sz k:=by
  show(match spot A 0 [i] i v with | some p=>AV.sref p.1 p.2 0 len sz k | none=>.bot)=_
  rw[hs]
 have e2:renH A 0 [i]=[.cells (cs.map .d) 0 ro]:=by
  have hg:A.getD i .free=.cells (cs.map .d) v ro:=by rw[List.getD_eq_getElem?_getD,h];rfl
  show(A.take 0).map _++[renB A 0 [i] false (A.getD i .free)]=_
  rw[hg]
  show[Blk.cells ((cs.map AV.d).map (ren A 0 [i] 8)) 0 ro]=_
  rw[ren_map_d]
 show some (ren A 0 (reach A 0 100000 ([i]++(A.take 0).flatMap _) []) 8 _,renH A 0 (reach A 0 100000 ([i]++(A.take 0).flatMap _) []))=_
 rw[show([i]++(A.take 0).flatMap fun b=>refsB (some b))=[i] from rfl,hr,e,e2]
end
section
variable (E:Env) (call:cT) (tm:List AV) (A:List Blk) (nb:Nat)
@[go_sem] theorem o_mov (x:Opd):oV x E call tm A nb=some (.made (look tm x) []):=id rfl
@[go_sem] theorem o_bin (op:BinOp) (x y:Opd):oB op x y E call tm A nb=one? (evBin op (look tm x) (look tm y)):=id rfl
@[go_sem] theorem o_one (x:AV):one? (some x)=some (.made x []):=id rfl
@[go_sem] theorem o_eq (neg:Bool) (sh:Sh) (x y:Opd):oEq neg sh x y E call tm A nb=eqDone neg (eqV sh (look tm x) (look tm y)):=id rfl
@[go_sem] theorem o_eqD (neg b:Bool):eqDone neg (some b)=some (.made (abool (if neg then !b else b)) []):=id rfl
theorem o_mkS0 (cells:List AV)(len s:Nat)(parts:List (Nat×Nat×Opd)):oMkS cells len s parts E call tm A nb=mkSW (thF E 1000000) len s nb (fillA tm cells parts):=id rfl
@[go_sem] theorem o_mkSF (len s:Nat) (o:Option (List AV)):mkSW false len s nb o=mkSA len s nb o:=id rfl
@[go_sem] theorem o_mkST (len s:Nat) (cs:List AV):mkSW true len s nb (some cs)=mkSD len s nb cs (deepL cs):=id rfl
@[go_sem] theorem o_mkSD (len s:Nat) (cs:List AV) (ds:List DV):mkSD len s nb cs (some ds)=some (.made (.d (.lst ds len (some len))) []):=id rfl
@[go_sem] theorem o_deepL0:deepL []=some []:=id rfl
@[go_sem] theorem o_deepL1 (x:DV) (l:List AV):deepL (.d x::l)=(deepL l).map (x:: ·):=id rfl
@[go_sem] theorem o_mkS1 (len s:Nat) (cs:List AV):mkSA len s nb (some cs)=some (.made (.sref nb 0 0 len s (some len)) [.cells cs 0 false]):=id rfl
@[go_sem] theorem o_app (str:Bool) (s bytes:Nat) (b x:Opd):oApp str s bytes b x E call tm A nb=appA A nb s bytes (look tm b) (newCells A str s (look tm x)):=id rfl
@[go_sem] theorem o_appA (s bytes:Nat) (b:AV) (new:List AV) (n:Nat):appA A nb s bytes b (some (new,n))=appDone A nb s b (evApp A s bytes b new n):=id rfl
@[go_sem] theorem o_appS (s:Nat) (b:AV):appDone A nb s b (some .same)=some (.made b []):=id rfl
@[go_sem] theorem o_appF (s:Nat) (b:AV) (cs:List AV) (len:Nat):appDone A nb s b (some (.fresh cs len))=some (.made (.sref nb 0 0 len s none) [.cells cs 0 false]):=id rfl
@[go_sem] theorem o_appT (s:Nat) (b:AV) (i:Nat) (blk:Blk) (x:AV):appDone A nb s b (some (.turn i blk x))=some (.turned x (A.set i blk)):=id rfl
@[go_sem] theorem o_fill0 (cells:List AV):fillA tm cells []=some cells:=id rfl
end
theorem mask_of (a:Int)(k:Nat)(hk:k<=62):∃ r:Nat,r<2^k/\evInt .and .i64 a ((2^k-1:Nat):Int)=some (.int .i64 r):=by
 refine⟨(BitVec.ofInt 64 a).toNat%2^k,Nat.mod_lt _ (Nat.two_pow_pos k),?_⟩
 have hp:2^k<=2^62:=Nat.pow_le_pow_right (by omega) hk
 have h1:(BitVec.ofInt 64 a&&&BitVec.ofInt 64 ((2^k-1:Nat):Int)).toNat=(BitVec.ofInt 64 a).toNat%2^k:=by
  rw[BitVec.toNat_and]
  have:(BitVec.ofInt 64 ((2^k-1:Nat):Int)).toNat=2^k-1:=by
   rw[BitVec.ofInt_natCast,BitVec.toNat_ofNat]
   exact Nat.mod_eq_of_lt (by omega)
  rw[this,Nat.and_two_pow_sub_one_eq_mod]
 have h2:IntKind.i64.wrap (((BitVec.ofInt 64 a).toNat%2^k:Nat):Int)=(((BitVec.ofInt 64 a).toNat%2^k:Nat):Int):=by
  have hlt:=Nat.mod_lt (BitVec.ofInt 64 a).toNat (Nat.two_pow_pos k)
  generalize (BitVec.ofInt 64 a).toNat%2^k=r at hlt ⊢
  simp[IntKind.wrap,IntKind.bits,IntKind.signed]
  omega
 show some (Value.int .i64 (IntKind.i64.wrap ((BitVec.ofInt 64 a&&&BitVec.ofInt 64 _).toNat:Nat)))=_
 rw[h1,h2]
theorem evApp_sref (A:List Blk)(s bytes i ver off len sz:Nat)(k:Option Nat)(new:List AV)(n:Nat):evApp A s bytes (.sref i ver off len sz k) new n=
  if n=0 then some .same else
  if sz≠s∨limA<(len+n)*bytes∨limA<len+n∨new.all AV.one=false then none else
  match A[i]? with
  | some (.cells cs v ro)=>
   if v≠ver∨cs.length<off+len*s then none else
   match k with
   | some c=>
    if c<len+n then some (.fresh ((cs.drop off).take (len*s)++new) (len+n))
    else if ro=false/\off+(len+n)*s<=cs.length then some (.turn i (.cells (splice cs (off+len*s) new) v ro) (.sref i ver off (len+n) sz k))
    else none
   | none=>
    if ro then none else
    if off+(len+n)*s<=cs.length then some (.turn i (.cells (splice cs (off+len*s) new) v ro) (.sref i ver off (len+n) sz none))
    else if off=0/\len*s=cs.length then some (.turn i (.cells (cs++new) (v+1) ro) (.sref i (v+1) 0 (len+n) sz none))
    else none
  | _=>none:=rfl
theorem app_new (A:List Blk)(s bytes i c len:Nat)(cs new:List AV)(v:Nat)(hA:A[i]? =some (.cells cs v false))(hn:len≠0)(hc:c=0)(h1:len*bytes<=limA)(h2:len<=limA)(h3:new.all AV.one=true):
  evApp A s bytes (.sref i v 0 0 s (some c)) new len=some (.fresh new len):=by
 rw[evApp_sref,if_neg hn,if_neg (by rw[h3];simp;exact⟨by omega,by omega⟩),hA]
 simp[hc]
 omega
end Go.Aug
