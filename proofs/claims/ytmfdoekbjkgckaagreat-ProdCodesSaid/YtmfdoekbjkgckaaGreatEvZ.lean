import Derived.Test.YtmfdoekbjkgckaaGreatEvY
namespace Go.Aug
open Go
theorem Yx (E:Env)(fn:FuncId->Option (Env->cT->cT))(n:Nat)(f:FuncId)(args:List AV)(A:List Blk):Z5 E fn (n+1) f args A=H7 E (Z5 E fn n) f args A (fn f):=id rfl
theorem Yw (E:Env)(call:cT)(f:FuncId)(args:List AV)(A:List Blk)(F:Env->cT->cT):H7 E call f args A (some F)=F E call f args A:=id rfl
section
variable (E:Env) (call:cT) (kn:K) (kx:Nat->K) (kr:K) (tm:List AV) (A:List Blk)
@[go_sem] theorem Zpi (l:List (Fl×Stp)) (ps:List (Opd×Opd)):Q3 l ps E call kn kx kr tm A=Gk E call l (Gj ps kn) tm A:=id rfl
@[go_sem] theorem Zpc (k:K):Gk E call [] k tm A=k tm A:=id rfl
@[go_sem] theorem Zph (k:K):Gj [] k tm A=k tm A:=id rfl
@[go_sem] theorem Zpk (fg:Fl) (d:Option Nat) (op:Zw) (l:List (Fl×Stp)) (k:K):Gk E call ((fg,⟨d,none,op⟩)::l) k tm A=DN fg d (Gk E call l k) tm A (op E call tm A A.length):=id rfl
@[go_sem] theorem Zpg (fg:Fl) (d:Option Nat) (k:K) (x:AV):DN fg d k tm A (some (.made x []))=k (YN tm d x) A:=by cases fg<;>rfl
@[go_sem] theorem Zpe (d:Option Nat) (k:K) (x:AV) (b:Blk) (bs:List Blk):DN .mk d k tm A (some (.made x (b::bs)))=k (YN tm d x) (A++b::bs):=id rfl
@[go_sem] theorem Zpf (d:Option Nat) (k:K) (x:AV) (b:Blk) (bs:List Blk):DN .any d k tm A (some (.made x (b::bs)))=k (YN tm d x) (A++b::bs):=id rfl
@[go_sem] theorem Zpd (d:Option Nat) (k:K) (x:AV) (b:Blk) (bs:List Blk):DN .tn d k tm A (some (.made x (b::bs)))=k (YN tm d x) (A++b::bs):=id rfl
@[go_sem] theorem Zp8 (d:Option Nat) (k:K) (x:AV) (A1:List Blk) (h:A.length<=A1.length):DN .tn d k tm A (some (.turned x A1))=k (YN tm d x) A1:=by
 show(bif Nat.ble A.length A1.length then _ else _)=_
 rw[Nat.ble_eq_true_of_le h];rfl
@[go_sem] theorem Zp9 (d:Option Nat) (k:K) (x:AV) (A1:List Blk) (h:A.length<=A1.length):DN .any d k tm A (some (.turned x A1))=k (YN tm d x) A1:=by
 show(bif Nat.ble A.length A1.length then _ else _)=_
 rw[Nat.ble_eq_true_of_le h];rfl
end
@[go_sem] theorem Znh (cs:List AV) (v w:Nat) (ro:Bool) (A:List Blk) (o:Nat):cellsAt (.cells cs v ro::A) 0 w o=if v=w then some (cs.drop o) else none:=id rfl
@[go_sem] theorem Zng (b:Blk) (A:List Blk) (i v o:Nat):cellsAt (b::A) (i+1) v o=cellsAt A i v o:=id rfl
@[go_sem] theorem Zmk (n:Nat) (x:AV) (cs:List AV):AY false n (x::cs)=some x:=id rfl
@[go_sem] theorem Zmh (n:Nat) (x:DV) (cs:List DV):BQ false n (x::cs)=some x:=id rfl
def WG (a:DV):Option DV->Option DV
 | some (.agg l)=>some (.agg (a::l))
 | _=>none
def WH (a:AV):Option AV->Option AV
 | some (.agg l)=>some (.agg (a::l))
 | _=>none
@[go_sem] theorem Zmg (cs:List DV):BQ true 0 cs=some (.agg []):=by simp[BQ]
@[go_sem] theorem Zmj (cs:List AV):AY true 0 cs=some (.agg []):=by simp[AY]
@[go_sem] theorem Zn4 (a:DV) (l:List DV):WG a (some (.agg l))=some (.agg (a::l)):=id rfl
@[go_sem] theorem Zn5 (a:AV) (l:List AV):WH a (some (.agg l))=some (.agg (a::l)):=id rfl
@[go_sem] theorem Zmf (n:Nat) (a:DV) (cs:List DV):BQ true (n+1) (a::cs)=WG a (BQ true n cs):=by
 show(if n+1<=(a::cs).length then some (DV.agg ((a::cs).take (n+1))) else none)=WG a (if n<=cs.length then some (.agg (cs.take n)) else none)
 by_cases h:n<=cs.length
 ·rw[if_pos h,if_pos (by simpa using h)];rfl
 ·rw[if_neg h,if_neg (by simpa using h)];rfl
@[go_sem] theorem Zmi (n:Nat) (a:AV) (cs:List AV):AY true (n+1) (a::cs)=WH a (AY true n cs):=by
 show(if n+1<=(a::cs).length then some (AV.agg ((a::cs).take (n+1))) else none)=WH a (if n<=cs.length then some (.agg (cs.take n)) else none)
 by_cases h:n<=cs.length
 ·rw[if_pos h,if_pos (by simpa using h)];rfl
 ·rw[if_neg h,if_neg (by simpa using h)];rfl
@[go_sem] theorem Zmw (A:List Blk) (i v o:Nat) (ag:Bool) (n:Nat):DQ A (.ref i v o) ag n=(cellsAt A i v o).bind (AY ag n):=by
 show(match cellsAt A i v o with | some cs=>AY ag n cs | none=>none)=_
 cases cellsAt A i v o<;>rfl
@[go_sem] theorem Zmv (A:List Blk) (cs:List DV) (ag:Bool) (n:Nat):DQ A (.d (.vptr cs)) ag n=(BQ ag n cs).map .d:=id rfl
def storeAt (A:List Blk)(i v o:Nat)(cs:List AV)(n:Nat):Option Blk->Option (List Blk)
 | some (.cells c v' false)=>if v'=v/\cs.length=n/\o+n<=c.length/\cs.all AV.one=true then some (A.set i (.cells (splice c o cs) v' false)) else none
 | _=>none
@[go_sem] theorem Zml (A:List Blk) (i v o:Nat) (x:AV) (n:Nat):GX A (.ref i v o) x n=storeAt A i v o x.cells n A[i]? :=by
 show(match A[i]? with
  | some (.cells cs v' false)=>if v'=v/\x.cells.length=n/\o+n<=cs.length/\x.cells.all AV.one=true then some (A.set i (.cells (splice cs o x.cells) v' false)) else none
  | _=>none)=_
 cases A[i]? with
 | none=>rfl
 | some b=>cases b with
  | cells cs v' ro=>cases ro<;>rfl
  | iter=>rfl
  | free=>rfl
@[go_sem] theorem VF (A : List Blk) (i v o : Nat) (cs : List AV) (n : Nat) (c : List AV) (v' : Nat) : storeAt A i v o cs n (some (.cells c v' false)) =
  if v'=v/\cs.length=n/\o+n<=c.length/\cs.all AV.one=true then some (A.set i (.cells (splice c o cs) v' false)) else none:=id rfl
@[go_sem] theorem Zmm (c:List AV) (o:Nat) (cs:List AV):splice c o cs=c.take o++cs++c.drop (o+cs.length):=id rfl
@[go_sem] theorem Zmt (k:IntKind) (n:Int):AV.one (.d (.v (.int k n)))=true:=id rfl
@[go_sem] theorem Zmu (b:Bool):AV.one (.d (.v (.bool b)))=true:=id rfl
@[go_sem] theorem Zmp (s:ByteArray):AV.one (.d (.v (.string s)))=true:=id rfl
@[go_sem] theorem Zms (cs:List DV) (n:Nat) (k:Option Nat):AV.one (.d (.lst cs n k))=true:=id rfl
@[go_sem] theorem Zmq (i v o len sz:Nat) (k:Option Nat):AV.one (.sref i v o len sz k)=true:=id rfl
@[go_sem] theorem Zmr (i v o:Nat):AV.one (.ref i v o)=true:=id rfl
@[go_sem] theorem Znc (cs:List AV):AV.cells (.agg cs)=cs:=id rfl
@[go_sem] theorem Zna (cs:List DV):AV.cells (.d (.agg cs))=cs.map .d:=id rfl
@[go_sem] theorem Zn9 (k:IntKind) (n:Int):AV.cells (.d (.v (.int k n)))=[.d (.v (.int k n))]:=id rfl
@[go_sem] theorem Znb (b:Bool):AV.cells (.d (.v (.bool b)))=[.d (.v (.bool b))]:=id rfl
@[go_sem] theorem Zn6 (s:ByteArray):AV.cells (.d (.v (.string s)))=[.d (.v (.string s))]:=id rfl
@[go_sem] theorem Zn8 (cs:List DV) (n:Nat) (k:Option Nat):AV.cells (.d (.lst cs n k))=[.d (.lst cs n k)]:=id rfl
@[go_sem] theorem Zn7 (i v o len sz:Nat) (k:Option Nat):AV.cells (.sref i v o len sz k)=[.sref i v o len sz k]:=id rfl
@[go_sem] theorem Znf (cs:List AV):AV.isBot (.agg cs)=false:=id rfl
@[go_sem] theorem Zne (x:DV):AV.isBot (.d x)=false:=id rfl
@[go_sem] theorem Znd (i v o len sz:Nat) (k:Option Nat):AV.isBot (.sref i v o len sz k)=false:=id rfl
@[go_sem] theorem Zn1 (tm cells : List AV) (off size : Nat) (x : Opd) (rest : List (Nat × Nat × Opd)) : JJ tm cells ((off, size, x) :: rest) =
  if(look tm x).isBot=false/\(look tm x).cells.length=size/\off+size<=cells.length then JJ tm (splice cells off (look tm x).cells) rest else none:=id rfl
attribute [go_sem] List.getElem?_cons_zero List.getElem?_cons_succ List.set_cons_zero List.set_cons_succ List.take_zero List.take_succ_cons List.drop_zero List.drop_succ_cons List.all_cons List.all_nil Bool.and_self and_self List.append_nil List.drop_nil List.take_nil
@[go_sem] theorem Zni (i v o n:Nat):ET (.ref i v o) n=some (.ref i v (o+n)):=id rfl
@[go_sem] theorem Znj (cs:List DV) (n:Nat):ET (.d (.vptr cs)) n=if n<=cs.length then some (.d (.vptr (cs.drop n))) else none:=id rfl
section
variable (E:Env) (call:cT) (tm:List AV) (A:List Blk) (nb:Nat)
@[go_sem] theorem Zkn (op:UnOp) (x:Opd):AG op x E call tm A nb=one? (TC op (look tm x)):=id rfl
@[go_sem] theorem Zkw (b:Bool):TC .not (.d (.v (.bool b)))=some (ZZ !b):=id rfl
@[go_sem] theorem Zkt (c a b:Opd):QE c a b E call tm A nb=PJ tm a b (look tm c):=id rfl
@[go_sem] theorem Zks (a b:Opd) (c:Bool):PJ tm a b (.d (.v (.bool c)))=some (.made (bif c then look tm a else look tm b) []):=by cases c<;>rfl
@[go_sem] theorem Zm0 (x:Opd) (off:Nat):oA x off E call tm A nb=one? (ET (look tm x) off):=id rfl
@[go_sem] theorem Zl8 (x:Opd) (ag:Bool) (n:Nat):oL x ag n E call tm A nb=one? (DQ A (look tm x) ag n):=id rfl
@[go_sem] theorem Zkp (a x:Opd) (n:Nat):oS a x n E call tm A nb=EQ (GX A (look tm a) (look tm x) n):=id rfl
@[go_sem] theorem Zko (B:List Blk):EQ (some B)=some (.turned AR B):=id rfl
@[go_sem] theorem Zl0 (z:List AV):YC z E call tm A nb=some (.made (.ref nb 0 0) [.cells z 0 false]):=id rfl
@[go_sem] theorem Zlv (x:Opd):Y0 x E call tm A nb=RG nb (look tm x):=id rfl
@[go_sem] theorem Zlt (x:DV):RG nb (.d x)=some (.made (.ref nb 0 0) [.cells (AV.d x).cells 0 false]):=id rfl
@[go_sem] theorem Zlu (cs:List AV):RG nb (.agg cs)=some (.made (.ref nb 0 0) [.cells cs 0 false]):=id rfl
@[go_sem] theorem Zlb (x:Opd):BS x E call tm A nb=one? (NJ (look tm x)):=id rfl
@[go_sem] theorem Zld (cs:List DV) (len:Nat) (k:Option Nat):NJ (.d (.lst cs len k))=some (aI len):=id rfl
@[go_sem] theorem Zlc (i v o len sz:Nat) (k:Option Nat):NJ (.sref i v o len sz k)=some (aI len):=id rfl
@[go_sem] theorem Zl1 (mx:Bool) (xs:List Opd):D1 mx xs E call tm A nb=one? (NH mx (xs.map (look tm))):=id rfl
@[go_sem] theorem Zl7 (k:IntKind) (x y:Int):NH true [.d (.v (.int k x)),.d (.v (.int k y))]=some (.d (.v (.int k (max x y)))):=by
 show some (AV.d (.v (.int k (if y>x then y else x))))=_
 congr 4;simp only[Int.max_def];split<;>split<;>omega
@[go_sem] theorem Zl6 (k:IntKind) (x y:Int):NH false [.d (.v (.int k x)),.d (.v (.int k y))]=some (.d (.v (.int k (min x y)))):=by
 show some (AV.d (.v (.int k (if y<x then y else x))))=_
 congr 4;simp only[Int.min_def];split<;>split<;>omega
@[go_sem] theorem Zlo (k:IntKind) (x:Opd):D2 k x E call tm A nb=TN k (look tm x):=id rfl
@[go_sem] theorem Zln (k k':IntKind) (n:Int):TN k (.d (.v (.int k' n)))=some (.made (.d (.v (.int k (k.wrap n)))) []):=id rfl
@[go_sem] theorem Zlf (x ix:Opd) (s:Nat):DE x ix s E call tm A nb=one? (BE (look tm x) (look tm ix) s):=id rfl
@[go_sem] theorem Zku (x:Opd) (off:Nat) (ag:Bool) (n:Nat):GP x off ag n E call tm A nb=one? (G7 (look tm x) off ag n):=id rfl
@[go_sem] theorem Zlk (x:Opd) (i:Nat):SV x i E call tm A nb=one? (R8 (look tm x) i):=id rfl
@[go_sem] theorem Zls (z:List AV) (ps:List (Nat×Nat×Opd)):Qq z ps E call tm A nb=RP (JJ tm z ps):=id rfl
@[go_sem] theorem Zlz (cs:List AV):RP (some cs)=some (.made (.agg cs) []):=id rfl
end
theorem Dj (op:BinOp)(k:IntKind)(x y:Int)(h1:op≠ .shl)(h2:op≠ .shr):YF op (.d (.v (.int k x))) (.d (.v (.int k y)))=(E8 op k x y).map fun r=>.d (.v r):=by
 cases op<;>simp_all [YF]
@[go_sem] theorem Zpv (k:IntKind) (x y:Int):YF .add (.d (.v (.int k x))) (.d (.v (.int k y)))=some (.d (.v (.int k (k.wrap (x+y))))):=by rw[Dj _ _ _ _ (by simp) (by simp)];rfl
@[go_sem] theorem Zpm (k:IntKind) (x y:Int):YF .sub (.d (.v (.int k x))) (.d (.v (.int k y)))=some (.d (.v (.int k (k.wrap (x-y))))):=by rw[Dj _ _ _ _ (by simp) (by simp)];rfl
@[go_sem] theorem Zpp (k:IntKind) (x y:Int):YF .mul (.d (.v (.int k x))) (.d (.v (.int k y)))=some (.d (.v (.int k (k.wrap (x*y))))):=by rw[Dj _ _ _ _ (by simp) (by simp)];rfl
@[go_sem] theorem Zpq (k:IntKind) (x y:Int):YF .lss (.d (.v (.int k x))) (.d (.v (.int k y)))=some (ZZ (x<y)):=by rw[Dj _ _ _ _ (by simp) (by simp)];rfl
@[go_sem] theorem Zpr (k:IntKind) (x y:Int):YF .leq (.d (.v (.int k x))) (.d (.v (.int k y)))=some (ZZ (x<=y)):=by rw[Dj _ _ _ _ (by simp) (by simp)];rfl
@[go_sem] theorem Zps (k:IntKind) (x y:Int):YF .gtr (.d (.v (.int k x))) (.d (.v (.int k y)))=some (ZZ (x>y)):=by rw[Dj _ _ _ _ (by simp) (by simp)];rfl
@[go_sem] theorem Zpt (k:IntKind) (x y:Int):YF .geq (.d (.v (.int k x))) (.d (.v (.int k y)))=some (ZZ (x>=y)):=by rw[Dj _ _ _ _ (by simp) (by simp)];rfl
@[go_sem] theorem Zpu (k:IntKind) (x y:Int):YF .eql (.d (.v (.int k x))) (.d (.v (.int k y)))=some (ZZ (x==y)):=by rw[Dj _ _ _ _ (by simp) (by simp)];rfl
@[go_sem] theorem Zpo (k:IntKind) (x y:Int):YF .neq (.d (.v (.int k x))) (.d (.v (.int k y)))=some (ZZ (x !=y)):=by rw[Dj _ _ _ _ (by simp) (by simp)];rfl
@[go_sem] theorem Zpn (k:IntKind) (x y:Int) (h:y≠0):YF .quo (.d (.v (.int k x))) (.d (.v (.int k y)))=some (.d (.v (.int k (k.wrap (x.tdiv y))))):=by
 rw[Dj _ _ _ _ (by simp) (by simp)];simp[E8,h]
@[go_sem] theorem Xj (k:IntKind) (x y:Int) (h:y≠0):YF .rem (.d (.v (.int k x))) (.d (.v (.int k y)))=some (.d (.v (.int k (x.tmod y)))):=by
 rw[Dj _ _ _ _ (by simp) (by simp)];simp[E8,h]
@[go_sem] theorem Z76 (k k':IntKind) (x y:Int) (h:0<=y):YF .shl (.d (.v (.int k x))) (.d (.v (.int k' y)))=some (.d (.v (.int k (k.wrap (x*2^(min y.toNat k.bits)))))):=by
 show(G6 true k x y).map _=_
 simp[G6,show ¬y<0 by omega]
@[go_sem] theorem X9 (k k':IntKind) (x y:Int) (h:0<=y):YF .shr (.d (.v (.int k x))) (.d (.v (.int k' y)))=some (.d (.v (.int k (x.fdiv (2^(min y.toNat k.bits)))))):=by
 show(G6 false k x y).map _=_
 simp[G6,show ¬y<0 by omega]
theorem YM {n:Int}(h1: -9223372036854775808<=n)(h2:n<=9223372036854775807):IntKind.i64.wrap n=n:=by
 simp[IntKind.wrap,IntKind.bits,IntKind.signed];omega
theorem MV {n:Int}(h1:0<=n)(h2:n<=18446744073709551615):IntKind.u64.wrap n=n:=by
 simp[IntKind.wrap,IntKind.bits,IntKind.signed];omega
def G9 (th:Bool)(A:List Blk)(nb:Nat)(used:List Nat):Option (AV×List Blk)->Option Done
 | some (x,Ac)=>bif th then GH A used (CE Ac nb 6 x [] []) else GZ A used (deep Ac 8 x)
 | none=>none
def CU (g:Nat):Nat:=1000000+g
def ZX (th:Bool)(E:Env)(call:cT)(f:FuncId)(A:List Blk)(nb:Nat):Option (List DV×List Nat)->Option Done
 | some (ds,used)=>G9 th A nb used (Jz E call f ds)
 | none=>none
def R2:Option (List DV×List Nat)->Option (List DV×List Nat)
 | some (ds,used)=>some (ds.map (fk 4),used)
 | none=>none
@[go_sem] theorem Zl5 (E : Env) (l : Nat -> Option (List Nat)) (m : Nat) (call : cT) (tm : List AV) (A : List Blk) (nb : Nat) (cells : List AV) (len s : Nat) (parts : List (Nat × Nat × Opd)) :
  Y2 cells len s parts { br:=E.br,th:=E.th,prim:=E.prim,back:=E.back,lives:=E.lives,live:=l,nb0:=m } call tm A nb=GU (ZW 1000000 E.th || G3 (l (CU 1000000))) len s nb (JJ tm cells parts):=id rfl
@[go_sem] theorem Zlr (E : Env) (l : Nat -> Option (List Nat)) (m : Nat) (call : cT) (tm : List AV) (A : List Blk) (nb : Nat) (g : FuncId) (args : List Opd) (h : ZW g E.br = false) :
  oK (.f g) args { br:=E.br,th:=E.th,prim:=E.prim,back:=E.back,lives:=E.lives,live:=l,nb0:=m } call tm A nb=ZX (ZW g E.th || G3 (l (CU g))) E call g A nb (R2 (Y8 (deep A 8) (args.map (look tm)))):=by
 show Gz { br:=E.br,th:=E.th,prim:=E.prim,back:=E.back,lives:=E.lives,live:=l,nb0:=m } call A nb (some (g,args.map (look tm)++[]))=_
 rw[List.append_nil]
 show DS { br:=E.br,th:=E.th,prim:=E.prim,back:=E.back,lives:=E.lives,live:=l,nb0:=m } call g (args.map (look tm)) A nb=_
 unfold DS
 show(bif ZW g E.br then _ else _)=_
 rw[h,cond_false]
 cases Y8 (deep A 8) (args.map (look tm)) with
 | none=>rfl
 | some p=>
  obtain⟨ds,used⟩:=p
  show G8 _ g A nb used _=G9 _ A nb used _
  show G8 _ g A nb used (Jz E call g (ds.map (fk 4)))=_
  cases Jz E call g (ds.map (fk 4))<;>rfl
def Z2r {α:Type}:Option (DV×List α)->Option (List DV×List α)->Option (List DV×List α)
 | some (a,u),some (b,w)=>some (a::b,u++w)
 | _,_=>none
def Z7j:Option (List DV×List Nat)->Option (DV×List Nat)
 | some (l,u)=>some (.agg l,u)
 | none=>none
@[go_sem] theorem Zme {α:Type} (a:DV) (b:List DV) (u w:List α):Z2r (some (a,u)) (some (b,w))=some (a::b,u++w):=id rfl
@[go_sem] theorem Zpy (l:List DV) (u:List Nat):Z7j (some (l,u))=some (.agg l,u):=id rfl
@[go_sem] theorem Znt (ds:List DV) (u:List Nat):R2 (some (ds,u))=some (ds.map (fk 4),u):=id rfl
@[go_sem] theorem Zmd (f:AV->Option (DV×List Nat)):Y8 f []=some ([],[]):=id rfl
@[go_sem] theorem Zej (f:AV->Option (DV×List Nat)) (x:AV) (l:List AV):Y8 f (x::l)=Z2r (f x) (Y8 f l):=by
 show(match f x,Y8 f l with | some (a,u),some (b,w)=>some (a::b,u++w) | _,_=>none)=_
 cases f x<;>cases Y8 f l<;>rfl
@[go_sem] theorem Zh9 (A:List Blk) (n:Nat) (x:DV):deep A (n+1) (.d x)=some (x,[]):=id rfl
@[go_sem] theorem Zp7 (A:List Blk) (n:Nat) (cs:List AV):deep A (n+1) (.agg cs)=Z7j (Y8 (deep A n) cs):=by
 show(Y8 (deep A n) cs).map (fun r=>(DV.agg r.1,r.2))=_
 cases Y8 (deep A n) cs<;>rfl
@[go_sem] theorem Zno (n:Nat) (x:Value):fk n (.v x)=.v x:=by cases n<;>rfl
@[go_sem] theorem Znq (n:Nat) (cs:List DV) (len:Nat) (k:Option Nat):fk (n+1) (.lst cs len k)=.lst cs len none:=id rfl
@[go_sem] theorem Zns (n:Nat) (cs:List DV):fk (n+1) (.agg cs)=.agg (cs.map (fk n)):=id rfl
@[go_sem] theorem Znp (n:Nat) (cs:List DV):fk (n+1) (.tup cs)=.tup (cs.map (fk n)):=id rfl
@[go_sem] theorem Zmc (n:Nat):ZW n []=false:=id rfl
@[go_sem] theorem Zed (n m:Nat) (l:List Nat):ZW n (m::l)=if n=m then true else ZW n l:=by
 show(if Nat.beq n m=true then true else ZW n l)=_
 by_cases h:n=m
 ·subst h;simp
 ·have:Nat.beq n m=false:=by
   cases hb:Nat.beq n m with
   | false=>rfl
   | true=>exact absurd (Nat.eq_of_beq_eq_true hb) h
  rw[this,if_neg h];rfl
@[go_sem] theorem Zox (E : Env) (f : FuncId) (m key : Nat) (k : K) (tm : List AV) (A : List Blk) (h : E.lives f key = none) :
  C6 { br:=E.br,th:=E.th,prim:=E.prim,back:=E.back,lives:=E.lives,live:=E.lives f,nb0:=m } key k tm A=k tm A:=Z5w _ _ _ _ _ h
end Go.Aug
