import Derived.Test.YtmfdoekbjkgckaaGreatEvY
namespace Go.Aug
open Go
theorem ZU (E:Env)(fn:FuncId->Option (Env->cT->cT))(n:Nat)(f:FuncId)(args:List AV)(A:List Blk):Z5 E fn (n+1) f args A=K3 E (Z5 E fn n) f args A (fn f):=id rfl
theorem ZW (E:Env)(call:cT)(f:FuncId)(args:List AV)(A:List Blk)(F:Env->cT->cT):K3 E call f args A (some F)=F E call f args A:=id rfl
section
variable (E:Env) (call:cT) (kn:K) (kx:Nat->K) (kr:K) (tm:List AV) (A:List Blk)
@[go_sem] theorem Ztr (l:List (Fl×Stp)) (ps:List (Opd×Opd)):Qz l ps E call kn kx kr tm A=H0 E call l (GZ ps kn) tm A:=id rfl
@[go_sem] theorem Ztl (k:K):H0 E call [] k tm A=k tm A:=id rfl
@[go_sem] theorem Ztq (k:K):GZ [] k tm A=k tm A:=id rfl
@[go_sem] theorem Ztt (fg:Fl) (d:Option Nat) (op:ZM) (l:List (Fl×Stp)) (k:K):H0 E call ((fg,⟨d,none,op⟩)::l) k tm A=EA fg d (H0 E call l k) tm A (op E call tm A A.length):=id rfl
@[go_sem] theorem Ztp (fg:Fl) (d:Option Nat) (k:K) (x:AV):EA fg d k tm A (some (.made x []))=k (Qx tm d x) A:=by cases fg<;>rfl
@[go_sem] theorem Ztn (d:Option Nat) (k:K) (x:AV) (b:Blk) (bs:List Blk):EA .mk d k tm A (some (.made x (b::bs)))=k (Qx tm d x) (A++b::bs):=id rfl
@[go_sem] theorem Zto (d:Option Nat) (k:K) (x:AV) (b:Blk) (bs:List Blk):EA .any d k tm A (some (.made x (b::bs)))=k (Qx tm d x) (A++b::bs):=id rfl
@[go_sem] theorem Ztm (d:Option Nat) (k:K) (x:AV) (b:Blk) (bs:List Blk):EA .tn d k tm A (some (.made x (b::bs)))=k (Qx tm d x) (A++b::bs):=id rfl
@[go_sem] theorem Zth (d:Option Nat) (k:K) (x:AV) (A1:List Blk) (h:A.length<=A1.length):EA .tn d k tm A (some (.turned x A1))=k (Qx tm d x) A1:=by
 show(bif Nat.ble A.length A1.length then _ else _)=_
 rw[Nat.ble_eq_true_of_le h];rfl
@[go_sem] theorem Zti (d:Option Nat) (k:K) (x:AV) (A1:List Blk) (h:A.length<=A1.length):EA .any d k tm A (some (.turned x A1))=k (Qx tm d x) A1:=by
 show(bif Nat.ble A.length A1.length then _ else _)=_
 rw[Nat.ble_eq_true_of_le h];rfl
end
@[go_sem] theorem Zrr (cs:List AV) (v w:Nat) (ro:Bool) (A:List Blk) (o:Nat):cellsAt (.cells cs v ro::A) 0 w o=if v=w then some (cs.drop o) else none:=id rfl
@[go_sem] theorem Zrq (b:Blk) (A:List Blk) (i v o:Nat):cellsAt (b::A) (i+1) v o=cellsAt A i v o:=id rfl
@[go_sem] theorem Zqu (n:Nat) (x:AV) (cs:List AV):BD false n (x::cs)=some x:=id rfl
@[go_sem] theorem Zqr (n:Nat) (x:DV) (cs:List DV):B2 false n (x::cs)=some x:=id rfl
def Z0d (a:DV):Option DV->Option DV
 | some (.agg l)=>some (.agg (a::l))
 | _=>none
def Z0e (a:AV):Option AV->Option AV
 | some (.agg l)=>some (.agg (a::l))
 | _=>none
@[go_sem] theorem Zqq (cs:List DV):B2 true 0 cs=some (.agg []):=by simp[B2]
@[go_sem] theorem Zqt (cs:List AV):BD true 0 cs=some (.agg []):=by simp[BD]
@[go_sem] theorem Zre (a:DV) (l:List DV):Z0d a (some (.agg l))=some (.agg (a::l)):=id rfl
@[go_sem] theorem Zrf (a:AV) (l:List AV):Z0e a (some (.agg l))=some (.agg (a::l)):=id rfl
@[go_sem] theorem Zqp (n:Nat) (a:DV) (cs:List DV):B2 true (n+1) (a::cs)=Z0d a (B2 true n cs):=by
 show(if n+1<=(a::cs).length then some (DV.agg ((a::cs).take (n+1))) else none)=Z0d a (if n<=cs.length then some (.agg (cs.take n)) else none)
 by_cases h:n<=cs.length
 ·rw[if_pos h,if_pos (by simpa using h)];rfl
 ·rw[if_neg h,if_neg (by simpa using h)];rfl
@[go_sem] theorem Zqs (n:Nat) (a:AV) (cs:List AV):BD true (n+1) (a::cs)=Z0e a (BD true n cs):=by
 show(if n+1<=(a::cs).length then some (AV.agg ((a::cs).take (n+1))) else none)=Z0e a (if n<=cs.length then some (.agg (cs.take n)) else none)
 by_cases h:n<=cs.length
 ·rw[if_pos h,if_pos (by simpa using h)];rfl
 ·rw[if_neg h,if_neg (by simpa using h)];rfl
@[go_sem] theorem Zr6 (A:List Blk) (i v o:Nat) (ag:Bool) (n:Nat):ED A (.ref i v o) ag n=(cellsAt A i v o).bind (BD ag n):=by
 show(match cellsAt A i v o with | some cs=>BD ag n cs | none=>none)=_
 cases cellsAt A i v o<;>rfl
@[go_sem] theorem Zr5 (A:List Blk) (cs:List DV) (ag:Bool) (n:Nat):ED A (.d (.vptr cs)) ag n=(B2 ag n cs).map .d:=id rfl
def storeAt (A:List Blk)(i v o:Nat)(cs:List AV)(n:Nat):Option Blk->Option (List Blk)
 | some (.cells c v' false)=>if v'=v/\cs.length=n/\o+n<=c.length/\cs.all AV.one=true then some (A.set i (.cells (splice c o cs) v' false)) else none
 | _=>none
@[go_sem] theorem Zqv (A:List Blk) (i v o:Nat) (x:AV) (n:Nat):FN A (.ref i v o) x n=storeAt A i v o x.cells n A[i]? :=by
 show(match A[i]? with
  | some (.cells cs v' false)=>if v'=v/\x.cells.length=n/\o+n<=cs.length/\x.cells.all AV.one=true then some (A.set i (.cells (splice cs o x.cells) v' false)) else none
  | _=>none)=_
 cases A[i]? with
 | none=>rfl
 | some b=>cases b with
  | cells cs v' ro=>cases ro<;>rfl
  | iter=>rfl
  | free=>rfl
@[go_sem] theorem Xx (A : List Blk) (i v o : Nat) (cs : List AV) (n : Nat) (c : List AV) (v' : Nat) : storeAt A i v o cs n (some (.cells c v' false)) =
  if v'=v/\cs.length=n/\o+n<=c.length/\cs.all AV.one=true then some (A.set i (.cells (splice c o cs) v' false)) else none:=id rfl
@[go_sem] theorem Zqw (c:List AV) (o:Nat) (cs:List AV):splice c o cs=c.take o++cs++c.drop (o+cs.length):=id rfl
@[go_sem] theorem Zr3 (k:IntKind) (n:Int):AV.one (.d (.v (.int k n)))=true:=id rfl
@[go_sem] theorem Zr4 (b:Bool):AV.one (.d (.v (.bool b)))=true:=id rfl
@[go_sem] theorem Zqz (s:ByteArray):AV.one (.d (.v (.string s)))=true:=id rfl
@[go_sem] theorem Zr2 (cs:List DV) (n:Nat) (k:Option Nat):AV.one (.d (.lst cs n k))=true:=id rfl
@[go_sem] theorem Zr0 (i v o len sz:Nat) (k:Option Nat):AV.one (.sref i v o len sz k)=true:=id rfl
@[go_sem] theorem Zr1 (i v o:Nat):AV.one (.ref i v o)=true:=id rfl
@[go_sem] theorem Zrm (cs:List AV):AV.cells (.agg cs)=cs:=id rfl
@[go_sem] theorem Zrk (cs:List DV):AV.cells (.d (.agg cs))=cs.map .d:=id rfl
@[go_sem] theorem Zrj (k:IntKind) (n:Int):AV.cells (.d (.v (.int k n)))=[.d (.v (.int k n))]:=id rfl
@[go_sem] theorem Zrl (b:Bool):AV.cells (.d (.v (.bool b)))=[.d (.v (.bool b))]:=id rfl
@[go_sem] theorem Zrg (s:ByteArray):AV.cells (.d (.v (.string s)))=[.d (.v (.string s))]:=id rfl
@[go_sem] theorem Zri (cs:List DV) (n:Nat) (k:Option Nat):AV.cells (.d (.lst cs n k))=[.d (.lst cs n k)]:=id rfl
@[go_sem] theorem Zrh (i v o len sz:Nat) (k:Option Nat):AV.cells (.sref i v o len sz k)=[.sref i v o len sz k]:=id rfl
@[go_sem] theorem Zrp (cs:List AV):AV.isBot (.agg cs)=false:=id rfl
@[go_sem] theorem Zro (x:DV):AV.isBot (.d x)=false:=id rfl
@[go_sem] theorem Zrn (i v o len sz:Nat) (k:Option Nat):AV.isBot (.sref i v o len sz k)=false:=id rfl
@[go_sem] theorem Zrb (tm cells : List AV) (off size : Nat) (x : Opd) (rest : List (Nat × Nat × Opd)) : AA tm cells ((off, size, x) :: rest) =
  if(look tm x).isBot=false/\(look tm x).cells.length=size/\off+size<=cells.length then AA tm (splice cells off (look tm x).cells) rest else none:=id rfl
attribute [go_sem] List.getElem?_cons_zero List.getElem?_cons_succ List.set_cons_zero List.set_cons_succ List.take_zero List.take_succ_cons List.drop_zero List.drop_succ_cons List.all_cons List.all_nil Bool.and_self and_self List.append_nil List.drop_nil List.take_nil
@[go_sem] theorem Zrs (i v o n:Nat):FD (.ref i v o) n=some (.ref i v (o+n)):=id rfl
@[go_sem] theorem Zrt (cs:List DV) (n:Nat):FD (.d (.vptr cs)) n=if n<=cs.length then some (.d (.vptr (cs.drop n))) else none:=id rfl
section
variable (E:Env) (call:cT) (tm:List AV) (A:List Blk) (nb:Nat)
@[go_sem] theorem Zoy (op:UnOp) (x:Opd):J0 op x E call tm A nb=one? (UQ op (look tm x)):=id rfl
@[go_sem] theorem Zp7 (b:Bool):UQ .not (.d (.v (.bool b)))=some (YB !b):=id rfl
@[go_sem] theorem Zp4 (c a b:Opd):YP c a b E call tm A nb=RN tm a b (look tm c):=id rfl
@[go_sem] theorem Zp3 (a b:Opd) (c:Bool):RN tm a b (.d (.v (.bool c)))=some (.made (bif c then look tm a else look tm b) []):=by cases c<;>rfl
@[go_sem] theorem Zqb (x:Opd) (off:Nat):oA x off E call tm A nb=one? (FD (look tm x) off):=id rfl
@[go_sem] theorem Zpj (x:Opd) (ag:Bool) (n:Nat):oL x ag n E call tm A nb=one? (ED A (look tm x) ag n):=id rfl
@[go_sem] theorem Zp0 (a x:Opd) (n:Nat):oS a x n E call tm A nb=DX (FN A (look tm a) (look tm x) n):=id rfl
@[go_sem] theorem Zoz (B:List Blk):DX (some B)=some (.turned JH B):=id rfl
@[go_sem] theorem Zpb (z:List AV):Y8 z E call tm A nb=some (.made (.ref nb 0 0) [.cells z 0 false]):=id rfl
@[go_sem] theorem Zq6 (x:Opd):ZN x E call tm A nb=SP nb (look tm x):=id rfl
@[go_sem] theorem Zq4 (x:DV):SP nb (.d x)=some (.made (.ref nb 0 0) [.cells (AV.d x).cells 0 false]):=id rfl
@[go_sem] theorem Zq5 (cs:List AV):SP nb (.agg cs)=some (.made (.ref nb 0 0) [.cells cs 0 false]):=id rfl
@[go_sem] theorem Zpm (x:Opd):JY x E call tm A nb=one? (PE (look tm x)):=id rfl
@[go_sem] theorem Zpo (cs:List DV) (len:Nat) (k:Option Nat):PE (.d (.lst cs len k))=some (aI len):=id rfl
@[go_sem] theorem Zpn (i v o len sz:Nat) (k:Option Nat):PE (.sref i v o len sz k)=some (aI len):=id rfl
@[go_sem] theorem Zpc (mx:Bool) (xs:List Opd):BT mx xs E call tm A nb=one? (PD mx (xs.map (look tm))):=id rfl
@[go_sem] theorem Zpi (k:IntKind) (x y:Int):PD true [.d (.v (.int k x)),.d (.v (.int k y))]=some (.d (.v (.int k (max x y)))):=by
 show some (AV.d (.v (.int k (if y>x then y else x))))=_
 congr 4;simp only[Int.max_def];split<;>split<;>omega
@[go_sem] theorem Zph (k:IntKind) (x y:Int):PD false [.d (.v (.int k x)),.d (.v (.int k y))]=some (.d (.v (.int k (min x y)))):=by
 show some (AV.d (.v (.int k (if y<x then y else x))))=_
 congr 4;simp only[Int.min_def];split<;>split<;>omega
@[go_sem] theorem Zpz (k:IntKind) (x:Opd):FF k x E call tm A nb=UY k (look tm x):=id rfl
@[go_sem] theorem Zpy (k k':IntKind) (n:Int):UY k (.d (.v (.int k' n)))=some (.made (.d (.v (.int k (k.wrap n)))) []):=id rfl
@[go_sem] theorem Zpq (x ix:Opd) (s:Nat):EQ x ix s E call tm A nb=one? (DH (look tm x) (look tm ix) s):=id rfl
@[go_sem] theorem Zp5 (x:Opd) (off:Nat) (ag:Bool) (n:Nat):EP x off ag n E call tm A nb=one? (GW (look tm x) off ag n):=id rfl
@[go_sem] theorem Zpv (x:Opd) (i:Nat):U3 x i E call tm A nb=one? (Sx (look tm x) i):=id rfl
@[go_sem] theorem Zq3 (z:List AV) (ps:List (Nat×Nat×Opd)):Q3 z ps E call tm A nb=SV (AA tm z ps):=id rfl
@[go_sem] theorem Zqa (cs:List AV):SV (some cs)=some (.made (.agg cs) []):=id rfl
end
theorem DQ (op:BinOp)(k:IntKind)(x y:Int)(h1:op≠ .shl)(h2:op≠ .shr):Q4 op (.d (.v (.int k x))) (.d (.v (.int k y)))=(DJ op k x y).map fun r=>.d (.v r):=by
 cases op<;>simp_all [Q4]
@[go_sem] theorem Zu4 (k:IntKind) (x y:Int):Q4 .add (.d (.v (.int k x))) (.d (.v (.int k y)))=some (.d (.v (.int k (k.wrap (x+y))))):=by rw[DQ _ _ _ _ (by simp) (by simp)];rfl
@[go_sem] theorem Ztv (k:IntKind) (x y:Int):Q4 .sub (.d (.v (.int k x))) (.d (.v (.int k y)))=some (.d (.v (.int k (k.wrap (x-y))))):=by rw[DQ _ _ _ _ (by simp) (by simp)];rfl
@[go_sem] theorem Zty (k:IntKind) (x y:Int):Q4 .mul (.d (.v (.int k x))) (.d (.v (.int k y)))=some (.d (.v (.int k (k.wrap (x*y))))):=by rw[DQ _ _ _ _ (by simp) (by simp)];rfl
@[go_sem] theorem Ztz (k:IntKind) (x y:Int):Q4 .lss (.d (.v (.int k x))) (.d (.v (.int k y)))=some (YB (x<y)):=by rw[DQ _ _ _ _ (by simp) (by simp)];rfl
@[go_sem] theorem Zu0 (k:IntKind) (x y:Int):Q4 .leq (.d (.v (.int k x))) (.d (.v (.int k y)))=some (YB (x<=y)):=by rw[DQ _ _ _ _ (by simp) (by simp)];rfl
@[go_sem] theorem Zu1 (k:IntKind) (x y:Int):Q4 .gtr (.d (.v (.int k x))) (.d (.v (.int k y)))=some (YB (x>y)):=by rw[DQ _ _ _ _ (by simp) (by simp)];rfl
@[go_sem] theorem Zu2 (k:IntKind) (x y:Int):Q4 .geq (.d (.v (.int k x))) (.d (.v (.int k y)))=some (YB (x>=y)):=by rw[DQ _ _ _ _ (by simp) (by simp)];rfl
@[go_sem] theorem Zu3 (k:IntKind) (x y:Int):Q4 .eql (.d (.v (.int k x))) (.d (.v (.int k y)))=some (YB (x==y)):=by rw[DQ _ _ _ _ (by simp) (by simp)];rfl
@[go_sem] theorem Ztx (k:IntKind) (x y:Int):Q4 .neq (.d (.v (.int k x))) (.d (.v (.int k y)))=some (YB (x !=y)):=by rw[DQ _ _ _ _ (by simp) (by simp)];rfl
@[go_sem] theorem Ztw (k:IntKind) (x y:Int) (h:y≠0):Q4 .quo (.d (.v (.int k x))) (.d (.v (.int k y)))=some (.d (.v (.int k (k.wrap (x.tdiv y))))):=by
 rw[DQ _ _ _ _ (by simp) (by simp)];simp[DJ,h]
@[go_sem] theorem Z17 (k:IntKind) (x y:Int) (h:y≠0):Q4 .rem (.d (.v (.int k x))) (.d (.v (.int k y)))=some (.d (.v (.int k (x.tmod y)))):=by
 rw[DQ _ _ _ _ (by simp) (by simp)];simp[DJ,h]
@[go_sem] theorem Z16 (k k':IntKind) (x y:Int) (h:0<=y):Q4 .shl (.d (.v (.int k x))) (.d (.v (.int k' y)))=some (.d (.v (.int k (k.wrap (x*2^(min y.toNat k.bits)))))):=by
 show(GV true k x y).map _=_
 simp[GV,show ¬y<0 by omega]
@[go_sem] theorem Z9n (k k':IntKind) (x y:Int) (h:0<=y):Q4 .shr (.d (.v (.int k x))) (.d (.v (.int k' y)))=some (.d (.v (.int k (x.fdiv (2^(min y.toNat k.bits)))))):=by
 show(GV false k x y).map _=_
 simp[GV,show ¬y<0 by omega]
theorem YX {n:Int}(h1: -9223372036854775808<=n)(h2:n<=9223372036854775807):IntKind.i64.wrap n=n:=by
 simp[IntKind.wrap,IntKind.bits,IntKind.signed];omega
theorem NR {n:Int}(h1:0<=n)(h2:n<=18446744073709551615):IntKind.u64.wrap n=n:=by
 simp[IntKind.wrap,IntKind.bits,IntKind.signed];omega
def GY (th:Bool)(A:List Blk)(nb:Nat)(used:List Nat):Option (AV×List Blk)->Option Done
 | some (x,Ac)=>bif th then Kv A used (CE Ac nb 6 x [] []) else H1 A used (deep Ac 8 x)
 | none=>none
def Dx (g:Nat):Nat:=1000000+g
def Y1 (th:Bool)(E:Env)(call:cT)(f:FuncId)(A:List Blk)(nb:Nat):Option (List DV×List Nat)->Option Done
 | some (ds,used)=>GY th A nb used (JZ E call f ds)
 | none=>none
def S7:Option (List DV×List Nat)->Option (List DV×List Nat)
 | some (ds,used)=>some (ds.map (fk 4),used)
 | none=>none
@[go_sem] theorem Zpg (E : Env) (l : Nat -> Option (List Nat)) (m : Nat) (call : cT) (tm : List AV) (A : List Blk) (nb : Nat) (cells : List AV) (len s : Nat) (parts : List (Nat × Nat × Opd)) :
  Q9 cells len s parts { br:=E.br,th:=E.th,prim:=E.prim,back:=E.back,lives:=E.lives,live:=l,nb0:=m } call tm A nb=HH (Yv 1000000 E.th || GK (l (Dx 1000000))) len s nb (AA tm cells parts):=id rfl
@[go_sem] theorem Zq2 (E : Env) (l : Nat -> Option (List Nat)) (m : Nat) (call : cT) (tm : List AV) (A : List Blk) (nb : Nat) (g : FuncId) (args : List Opd) (h : Yv g E.br = false) :
  oK (.f g) args { br:=E.br,th:=E.th,prim:=E.prim,back:=E.back,lives:=E.lives,live:=l,nb0:=m } call tm A nb=Y1 (Yv g E.th || GK (l (Dx g))) E call g A nb (S7 (YJ (deep A 8) (args.map (look tm)))):=by
 show H4 { br:=E.br,th:=E.th,prim:=E.prim,back:=E.back,lives:=E.lives,live:=l,nb0:=m } call A nb (some (g,args.map (look tm)++[]))=_
 rw[List.append_nil]
 show EE { br:=E.br,th:=E.th,prim:=E.prim,back:=E.back,lives:=E.lives,live:=l,nb0:=m } call g (args.map (look tm)) A nb=_
 unfold EE
 show(bif Yv g E.br then _ else _)=_
 rw[h,cond_false]
 cases YJ (deep A 8) (args.map (look tm)) with
 | none=>rfl
 | some p=>
  obtain⟨ds,used⟩:=p
  show GX _ g A nb used _=GY _ A nb used _
  show GX _ g A nb used (JZ E call g (ds.map (fk 4)))=_
  cases JZ E call g (ds.map (fk 4))<;>rfl
def Z4n {α:Type}:Option (DV×List α)->Option (List DV×List α)->Option (List DV×List α)
 | some (a,u),some (b,w)=>some (a::b,u++w)
 | _,_=>none
def Za2:Option (List DV×List Nat)->Option (DV×List Nat)
 | some (l,u)=>some (.agg l,u)
 | none=>none
@[go_sem] theorem Zqo {α:Type} (a:DV) (b:List DV) (u w:List α):Z4n (some (a,u)) (some (b,w))=some (a::b,u++w):=id rfl
@[go_sem] theorem Zu9 (l:List DV) (u:List Nat):Za2 (some (l,u))=some (.agg l,u):=id rfl
@[go_sem] theorem Zs3 (ds:List DV) (u:List Nat):S7 (some (ds,u))=some (ds.map (fk 4),u):=id rfl
@[go_sem] theorem Zqn (f:AV->Option (DV×List Nat)):YJ f []=some ([],[]):=id rfl
@[go_sem] theorem Zio (f:AV->Option (DV×List Nat)) (x:AV) (l:List AV):YJ f (x::l)=Z4n (f x) (YJ f l):=by
 show(match f x,YJ f l with | some (a,u),some (b,w)=>some (a::b,u++w) | _,_=>none)=_
 cases f x<;>cases YJ f l<;>rfl
@[go_sem] theorem Zlc (A:List Blk) (n:Nat) (x:DV):deep A (n+1) (.d x)=some (x,[]):=id rfl
@[go_sem] theorem Ztg (A:List Blk) (n:Nat) (cs:List AV):deep A (n+1) (.agg cs)=Za2 (YJ (deep A n) cs):=by
 show(YJ (deep A n) cs).map (fun r=>(DV.agg r.1,r.2))=_
 cases YJ (deep A n) cs<;>rfl
@[go_sem] theorem Zry (n:Nat) (x:Value):fk n (.v x)=.v x:=by cases n<;>rfl
@[go_sem] theorem Zs0 (n:Nat) (cs:List DV) (len:Nat) (k:Option Nat):fk (n+1) (.lst cs len k)=.lst cs len none:=id rfl
@[go_sem] theorem Zs2 (n:Nat) (cs:List DV):fk (n+1) (.agg cs)=.agg (cs.map (fk n)):=id rfl
@[go_sem] theorem Zrz (n:Nat) (cs:List DV):fk (n+1) (.tup cs)=.tup (cs.map (fk n)):=id rfl
@[go_sem] theorem Zij (n:Nat):Yv n []=false:=id rfl
@[go_sem] theorem Zik (n m:Nat) (l:List Nat):Yv n (m::l)=if n=m then true else Yv n l:=by
 show(if Nat.beq n m=true then true else Yv n l)=_
 by_cases h:n=m
 ·subst h;simp
 ·have:Nat.beq n m=false:=by
   cases hb:Nat.beq n m with
   | false=>rfl
   | true=>exact absurd (Nat.eq_of_beq_eq_true hb) h
  rw[this,if_neg h];rfl
@[go_sem] theorem Zt6 (E : Env) (f : FuncId) (m key : Nat) (k : K) (tm : List AV) (A : List Blk) (h : E.lives f key = none) :
  BU { br:=E.br,th:=E.th,prim:=E.prim,back:=E.back,lives:=E.lives,live:=E.lives f,nb0:=m } key k tm A=k tm A:=Z8d _ _ _ _ _ h
end Go.Aug
