import Derived.Test.YtmfdoekbjkgckaaGreatEvY
namespace Go.Aug
open Go
theorem ZK (E:Env)(fn:FuncId->Option (Env->cT->cT))(n:Nat)(f:FuncId)(args:List AV)(A:List Blk):Z4 E fn (n+1) f args A=KU E (Z4 E fn n) f args A (fn f):=id rfl
theorem ZM (E:Env)(call:cT)(f:FuncId)(args:List AV)(A:List Blk)(F:Env->cT->cT):KU E call f args A (some F)=F E call f args A:=id rfl
section
variable (E:Env) (call:cT) (kn:K) (kx:Nat->K) (kr:K) (tm:List AV) (A:List Blk)
@[go_sem] theorem Zza (l:List (Fl×Stp)) (ps:List (Opd×Opd)):Yv l ps E call kn kx kr tm A=HX E call l (HW ps kn) tm A:=id rfl
@[go_sem] theorem Zz4 (k:K):HX E call [] k tm A=k tm A:=id rfl
@[go_sem] theorem Zz9 (k:K):HW [] k tm A=k tm A:=id rfl
@[go_sem] theorem Zzc (fg:Fl) (d:Option Nat) (op:ZU) (l:List (Fl×Stp)) (k:K):HX E call ((fg,⟨d,none,op⟩)::l) k tm A=FM fg d (HX E call l k) tm A (op E call tm A A.length):=id rfl
@[go_sem] theorem Zz8 (fg:Fl) (d:Option Nat) (k:K) (x:AV):FM fg d k tm A (some (.made x []))=k (QF tm d x) A:=by cases fg<;>rfl
@[go_sem] theorem Zz6 (d:Option Nat) (k:K) (x:AV) (b:Blk) (bs:List Blk):FM .mk d k tm A (some (.made x (b::bs)))=k (QF tm d x) (A++b::bs):=id rfl
@[go_sem] theorem Zz7 (d:Option Nat) (k:K) (x:AV) (b:Blk) (bs:List Blk):FM .any d k tm A (some (.made x (b::bs)))=k (QF tm d x) (A++b::bs):=id rfl
@[go_sem] theorem Zz5 (d:Option Nat) (k:K) (x:AV) (b:Blk) (bs:List Blk):FM .tn d k tm A (some (.made x (b::bs)))=k (QF tm d x) (A++b::bs):=id rfl
@[go_sem] theorem Zz0 (d:Option Nat) (k:K) (x:AV) (A1:List Blk) (h:A.length<=A1.length):FM .tn d k tm A (some (.turned x A1))=k (QF tm d x) A1:=by
 show(bif Nat.ble A.length A1.length then _ else _)=_
 rw[Nat.ble_eq_true_of_le h];rfl
@[go_sem] theorem Zz1 (d:Option Nat) (k:K) (x:AV) (A1:List Blk) (h:A.length<=A1.length):FM .any d k tm A (some (.turned x A1))=k (QF tm d x) A1:=by
 show(bif Nat.ble A.length A1.length then _ else _)=_
 rw[Nat.ble_eq_true_of_le h];rfl
end
@[go_sem] theorem Zxa (cs:List AV) (v w:Nat) (ro:Bool) (A:List Blk) (o:Nat):cellsAt (.cells cs v ro::A) 0 w o=if v=w then some (cs.drop o) else none:=id rfl
@[go_sem] theorem Zx9 (b:Blk) (A:List Blk) (i v o:Nat):cellsAt (b::A) (i+1) v o=cellsAt A i v o:=id rfl
@[go_sem] theorem Zwd (n:Nat) (x:AV) (cs:List AV):BH false n (x::cs)=some x:=id rfl
@[go_sem] theorem Zwa (n:Nat) (x:DV) (cs:List DV):C2 false n (x::cs)=some x:=id rfl
def Z27 (a:DV):Option DV->Option DV
 | some (.agg l)=>some (.agg (a::l))
 | _=>none
def Z28 (a:AV):Option AV->Option AV
 | some (.agg l)=>some (.agg (a::l))
 | _=>none
@[go_sem] theorem Zw9 (cs:List DV):C2 true 0 cs=some (.agg []):=by simp[C2]
@[go_sem] theorem Zwc (cs:List AV):BH true 0 cs=some (.agg []):=by simp[BH]
@[go_sem] theorem Zwx (a:DV) (l:List DV):Z27 a (some (.agg l))=some (.agg (a::l)):=id rfl
@[go_sem] theorem Zwy (a:AV) (l:List AV):Z28 a (some (.agg l))=some (.agg (a::l)):=id rfl
@[go_sem] theorem Zw8 (n:Nat) (a:DV) (cs:List DV):C2 true (n+1) (a::cs)=Z27 a (C2 true n cs):=by
 show(if n+1<=(a::cs).length then some (DV.agg ((a::cs).take (n+1))) else none)=Z27 a (if n<=cs.length then some (.agg (cs.take n)) else none)
 by_cases h:n<=cs.length
 ·rw[if_pos h,if_pos (by simpa using h)];rfl
 ·rw[if_neg h,if_neg (by simpa using h)];rfl
@[go_sem] theorem Zwb (n:Nat) (a:AV) (cs:List AV):BH true (n+1) (a::cs)=Z28 a (BH true n cs):=by
 show(if n+1<=(a::cs).length then some (AV.agg ((a::cs).take (n+1))) else none)=Z28 a (if n<=cs.length then some (.agg (cs.take n)) else none)
 by_cases h:n<=cs.length
 ·rw[if_pos h,if_pos (by simpa using h)];rfl
 ·rw[if_neg h,if_neg (by simpa using h)];rfl
@[go_sem] theorem Zwp (A:List Blk) (i v o:Nat) (ag:Bool) (n:Nat):FP A (.ref i v o) ag n=(cellsAt A i v o).bind (BH ag n):=by
 show(match cellsAt A i v o with | some cs=>BH ag n cs | none=>none)=_
 cases cellsAt A i v o<;>rfl
@[go_sem] theorem Zwo (A:List Blk) (cs:List DV) (ag:Bool) (n:Nat):FP A (.d (.vptr cs)) ag n=(C2 ag n cs).map .d:=id rfl
def storeAt (A:List Blk)(i v o:Nat)(cs:List AV)(n:Nat):Option Blk->Option (List Blk)
 | some (.cells c v' false)=>if v'=v/\cs.length=n/\o+n<=c.length/\cs.all AV.one=true then some (A.set i (.cells (splice c o cs) v' false)) else none
 | _=>none
@[go_sem] theorem Zwe (A:List Blk) (i v o:Nat) (x:AV) (n:Nat):GW A (.ref i v o) x n=storeAt A i v o x.cells n A[i]? :=by
 show(match A[i]? with
  | some (.cells cs v' false)=>if v'=v/\x.cells.length=n/\o+n<=cs.length/\x.cells.all AV.one=true then some (A.set i (.cells (splice cs o x.cells) v' false)) else none
  | _=>none)=_
 cases A[i]? with
 | none=>rfl
 | some b=>cases b with
  | cells cs v' ro=>cases ro<;>rfl
  | iter=>rfl
  | free=>rfl
@[go_sem] theorem Z12 (A : List Blk) (i v o : Nat) (cs : List AV) (n : Nat) (c : List AV) (v' : Nat) : storeAt A i v o cs n (some (.cells c v' false)) =
  if v'=v/\cs.length=n/\o+n<=c.length/\cs.all AV.one=true then some (A.set i (.cells (splice c o cs) v' false)) else none:=id rfl
@[go_sem] theorem Zwf (c:List AV) (o:Nat) (cs:List AV):splice c o cs=c.take o++cs++c.drop (o+cs.length):=id rfl
@[go_sem] theorem Zwm (k:IntKind) (n:Int):AV.one (.d (.v (.int k n)))=true:=id rfl
@[go_sem] theorem Zwn (b:Bool):AV.one (.d (.v (.bool b)))=true:=id rfl
@[go_sem] theorem Zwi (s:ByteArray):AV.one (.d (.v (.string s)))=true:=id rfl
@[go_sem] theorem Zwl (cs:List DV) (n:Nat) (k:Option Nat):AV.one (.d (.lst cs n k))=true:=id rfl
@[go_sem] theorem Zwj (i v o len sz:Nat) (k:Option Nat):AV.one (.sref i v o len sz k)=true:=id rfl
@[go_sem] theorem Zwk (i v o:Nat):AV.one (.ref i v o)=true:=id rfl
@[go_sem] theorem Zx5 (cs:List AV):AV.cells (.agg cs)=cs:=id rfl
@[go_sem] theorem Zx3 (cs:List DV):AV.cells (.d (.agg cs))=cs.map .d:=id rfl
@[go_sem] theorem Zx2 (k:IntKind) (n:Int):AV.cells (.d (.v (.int k n)))=[.d (.v (.int k n))]:=id rfl
@[go_sem] theorem Zx4 (b:Bool):AV.cells (.d (.v (.bool b)))=[.d (.v (.bool b))]:=id rfl
@[go_sem] theorem Zwz (s:ByteArray):AV.cells (.d (.v (.string s)))=[.d (.v (.string s))]:=id rfl
@[go_sem] theorem Zx1 (cs:List DV) (n:Nat) (k:Option Nat):AV.cells (.d (.lst cs n k))=[.d (.lst cs n k)]:=id rfl
@[go_sem] theorem Zx0 (i v o len sz:Nat) (k:Option Nat):AV.cells (.sref i v o len sz k)=[.sref i v o len sz k]:=id rfl
@[go_sem] theorem Zx8 (cs:List AV):AV.isBot (.agg cs)=false:=id rfl
@[go_sem] theorem Zx7 (x:DV):AV.isBot (.d x)=false:=id rfl
@[go_sem] theorem Zx6 (i v o len sz:Nat) (k:Option Nat):AV.isBot (.sref i v o len sz k)=false:=id rfl
@[go_sem] theorem Zwu (tm cells : List AV) (off size : Nat) (x : Opd) (rest : List (Nat × Nat × Opd)) : BA tm cells ((off, size, x) :: rest) =
  if(look tm x).isBot=false/\(look tm x).cells.length=size/\off+size<=cells.length then BA tm (splice cells off (look tm x).cells) rest else none:=id rfl
attribute [go_sem] List.getElem?_cons_zero List.getElem?_cons_succ List.set_cons_zero List.set_cons_succ List.take_zero List.take_succ_cons List.drop_zero List.drop_succ_cons List.all_cons List.all_nil Bool.and_self and_self List.append_nil List.drop_nil List.take_nil
@[go_sem] theorem Zxb (i v o n:Nat):GG (.ref i v o) n=some (.ref i v (o+n)):=id rfl
@[go_sem] theorem Zxc (cs:List DV) (n:Nat):GG (.d (.vptr cs)) n=if n<=cs.length then some (.d (.vptr (cs.drop n))) else none:=id rfl
section
variable (E:Env) (call:cT) (tm:List AV) (A:List Blk) (nb:Nat)
@[go_sem] theorem Zuh (op:UnOp) (x:Opd):Q6 op x E call tm A nb=one? (Wx op (look tm x)):=id rfl
@[go_sem] theorem Zuq (b:Bool):Wx .not (.d (.v (.bool b)))=some (YD !b):=id rfl
@[go_sem] theorem Zun (c a b:Opd):YA c a b E call tm A nb=SZ tm a b (look tm c):=id rfl
@[go_sem] theorem Zum (a b:Opd) (c:Bool):SZ tm a b (.d (.v (.bool c)))=some (.made (bif c then look tm a else look tm b) []):=by cases c<;>rfl
@[go_sem] theorem Zvu (x:Opd) (off:Nat):oA x off E call tm A nb=one? (GG (look tm x) off):=id rfl
@[go_sem] theorem Zv2 (x:Opd) (ag:Bool) (n:Nat):oL x ag n E call tm A nb=one? (FP A (look tm x) ag n):=id rfl
@[go_sem] theorem Zuj (a x:Opd) (n:Nat):oS a x n E call tm A nb=F7 (GW A (look tm a) (look tm x) n):=id rfl
@[go_sem] theorem Zui (B:List Blk):F7 (some B)=some (.turned JX B):=id rfl
@[go_sem] theorem Zuu (z:List AV):ZQ z E call tm A nb=some (.made (.ref nb 0 0) [.cells z 0 false]):=id rfl
@[go_sem] theorem Zvp (x:Opd):Zv x E call tm A nb=U7 nb (look tm x):=id rfl
@[go_sem] theorem Zvn (x:DV):U7 nb (.d x)=some (.made (.ref nb 0 0) [.cells (AV.d x).cells 0 false]):=id rfl
@[go_sem] theorem Zvo (cs:List AV):U7 nb (.agg cs)=some (.made (.ref nb 0 0) [.cells cs 0 false]):=id rfl
@[go_sem] theorem Zv5 (x:Opd):JZ x E call tm A nb=one? (RV (look tm x)):=id rfl
@[go_sem] theorem Zv7 (cs:List DV) (len:Nat) (k:Option Nat):RV (.d (.lst cs len k))=some (aI len):=id rfl
@[go_sem] theorem Zv6 (i v o len sz:Nat) (k:Option Nat):RV (.sref i v o len sz k)=some (aI len):=id rfl
@[go_sem] theorem Zuv (mx:Bool) (xs:List Opd):Bx mx xs E call tm A nb=one? (RU mx (xs.map (look tm))):=id rfl
@[go_sem] theorem Zv1 (k:IntKind) (x y:Int):RU true [.d (.v (.int k x)),.d (.v (.int k y))]=some (.d (.v (.int k (max x y)))):=by
 show some (AV.d (.v (.int k (if y>x then y else x))))=_
 congr 4;simp only[Int.max_def];split<;>split<;>omega
@[go_sem] theorem Zv0 (k:IntKind) (x y:Int):RU false [.d (.v (.int k x)),.d (.v (.int k y))]=some (.d (.v (.int k (min x y)))):=by
 show some (AV.d (.v (.int k (if y<x then y else x))))=_
 congr 4;simp only[Int.min_def];split<;>split<;>omega
@[go_sem] theorem Zvi (k:IntKind) (x:Opd):GM k x E call tm A nb=WG k (look tm x):=id rfl
@[go_sem] theorem Zvh (k k':IntKind) (n:Int):WG k (.d (.v (.int k' n)))=some (.made (.d (.v (.int k (k.wrap n)))) []):=id rfl
@[go_sem] theorem Zv9 (x ix:Opd) (s:Nat):Fz x ix s E call tm A nb=one? (EY (look tm x) (look tm ix) s):=id rfl
@[go_sem] theorem Zuo (x:Opd) (off:Nat) (ag:Bool) (n:Nat):ET x off ag n E call tm A nb=one? (HT (look tm x) off ag n):=id rfl
@[go_sem] theorem Zve (x:Opd) (i:Nat):VF x i E call tm A nb=one? (TK (look tm x) i):=id rfl
@[go_sem] theorem Zvm (z:List AV) (ps:List (Nat×Nat×Opd)):YC z ps E call tm A nb=Uk (BA tm z ps):=id rfl
@[go_sem] theorem Zvt (cs:List AV):Uk (some cs)=some (.made (.agg cs) []):=id rfl
end
theorem F3 (op:BinOp)(k:IntKind)(x y:Int)(h1:op≠ .shl)(h2:op≠ .shr):Qz op (.d (.v (.int k x))) (.d (.v (.int k y)))=(EZ op k x y).map fun r=>.d (.v r):=by
 cases op<;>simp_all [Qz]
@[go_sem] theorem Zzn (k:IntKind) (x y:Int):Qz .add (.d (.v (.int k x))) (.d (.v (.int k y)))=some (.d (.v (.int k (k.wrap (x+y))))):=by rw[F3 _ _ _ _ (by simp) (by simp)];rfl
@[go_sem] theorem Zze (k:IntKind) (x y:Int):Qz .sub (.d (.v (.int k x))) (.d (.v (.int k y)))=some (.d (.v (.int k (k.wrap (x-y))))):=by rw[F3 _ _ _ _ (by simp) (by simp)];rfl
@[go_sem] theorem Zzh (k:IntKind) (x y:Int):Qz .mul (.d (.v (.int k x))) (.d (.v (.int k y)))=some (.d (.v (.int k (k.wrap (x*y))))):=by rw[F3 _ _ _ _ (by simp) (by simp)];rfl
@[go_sem] theorem Zzi (k:IntKind) (x y:Int):Qz .lss (.d (.v (.int k x))) (.d (.v (.int k y)))=some (YD (x<y)):=by rw[F3 _ _ _ _ (by simp) (by simp)];rfl
@[go_sem] theorem Zzj (k:IntKind) (x y:Int):Qz .leq (.d (.v (.int k x))) (.d (.v (.int k y)))=some (YD (x<=y)):=by rw[F3 _ _ _ _ (by simp) (by simp)];rfl
@[go_sem] theorem Zzk (k:IntKind) (x y:Int):Qz .gtr (.d (.v (.int k x))) (.d (.v (.int k y)))=some (YD (x>y)):=by rw[F3 _ _ _ _ (by simp) (by simp)];rfl
@[go_sem] theorem Zzl (k:IntKind) (x y:Int):Qz .geq (.d (.v (.int k x))) (.d (.v (.int k y)))=some (YD (x>=y)):=by rw[F3 _ _ _ _ (by simp) (by simp)];rfl
@[go_sem] theorem Zzm (k:IntKind) (x y:Int):Qz .eql (.d (.v (.int k x))) (.d (.v (.int k y)))=some (YD (x==y)):=by rw[F3 _ _ _ _ (by simp) (by simp)];rfl
@[go_sem] theorem Zzg (k:IntKind) (x y:Int):Qz .neq (.d (.v (.int k x))) (.d (.v (.int k y)))=some (YD (x !=y)):=by rw[F3 _ _ _ _ (by simp) (by simp)];rfl
@[go_sem] theorem Zzf (k:IntKind) (x y:Int) (h:y≠0):Qz .quo (.d (.v (.int k x))) (.d (.v (.int k y)))=some (.d (.v (.int k (k.wrap (x.tdiv y))))):=by
 rw[F3 _ _ _ _ (by simp) (by simp)];simp[EZ,h]
@[go_sem] theorem Z34 (k:IntKind) (x y:Int) (h:y≠0):Qz .rem (.d (.v (.int k x))) (.d (.v (.int k y)))=some (.d (.v (.int k (x.tmod y)))):=by
 rw[F3 _ _ _ _ (by simp) (by simp)];simp[EZ,h]
@[go_sem] theorem WX (k k':IntKind) (x y:Int) (h:0<=y):Qz .shl (.d (.v (.int k x))) (.d (.v (.int k' y)))=some (.d (.v (.int k (k.wrap (x*2^(min y.toNat k.bits)))))):=by
 show(HS true k x y).map _=_
 simp[HS,show ¬y<0 by omega]
@[go_sem] theorem Z33 (k k':IntKind) (x y:Int) (h:0<=y):Qz .shr (.d (.v (.int k x))) (.d (.v (.int k' y)))=some (.d (.v (.int k (x.fdiv (2^(min y.toNat k.bits)))))):=by
 show(HS false k x y).map _=_
 simp[HS,show ¬y<0 by omega]
theorem Q4 {n:Int}(h1: -9223372036854775808<=n)(h2:n<=9223372036854775807):IntKind.i64.wrap n=n:=by
 simp[IntKind.wrap,IntKind.bits,IntKind.signed];omega
theorem R0 {n:Int}(h1:0<=n)(h2:n<=18446744073709551615):IntKind.u64.wrap n=n:=by
 simp[IntKind.wrap,IntKind.bits,IntKind.signed];omega
def F0 (th:Bool)(A:List Blk)(nb:Nat)(used:List Nat):Option (AV×List Blk)->Option Done
 | some (x,Ac)=>bif th then DS A used (Av Ac nb 6 x [] []) else HY A used (deep Ac 8 x)
 | none=>none
def EM (g:Nat):Nat:=1000000+g
def ZH (th:Bool)(E:Env)(call:cT)(f:FuncId)(A:List Blk)(nb:Nat):Option (List DV×List Nat)->Option Done
 | some (ds,used)=>F0 th A nb used (JN E call f ds)
 | none=>none
def TD:Option (List DV×List Nat)->Option (List DV×List Nat)
 | some (ds,used)=>some (ds.map (fk 4),used)
 | none=>none
@[go_sem] theorem Zuz (E : Env) (l : Nat -> Option (List Nat)) (m : Nat) (call : cT) (tm : List AV) (A : List Blk) (nb : Nat) (cells : List AV) (len s : Nat) (parts : List (Nat × Nat × Opd)) :
  YE cells len s parts { br:=E.br,th:=E.th,prim:=E.prim,back:=E.back,lives:=E.lives,live:=l,nb0:=m } call tm A nb=Kv (Yj 1000000 E.th || HK (l (EM 1000000))) len s nb (BA tm cells parts):=id rfl
@[go_sem] theorem Zvl (E : Env) (l : Nat -> Option (List Nat)) (m : Nat) (call : cT) (tm : List AV) (A : List Blk) (nb : Nat) (g : FuncId) (args : List Opd) (h : Yj g E.br = false) :
  oK (.f g) args { br:=E.br,th:=E.th,prim:=E.prim,back:=E.back,lives:=E.lives,live:=l,nb0:=m } call tm A nb=ZH (Yj g E.th || HK (l (EM g))) E call g A nb (TD (YQ (deep A 8) (args.map (look tm)))):=by
 show K2 { br:=E.br,th:=E.th,prim:=E.prim,back:=E.back,lives:=E.lives,live:=l,nb0:=m } call A nb (some (g,args.map (look tm)++[]))=_
 rw[List.append_nil]
 show FQ { br:=E.br,th:=E.th,prim:=E.prim,back:=E.back,lives:=E.lives,live:=l,nb0:=m } call g (args.map (look tm)) A nb=_
 unfold FQ
 show(bif Yj g E.br then _ else _)=_
 rw[h,cond_false]
 cases YQ (deep A 8) (args.map (look tm)) with
 | none=>rfl
 | some p=>
  obtain⟨ds,used⟩:=p
  show HU _ g A nb used _=F0 _ A nb used _
  show HU _ g A nb used (JN E call g (ds.map (fk 4)))=_
  cases JN E call g (ds.map (fk 4))<;>rfl
def Z6u {α:Type}:Option (DV×List α)->Option (List DV×List α)->Option (List DV×List α)
 | some (a,u),some (b,w)=>some (a::b,u++w)
 | _,_=>none
def Zdd:Option (List DV×List Nat)->Option (DV×List Nat)
 | some (l,u)=>some (.agg l,u)
 | none=>none
@[go_sem] theorem Zw7 {α:Type} (a:DV) (b:List DV) (u w:List α):Z6u (some (a,u)) (some (b,w))=some (a::b,u++w):=id rfl
@[go_sem] theorem Zzq (l:List DV) (u:List Nat):Zdd (some (l,u))=some (.agg l,u):=id rfl
@[go_sem] theorem Zxm (ds:List DV) (u:List Nat):TD (some (ds,u))=some (ds.map (fk 4),u):=id rfl
@[go_sem] theorem Zw6 (f:AV->Option (DV×List Nat)):YQ f []=some ([],[]):=id rfl
@[go_sem] theorem Znt (f:AV->Option (DV×List Nat)) (x:AV) (l:List AV):YQ f (x::l)=Z6u (f x) (YQ f l):=by
 show(match f x,YQ f l with | some (a,u),some (b,w)=>some (a::b,u++w) | _,_=>none)=_
 cases f x<;>cases YQ f l<;>rfl
@[go_sem] theorem Zqp (A:List Blk) (n:Nat) (x:DV):deep A (n+1) (.d x)=some (x,[]):=id rfl
@[go_sem] theorem Zyz (A:List Blk) (n:Nat) (cs:List AV):deep A (n+1) (.agg cs)=Zdd (YQ (deep A n) cs):=by
 show(YQ (deep A n) cs).map (fun r=>(DV.agg r.1,r.2))=_
 cases YQ (deep A n) cs<;>rfl
@[go_sem] theorem Zxh (n:Nat) (x:Value):fk n (.v x)=.v x:=by cases n<;>rfl
@[go_sem] theorem Zxj (n:Nat) (cs:List DV) (len:Nat) (k:Option Nat):fk (n+1) (.lst cs len k)=.lst cs len none:=id rfl
@[go_sem] theorem Zxl (n:Nat) (cs:List DV):fk (n+1) (.agg cs)=.agg (cs.map (fk n)):=id rfl
@[go_sem] theorem Zxi (n:Nat) (cs:List DV):fk (n+1) (.tup cs)=.tup (cs.map (fk n)):=id rfl
@[go_sem] theorem Z6l (n:Nat):Yj n []=false:=id rfl
@[go_sem] theorem Znr (n m:Nat) (l:List Nat):Yj n (m::l)=if n=m then true else Yj n l:=by
 show(if Nat.beq n m=true then true else Yj n l)=_
 by_cases h:n=m
 ·subst h;simp
 ·have:Nat.beq n m=false:=by
   cases hb:Nat.beq n m with
   | false=>rfl
   | true=>exact absurd (Nat.eq_of_beq_eq_true hb) h
  rw[this,if_neg h];rfl
@[go_sem] theorem Zyp (E : Env) (f : FuncId) (m key : Nat) (k : K) (tm : List AV) (A : List Blk) (h : E.lives f key = none) :
  D2 { br:=E.br,th:=E.th,prim:=E.prim,back:=E.back,lives:=E.lives,live:=E.lives f,nb0:=m } key k tm A=k tm A:=Zbl _ _ _ _ _ h
end Go.Aug
