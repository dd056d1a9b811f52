import Derived.Test.YtmfdoekbjkgckaaGreatEvY
namespace Go.Aug
open Go
theorem ZK (E:Env)(fn:FuncId->Option (Env->cT->cT))(n:Nat)(f:FuncId)(args:List AV)(A:List Blk):Z4 E fn (n+1) f args A=KG E (Z4 E fn n) f args A (fn f):=id rfl
theorem ZM (E:Env)(call:cT)(f:FuncId)(args:List AV)(A:List Blk)(F:Env->cT->cT):KG E call f args A (some F)=F E call f args A:=id rfl
section
variable (E:Env) (call:cT) (kn:K) (kx:Nat->K) (kr:K) (tm:List AV) (A:List Blk)
@[go_sem] theorem Zyf (l:List (Fl×Stp)) (ps:List (Opd×Opd)):YQ l ps E call kn kx kr tm A=HP E call l (HN ps kn) tm A:=id rfl
@[go_sem] theorem Zy9 (k:K):HP E call [] k tm A=k tm A:=id rfl
@[go_sem] theorem Zye (k:K):HN [] k tm A=k tm A:=id rfl
@[go_sem] theorem Zyh (fg:Fl) (d:Option Nat) (op:ZV) (l:List (Fl×Stp)) (k:K):HP E call ((fg,⟨d,none,op⟩)::l) k tm A=FG fg d (HP E call l k) tm A (op E call tm A A.length):=id rfl
@[go_sem] theorem Zyd (fg:Fl) (d:Option Nat) (k:K) (x:AV):FG fg d k tm A (some (.made x []))=k (Qk tm d x) A:=by cases fg<;>rfl
@[go_sem] theorem Zyb (d:Option Nat) (k:K) (x:AV) (b:Blk) (bs:List Blk):FG .mk d k tm A (some (.made x (b::bs)))=k (Qk tm d x) (A++b::bs):=id rfl
@[go_sem] theorem Zyc (d:Option Nat) (k:K) (x:AV) (b:Blk) (bs:List Blk):FG .any d k tm A (some (.made x (b::bs)))=k (Qk tm d x) (A++b::bs):=id rfl
@[go_sem] theorem Zya (d:Option Nat) (k:K) (x:AV) (b:Blk) (bs:List Blk):FG .tn d k tm A (some (.made x (b::bs)))=k (Qk tm d x) (A++b::bs):=id rfl
@[go_sem] theorem Zy5 (d:Option Nat) (k:K) (x:AV) (A1:List Blk) (h:A.length<=A1.length):FG .tn d k tm A (some (.turned x A1))=k (Qk tm d x) A1:=by
 show(bif Nat.ble A.length A1.length then _ else _)=_
 rw[Nat.ble_eq_true_of_le h];rfl
@[go_sem] theorem Zy6 (d:Option Nat) (k:K) (x:AV) (A1:List Blk) (h:A.length<=A1.length):FG .any d k tm A (some (.turned x A1))=k (Qk tm d x) A1:=by
 show(bif Nat.ble A.length A1.length then _ else _)=_
 rw[Nat.ble_eq_true_of_le h];rfl
end
@[go_sem] theorem Zwf (cs:List AV) (v w:Nat) (ro:Bool) (A:List Blk) (o:Nat):cellsAt (.cells cs v ro::A) 0 w o=if v=w then some (cs.drop o) else none:=id rfl
@[go_sem] theorem Zwe (b:Blk) (A:List Blk) (i v o:Nat):cellsAt (b::A) (i+1) v o=cellsAt A i v o:=id rfl
@[go_sem] theorem Zvi (n:Nat) (x:AV) (cs:List AV):BF false n (x::cs)=some x:=id rfl
@[go_sem] theorem Zvf (n:Nat) (x:DV) (cs:List DV):C0 false n (x::cs)=some x:=id rfl
def Z1p (a:DV):Option DV->Option DV
 | some (.agg l)=>some (.agg (a::l))
 | _=>none
def Z1q (a:AV):Option AV->Option AV
 | some (.agg l)=>some (.agg (a::l))
 | _=>none
@[go_sem] theorem Zve (cs:List DV):C0 true 0 cs=some (.agg []):=by simp[C0]
@[go_sem] theorem Zvh (cs:List AV):BF true 0 cs=some (.agg []):=by simp[BF]
@[go_sem] theorem Zw2 (a:DV) (l:List DV):Z1p a (some (.agg l))=some (.agg (a::l)):=id rfl
@[go_sem] theorem Zw3 (a:AV) (l:List AV):Z1q a (some (.agg l))=some (.agg (a::l)):=id rfl
@[go_sem] theorem Zvd (n:Nat) (a:DV) (cs:List DV):C0 true (n+1) (a::cs)=Z1p a (C0 true n cs):=by
 show(if n+1<=(a::cs).length then some (DV.agg ((a::cs).take (n+1))) else none)=Z1p a (if n<=cs.length then some (.agg (cs.take n)) else none)
 by_cases h:n<=cs.length
 ·rw[if_pos h,if_pos (by simpa using h)];rfl
 ·rw[if_neg h,if_neg (by simpa using h)];rfl
@[go_sem] theorem Zvg (n:Nat) (a:AV) (cs:List AV):BF true (n+1) (a::cs)=Z1q a (BF true n cs):=by
 show(if n+1<=(a::cs).length then some (AV.agg ((a::cs).take (n+1))) else none)=Z1q a (if n<=cs.length then some (.agg (cs.take n)) else none)
 by_cases h:n<=cs.length
 ·rw[if_pos h,if_pos (by simpa using h)];rfl
 ·rw[if_neg h,if_neg (by simpa using h)];rfl
@[go_sem] theorem Zvu (A:List Blk) (i v o:Nat) (ag:Bool) (n:Nat):FJ A (.ref i v o) ag n=(cellsAt A i v o).bind (BF ag n):=by
 show(match cellsAt A i v o with | some cs=>BF ag n cs | none=>none)=_
 cases cellsAt A i v o<;>rfl
@[go_sem] theorem Zvt (A:List Blk) (cs:List DV) (ag:Bool) (n:Nat):FJ A (.d (.vptr cs)) ag n=(C0 ag n cs).map .d:=id rfl
def storeAt (A:List Blk)(i v o:Nat)(cs:List AV)(n:Nat):Option Blk->Option (List Blk)
 | some (.cells c v' false)=>if v'=v/\cs.length=n/\o+n<=c.length/\cs.all AV.one=true then some (A.set i (.cells (splice c o cs) v' false)) else none
 | _=>none
@[go_sem] theorem Zvj (A:List Blk) (i v o:Nat) (x:AV) (n:Nat):GN A (.ref i v o) x n=storeAt A i v o x.cells n A[i]? :=by
 show(match A[i]? with
  | some (.cells cs v' false)=>if v'=v/\x.cells.length=n/\o+n<=cs.length/\x.cells.all AV.one=true then some (A.set i (.cells (splice cs o x.cells) v' false)) else none
  | _=>none)=_
 cases A[i]? with
 | none=>rfl
 | some b=>cases b with
  | cells cs v' ro=>cases ro<;>rfl
  | iter=>rfl
  | free=>rfl
@[go_sem] theorem Z0n (A : List Blk) (i v o : Nat) (cs : List AV) (n : Nat) (c : List AV) (v' : Nat) : storeAt A i v o cs n (some (.cells c v' false)) =
  if v'=v/\cs.length=n/\o+n<=c.length/\cs.all AV.one=true then some (A.set i (.cells (splice c o cs) v' false)) else none:=id rfl
@[go_sem] theorem Zvk (c:List AV) (o:Nat) (cs:List AV):splice c o cs=c.take o++cs++c.drop (o+cs.length):=id rfl
@[go_sem] theorem Zvr (k:IntKind) (n:Int):AV.one (.d (.v (.int k n)))=true:=id rfl
@[go_sem] theorem Zvs (b:Bool):AV.one (.d (.v (.bool b)))=true:=id rfl
@[go_sem] theorem Zvn (s:ByteArray):AV.one (.d (.v (.string s)))=true:=id rfl
@[go_sem] theorem Zvq (cs:List DV) (n:Nat) (k:Option Nat):AV.one (.d (.lst cs n k))=true:=id rfl
@[go_sem] theorem Zvo (i v o len sz:Nat) (k:Option Nat):AV.one (.sref i v o len sz k)=true:=id rfl
@[go_sem] theorem Zvp (i v o:Nat):AV.one (.ref i v o)=true:=id rfl
@[go_sem] theorem Zwa (cs:List AV):AV.cells (.agg cs)=cs:=id rfl
@[go_sem] theorem Zw8 (cs:List DV):AV.cells (.d (.agg cs))=cs.map .d:=id rfl
@[go_sem] theorem Zw7 (k:IntKind) (n:Int):AV.cells (.d (.v (.int k n)))=[.d (.v (.int k n))]:=id rfl
@[go_sem] theorem Zw9 (b:Bool):AV.cells (.d (.v (.bool b)))=[.d (.v (.bool b))]:=id rfl
@[go_sem] theorem Zw4 (s:ByteArray):AV.cells (.d (.v (.string s)))=[.d (.v (.string s))]:=id rfl
@[go_sem] theorem Zw6 (cs:List DV) (n:Nat) (k:Option Nat):AV.cells (.d (.lst cs n k))=[.d (.lst cs n k)]:=id rfl
@[go_sem] theorem Zw5 (i v o len sz:Nat) (k:Option Nat):AV.cells (.sref i v o len sz k)=[.sref i v o len sz k]:=id rfl
@[go_sem] theorem Zwd (cs:List AV):AV.isBot (.agg cs)=false:=id rfl
@[go_sem] theorem Zwc (x:DV):AV.isBot (.d x)=false:=id rfl
@[go_sem] theorem Zwb (i v o len sz:Nat) (k:Option Nat):AV.isBot (.sref i v o len sz k)=false:=id rfl
@[go_sem] theorem Zvz (tm cells : List AV) (off size : Nat) (x : Opd) (rest : List (Nat × Nat × Opd)) : Bz tm cells ((off, size, x) :: rest) =
  if(look tm x).isBot=false/\(look tm x).cells.length=size/\off+size<=cells.length then Bz tm (splice cells off (look tm x).cells) rest else none:=id rfl
attribute [go_sem] List.getElem?_cons_zero List.getElem?_cons_succ List.set_cons_zero List.set_cons_succ List.take_zero List.take_succ_cons List.drop_zero List.drop_succ_cons List.all_cons List.all_nil Bool.and_self and_self List.append_nil List.drop_nil List.take_nil
@[go_sem] theorem Zwg (i v o n:Nat):GA (.ref i v o) n=some (.ref i v (o+n)):=id rfl
@[go_sem] theorem Zwh (cs:List DV) (n:Nat):GA (.d (.vptr cs)) n=if n<=cs.length then some (.d (.vptr (cs.drop n))) else none:=id rfl
section
variable (E:Env) (call:cT) (tm:List AV) (A:List Blk) (nb:Nat)
@[go_sem] theorem Ztm (op:UnOp) (x:Opd):Q9 op x E call tm A nb=one? (VY op (look tm x)):=id rfl
@[go_sem] theorem Ztv (b:Bool):VY .not (.d (.v (.bool b)))=some (YA !b):=id rfl
@[go_sem] theorem Zts (c a b:Opd):YR c a b E call tm A nb=SK tm a b (look tm c):=id rfl
@[go_sem] theorem Ztr (a b:Opd) (c:Bool):SK tm a b (.d (.v (.bool c)))=some (.made (bif c then look tm a else look tm b) []):=by cases c<;>rfl
@[go_sem] theorem Zuz (x:Opd) (off:Nat):oA x off E call tm A nb=one? (GA (look tm x) off):=id rfl
@[go_sem] theorem Zu7 (x:Opd) (ag:Bool) (n:Nat):oL x ag n E call tm A nb=one? (FJ A (look tm x) ag n):=id rfl
@[go_sem] theorem Zto (a x:Opd) (n:Nat):oS a x n E call tm A nb=F2 (GN A (look tm a) (look tm x) n):=id rfl
@[go_sem] theorem Ztn (B:List Blk):F2 (some B)=some (.turned JV B):=id rfl
@[go_sem] theorem Ztz (z:List AV):ZU z E call tm A nb=some (.made (.ref nb 0 0) [.cells z 0 false]):=id rfl
@[go_sem] theorem Zuu (x:Opd):Zw x E call tm A nb=TU nb (look tm x):=id rfl
@[go_sem] theorem Zus (x:DV):TU nb (.d x)=some (.made (.ref nb 0 0) [.cells (AV.d x).cells 0 false]):=id rfl
@[go_sem] theorem Zut (cs:List AV):TU nb (.agg cs)=some (.made (.ref nb 0 0) [.cells cs 0 false]):=id rfl
@[go_sem] theorem Zua (x:Opd):AY x E call tm A nb=one? (RJ (look tm x)):=id rfl
@[go_sem] theorem Zuc (cs:List DV) (len:Nat) (k:Option Nat):RJ (.d (.lst cs len k))=some (aI len):=id rfl
@[go_sem] theorem Zub (i v o len sz:Nat) (k:Option Nat):RJ (.sref i v o len sz k)=some (aI len):=id rfl
@[go_sem] theorem Zu0 (mx:Bool) (xs:List Opd):Bj mx xs E call tm A nb=one? (RH mx (xs.map (look tm))):=id rfl
@[go_sem] theorem Zu6 (k:IntKind) (x y:Int):RH true [.d (.v (.int k x)),.d (.v (.int k y))]=some (.d (.v (.int k (max x y)))):=by
 show some (AV.d (.v (.int k (if y>x then y else x))))=_
 congr 4;simp only[Int.max_def];split<;>split<;>omega
@[go_sem] theorem Zu5 (k:IntKind) (x y:Int):RH false [.d (.v (.int k x)),.d (.v (.int k y))]=some (.d (.v (.int k (min x y)))):=by
 show some (AV.d (.v (.int k (if y<x then y else x))))=_
 congr 4;simp only[Int.min_def];split<;>split<;>omega
@[go_sem] theorem Zun (k:IntKind) (x:Opd):GF k x E call tm A nb=W7 k (look tm x):=id rfl
@[go_sem] theorem Zum (k k':IntKind) (n:Int):W7 k (.d (.v (.int k' n)))=some (.made (.d (.v (.int k (k.wrap n)))) []):=id rfl
@[go_sem] theorem Zue (x ix:Opd) (s:Nat):F8 x ix s E call tm A nb=one? (ES (look tm x) (look tm ix) s):=id rfl
@[go_sem] theorem Ztt (x:Opd) (off:Nat) (ag:Bool) (n:Nat):EK x off ag n E call tm A nb=one? (HJ (look tm x) off ag n):=id rfl
@[go_sem] theorem Zuj (x:Opd) (i:Nat):V9 x i E call tm A nb=one? (Tq (look tm x) i):=id rfl
@[go_sem] theorem Zur (z:List AV) (ps:List (Nat×Nat×Opd)):YS z ps E call tm A nb=TZ (Bz tm z ps):=id rfl
@[go_sem] theorem Zuy (cs:List AV):TZ (some cs)=some (.made (.agg cs) []):=id rfl
end
theorem EY (op:BinOp)(k:IntKind)(x y:Int)(h1:op≠ .shl)(h2:op≠ .shr):Q5 op (.d (.v (.int k x))) (.d (.v (.int k y)))=(ET op k x y).map fun r=>.d (.v r):=by
 cases op<;>simp_all [Q5]
@[go_sem] theorem Zys (k:IntKind) (x y:Int):Q5 .add (.d (.v (.int k x))) (.d (.v (.int k y)))=some (.d (.v (.int k (k.wrap (x+y))))):=by rw[EY _ _ _ _ (by simp) (by simp)];rfl
@[go_sem] theorem Zyj (k:IntKind) (x y:Int):Q5 .sub (.d (.v (.int k x))) (.d (.v (.int k y)))=some (.d (.v (.int k (k.wrap (x-y))))):=by rw[EY _ _ _ _ (by simp) (by simp)];rfl
@[go_sem] theorem Zym (k:IntKind) (x y:Int):Q5 .mul (.d (.v (.int k x))) (.d (.v (.int k y)))=some (.d (.v (.int k (k.wrap (x*y))))):=by rw[EY _ _ _ _ (by simp) (by simp)];rfl
@[go_sem] theorem Zyn (k:IntKind) (x y:Int):Q5 .lss (.d (.v (.int k x))) (.d (.v (.int k y)))=some (YA (x<y)):=by rw[EY _ _ _ _ (by simp) (by simp)];rfl
@[go_sem] theorem Zyo (k:IntKind) (x y:Int):Q5 .leq (.d (.v (.int k x))) (.d (.v (.int k y)))=some (YA (x<=y)):=by rw[EY _ _ _ _ (by simp) (by simp)];rfl
@[go_sem] theorem Zyp (k:IntKind) (x y:Int):Q5 .gtr (.d (.v (.int k x))) (.d (.v (.int k y)))=some (YA (x>y)):=by rw[EY _ _ _ _ (by simp) (by simp)];rfl
@[go_sem] theorem Zyq (k:IntKind) (x y:Int):Q5 .geq (.d (.v (.int k x))) (.d (.v (.int k y)))=some (YA (x>=y)):=by rw[EY _ _ _ _ (by simp) (by simp)];rfl
@[go_sem] theorem Zyr (k:IntKind) (x y:Int):Q5 .eql (.d (.v (.int k x))) (.d (.v (.int k y)))=some (YA (x==y)):=by rw[EY _ _ _ _ (by simp) (by simp)];rfl
@[go_sem] theorem Zyl (k:IntKind) (x y:Int):Q5 .neq (.d (.v (.int k x))) (.d (.v (.int k y)))=some (YA (x !=y)):=by rw[EY _ _ _ _ (by simp) (by simp)];rfl
@[go_sem] theorem Zyk (k:IntKind) (x y:Int) (h:y≠0):Q5 .quo (.d (.v (.int k x))) (.d (.v (.int k y)))=some (.d (.v (.int k (k.wrap (x.tdiv y))))):=by
 rw[EY _ _ _ _ (by simp) (by simp)];simp[ET,h]
@[go_sem] theorem Z2k (k:IntKind) (x y:Int) (h:y≠0):Q5 .rem (.d (.v (.int k x))) (.d (.v (.int k y)))=some (.d (.v (.int k (x.tmod y)))):=by
 rw[EY _ _ _ _ (by simp) (by simp)];simp[ET,h]
@[go_sem] theorem WF (k k':IntKind) (x y:Int) (h:0<=y):Q5 .shl (.d (.v (.int k x))) (.d (.v (.int k' y)))=some (.d (.v (.int k (k.wrap (x*2^(min y.toNat k.bits)))))):=by
 show(HH true k x y).map _=_
 simp[HH,show ¬y<0 by omega]
@[go_sem] theorem Z2j (k k':IntKind) (x y:Int) (h:0<=y):Q5 .shr (.d (.v (.int k x))) (.d (.v (.int k' y)))=some (.d (.v (.int k (x.fdiv (2^(min y.toNat k.bits)))))):=by
 show(HH false k x y).map _=_
 simp[HH,show ¬y<0 by omega]
theorem YY {n:Int}(h1: -9223372036854775808<=n)(h2:n<=9223372036854775807):IntKind.i64.wrap n=n:=by
 simp[IntKind.wrap,IntKind.bits,IntKind.signed];omega
theorem PQ {n:Int}(h1:0<=n)(h2:n<=18446744073709551615):IntKind.u64.wrap n=n:=by
 simp[IntKind.wrap,IntKind.bits,IntKind.signed];omega
def EU (th:Bool)(A:List Blk)(nb:Nat)(used:List Nat):Option (AV×List Blk)->Option Done
 | some (x,Ac)=>bif th then DJ A used (Ax Ac nb 6 x [] []) else HQ A used (deep Ac 8 x)
 | none=>none
def ED (g:Nat):Nat:=1000000+g
def ZC (th:Bool)(E:Env)(call:cT)(f:FuncId)(A:List Blk)(nb:Nat):Option (List DV×List Nat)->Option Done
 | some (ds,used)=>EU th A nb used (JM E call f ds)
 | none=>none
def T7:Option (List DV×List Nat)->Option (List DV×List Nat)
 | some (ds,used)=>some (ds.map (fk 4),used)
 | none=>none
@[go_sem] theorem Zu4 (E : Env) (l : Nat -> Option (List Nat)) (m : Nat) (call : cT) (tm : List AV) (A : List Blk) (nb : Nat) (cells : List AV) (len s : Nat) (parts : List (Nat × Nat × Opd)) :
  YJ cells len s parts { br:=E.br,th:=E.th,prim:=E.prim,back:=E.back,lives:=E.lives,live:=l,nb0:=m } call tm A nb=K7 (Yj 1000000 E.th || HB (l (ED 1000000))) len s nb (Bz tm cells parts):=id rfl
@[go_sem] theorem Zuq (E : Env) (l : Nat -> Option (List Nat)) (m : Nat) (call : cT) (tm : List AV) (A : List Blk) (nb : Nat) (g : FuncId) (args : List Opd) (h : Yj g E.br = false) :
  oK (.f g) args { br:=E.br,th:=E.th,prim:=E.prim,back:=E.back,lives:=E.lives,live:=l,nb0:=m } call tm A nb=ZC (Yj g E.th || HB (l (ED g))) E call g A nb (T7 (YM (deep A 8) (args.map (look tm)))):=by
 show HU { br:=E.br,th:=E.th,prim:=E.prim,back:=E.back,lives:=E.lives,live:=l,nb0:=m } call A nb (some (g,args.map (look tm)++[]))=_
 rw[List.append_nil]
 show FK { br:=E.br,th:=E.th,prim:=E.prim,back:=E.back,lives:=E.lives,live:=l,nb0:=m } call g (args.map (look tm)) A nb=_
 unfold FK
 show(bif Yj g E.br then _ else _)=_
 rw[h,cond_false]
 cases YM (deep A 8) (args.map (look tm)) with
 | none=>rfl
 | some p=>
  obtain⟨ds,used⟩:=p
  show HK _ g A nb used _=EU _ A nb used _
  show HK _ g A nb used (JM E call g (ds.map (fk 4)))=_
  cases JM E call g (ds.map (fk 4))<;>rfl
def Z67 {α:Type}:Option (DV×List α)->Option (List DV×List α)->Option (List DV×List α)
 | some (a,u),some (b,w)=>some (a::b,u++w)
 | _,_=>none
def Zcn:Option (List DV×List Nat)->Option (DV×List Nat)
 | some (l,u)=>some (.agg l,u)
 | none=>none
@[go_sem] theorem Zvc {α:Type} (a:DV) (b:List DV) (u w:List α):Z67 (some (a,u)) (some (b,w))=some (a::b,u++w):=id rfl
@[go_sem] theorem Zyv (l:List DV) (u:List Nat):Zcn (some (l,u))=some (.agg l,u):=id rfl
@[go_sem] theorem Zwr (ds:List DV) (u:List Nat):T7 (some (ds,u))=some (ds.map (fk 4),u):=id rfl
@[go_sem] theorem Zvb (f:AV->Option (DV×List Nat)):YM f []=some ([],[]):=id rfl
@[go_sem] theorem Zmw (f:AV->Option (DV×List Nat)) (x:AV) (l:List AV):YM f (x::l)=Z67 (f x) (YM f l):=by
 show(match f x,YM f l with | some (a,u),some (b,w)=>some (a::b,u++w) | _,_=>none)=_
 cases f x<;>cases YM f l<;>rfl
@[go_sem] theorem Zps (A:List Blk) (n:Nat) (x:DV):deep A (n+1) (.d x)=some (x,[]):=id rfl
@[go_sem] theorem Zy4 (A:List Blk) (n:Nat) (cs:List AV):deep A (n+1) (.agg cs)=Zcn (YM (deep A n) cs):=by
 show(YM (deep A n) cs).map (fun r=>(DV.agg r.1,r.2))=_
 cases YM (deep A n) cs<;>rfl
@[go_sem] theorem Zwm (n:Nat) (x:Value):fk n (.v x)=.v x:=by cases n<;>rfl
@[go_sem] theorem Zwo (n:Nat) (cs:List DV) (len:Nat) (k:Option Nat):fk (n+1) (.lst cs len k)=.lst cs len none:=id rfl
@[go_sem] theorem Zwq (n:Nat) (cs:List DV):fk (n+1) (.agg cs)=.agg (cs.map (fk n)):=id rfl
@[go_sem] theorem Zwn (n:Nat) (cs:List DV):fk (n+1) (.tup cs)=.tup (cs.map (fk n)):=id rfl
@[go_sem] theorem Z5y (n:Nat):Yj n []=false:=id rfl
@[go_sem] theorem Zmu (n m:Nat) (l:List Nat):Yj n (m::l)=if n=m then true else Yj n l:=by
 show(if Nat.beq n m=true then true else Yj n l)=_
 by_cases h:n=m
 ·subst h;simp
 ·have:Nat.beq n m=false:=by
   cases hb:Nat.beq n m with
   | false=>rfl
   | true=>exact absurd (Nat.eq_of_beq_eq_true hb) h
  rw[this,if_neg h];rfl
@[go_sem] theorem Zxu (E : Env) (f : FuncId) (m key : Nat) (k : K) (tm : List AV) (A : List Blk) (h : E.lives f key = none) :
  CZ { br:=E.br,th:=E.th,prim:=E.prim,back:=E.back,lives:=E.lives,live:=E.lives f,nb0:=m } key k tm A=k tm A:=Zau _ _ _ _ _ h
end Go.Aug
