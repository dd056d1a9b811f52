import Derived.Test.YthnhboimcidhgaaGreatDoorEvY
namespace Go.Aug
open Go
theorem Z2 (E:Env)(fn:FuncId->Option (Env->cT->cT))(n:Nat)(f:FuncId)(args:List AV)(A:List Blk):evC E fn (n+1) f args A=apF E (evC E fn n) f args A (fn f):=id rfl
theorem Z3 (E:Env)(call:cT)(f:FuncId)(args:List AV)(A:List Blk)(F:Env->cT->cT):apF E call f args A (some F)=F E call f args A:=id rfl
section
variable (E:Env) (call:cT) (kn:K) (kx:Nat->K) (kr:K) (tm:List AV) (A:List Blk)
@[go_sem] theorem Y66 (l:List (Fl×Stp)) (ps:List (Opd×Opd)):Yg l ps E call kn kx kr tm A=Z7j E call l (Ztp ps kn) tm A:=id rfl
@[go_sem] theorem Yai (k:K):Z7j E call [] k tm A=k tm A:=id rfl
@[go_sem] theorem Yaj (k:K):Ztp [] k tm A=k tm A:=id rfl
@[go_sem] theorem Y8g (fg:Fl) (d:Option Nat) (op:OpF) (l:List (Fl×Stp)) (k:K):Z7j E call ((fg,⟨d,none,op⟩)::l) k tm A=Z8y fg d (Z7j E call l k) tm A (op E call tm A A.length):=id rfl
@[go_sem] theorem Y65 (fg:Fl) (d:Option Nat) (k:K) (x:AV):Z8y fg d k tm A (some (.made x []))=k (Z44 tm d x) A:=by cases fg<;>rfl
@[go_sem] theorem Zzr (d:Option Nat) (k:K) (x:AV) (b:Blk) (bs:List Blk):Z8y .mk d k tm A (some (.made x (b::bs)))=k (Z44 tm d x) (A++b::bs):=id rfl
@[go_sem] theorem Y64 (d:Option Nat) (k:K) (x:AV) (b:Blk) (bs:List Blk):Z8y .any d k tm A (some (.made x (b::bs)))=k (Z44 tm d x) (A++b::bs):=id rfl
@[go_sem] theorem Y63 (d:Option Nat) (k:K) (x:AV) (b:Blk) (bs:List Blk):Z8y .tn d k tm A (some (.made x (b::bs)))=k (Z44 tm d x) (A++b::bs):=id rfl
@[go_sem] theorem Y5y (d:Option Nat) (k:K) (x:AV) (A1:List Blk) (h:A.length<=A1.length):Z8y .tn d k tm A (some (.turned x A1))=k (Z44 tm d x) A1:=by
 show(bif Nat.ble A.length A1.length then _ else _)=_
 rw[Nat.ble_eq_true_of_le h];rfl
@[go_sem] theorem Zzq (d:Option Nat) (k:K) (x:AV) (A1:List Blk) (h:A.length<=A1.length):Z8y .any d k tm A (some (.turned x A1))=k (Z44 tm d x) A1:=by
 show(bif Nat.ble A.length A1.length then _ else _)=_
 rw[Nat.ble_eq_true_of_le h];rfl
end
@[go_sem] theorem Ya5 (cs:List AV) (v w:Nat) (ro:Bool) (A:List Blk) (o:Nat):cellsAt (.cells cs v ro::A) 0 w o=if v=w then some (cs.drop o) else none:=id rfl
@[go_sem] theorem Ya4 (b:Blk) (A:List Blk) (i v o:Nat):cellsAt (b::A) (i+1) v o=cellsAt A i v o:=id rfl
@[go_sem] theorem Y9y (n:Nat) (x:AV) (cs:List AV):Jw false n (x::cs)=some x:=id rfl
@[go_sem] theorem Y7d (n:Nat) (x:DV) (cs:List DV):Qt false n (x::cs)=some x:=id rfl
def Zzs (a:DV):Option DV->Option DV
 | some (.agg l)=>some (.agg (a::l))
 | _=>none
def Zzt (a:AV):Option AV->Option AV
 | some (.agg l)=>some (.agg (a::l))
 | _=>none
@[go_sem] theorem Y58 (cs:List DV):Qt true 0 cs=some (.agg []):=by simp[Qt]
@[go_sem] theorem Y5a (cs:List AV):Jw true 0 cs=some (.agg []):=by simp[Jw]
@[go_sem] theorem Y5d (a:DV) (l:List DV):Zzs a (some (.agg l))=some (.agg (a::l)):=id rfl
@[go_sem] theorem Y5e (a:AV) (l:List AV):Zzt a (some (.agg l))=some (.agg (a::l)):=id rfl
@[go_sem] theorem Y57 (n:Nat) (a:DV) (cs:List DV):Qt true (n+1) (a::cs)=Zzs a (Qt true n cs):=by
 show(if n+1<=(a::cs).length then some (DV.agg ((a::cs).take (n+1))) else none)=Zzs a (if n<=cs.length then some (.agg (cs.take n)) else none)
 by_cases h:n<=cs.length
 ·rw[if_pos h,if_pos (by simpa using h)];rfl
 ·rw[if_neg h,if_neg (by simpa using h)];rfl
@[go_sem] theorem Y59 (n:Nat) (a:AV) (cs:List AV):Jw true (n+1) (a::cs)=Zzt a (Jw true n cs):=by
 show(if n+1<=(a::cs).length then some (AV.agg ((a::cs).take (n+1))) else none)=Zzt a (if n<=cs.length then some (.agg (cs.take n)) else none)
 by_cases h:n<=cs.length
 ·rw[if_pos h,if_pos (by simpa using h)];rfl
 ·rw[if_neg h,if_neg (by simpa using h)];rfl
@[go_sem] theorem Y7l (A:List Blk) (i v o:Nat) (ag:Bool) (n:Nat):Z4p A (.ref i v o) ag n=(cellsAt A i v o).bind (Jw ag n):=by
 show(match cellsAt A i v o with | some cs=>Jw ag n cs | none=>none)=_
 cases cellsAt A i v o<;>rfl
@[go_sem] theorem Y5c (A:List Blk) (cs:List DV) (ag:Bool) (n:Nat):Z4p A (.d (.vptr cs)) ag n=(Qt ag n cs).map .d:=id rfl
def storeAt (A:List Blk)(i v o:Nat)(cs:List AV)(n:Nat):Option Blk->Option (List Blk)
 | some (.cells c v' false)=>if v'=v/\cs.length=n/\o+n<=c.length/\cs.all AV.one=true then some (A.set i (.cells (splice c o cs) v' false)) else none
 | _=>none
@[go_sem] theorem Y3f (A:List Blk) (i v o:Nat) (x:AV) (n:Nat):Z6c A (.ref i v o) x n=storeAt A i v o x.cells n A[i]? :=by
 show(match A[i]? with
  | some (.cells cs v' false)=>if v'=v/\x.cells.length=n/\o+n<=cs.length/\x.cells.all AV.one=true then some (A.set i (.cells (splice cs o x.cells) v' false)) else none
  | _=>none)=_
 cases A[i]? with
 | none=>rfl
 | some b=>cases b with
  | cells cs v' ro=>cases ro<;>rfl
  | iter=>rfl
  | free=>rfl
@[go_sem] theorem Zhy (A : List Blk) (i v o : Nat) (cs : List AV) (n : Nat) (c : List AV) (v' : Nat) : storeAt A i v o cs n (some (.cells c v' false)) =
  if v'=v/\cs.length=n/\o+n<=c.length/\cs.all AV.one=true then some (A.set i (.cells (splice c o cs) v' false)) else none:=id rfl
@[go_sem] theorem Y3g (c:List AV) (o:Nat) (cs:List AV):splice c o cs=c.take o++cs++c.drop (o+cs.length):=id rfl
@[go_sem] theorem Y7j (k:IntKind) (n:Int):AV.one (.d (.v (.int k n)))=true:=id rfl
@[go_sem] theorem Y7k (b:Bool):AV.one (.d (.v (.bool b)))=true:=id rfl
@[go_sem] theorem Y7f (s:ByteArray):AV.one (.d (.v (.string s)))=true:=id rfl
@[go_sem] theorem Y7i (cs:List DV) (n:Nat) (k:Option Nat):AV.one (.d (.lst cs n k))=true:=id rfl
@[go_sem] theorem Y7g (i v o len sz:Nat) (k:Option Nat):AV.one (.sref i v o len sz k)=true:=id rfl
@[go_sem] theorem Y7h (i v o:Nat):AV.one (.ref i v o)=true:=id rfl
@[go_sem] theorem Y3m (cs:List AV):AV.cells (.agg cs)=cs:=id rfl
@[go_sem] theorem Y1l (cs:List DV):AV.cells (.d (.agg cs))=cs.map .d:=id rfl
@[go_sem] theorem Y3k (k:IntKind) (n:Int):AV.cells (.d (.v (.int k n)))=[.d (.v (.int k n))]:=id rfl
@[go_sem] theorem Y3l (b:Bool):AV.cells (.d (.v (.bool b)))=[.d (.v (.bool b))]:=id rfl
@[go_sem] theorem Y3h (s:ByteArray):AV.cells (.d (.v (.string s)))=[.d (.v (.string s))]:=id rfl
@[go_sem] theorem Y3j (cs:List DV) (n:Nat) (k:Option Nat):AV.cells (.d (.lst cs n k))=[.d (.lst cs n k)]:=id rfl
@[go_sem] theorem Y3i (i v o len sz:Nat) (k:Option Nat):AV.cells (.sref i v o len sz k)=[.sref i v o len sz k]:=id rfl
@[go_sem] theorem Y7q (cs:List AV):AV.isBot (.agg cs)=false:=id rfl
@[go_sem] theorem Y7p (x:DV):AV.isBot (.d x)=false:=id rfl
@[go_sem] theorem Y7o (i v o len sz:Nat) (k:Option Nat):AV.isBot (.sref i v o len sz k)=false:=id rfl
@[go_sem] theorem Y7m (tm cells : List AV) (off size : Nat) (x : Opd) (rest : List (Nat × Nat × Opd)) : Z3u tm cells ((off, size, x) :: rest) =
  if(look tm x).isBot=false/\(look tm x).cells.length=size/\off+size<=cells.length then Z3u tm (splice cells off (look tm x).cells) rest else none:=id rfl
attribute [go_sem] List.getElem?_cons_zero List.getElem?_cons_succ List.set_cons_zero List.set_cons_succ List.take_zero List.take_succ_cons List.drop_zero List.drop_succ_cons List.all_cons List.all_nil Bool.and_self and_self List.append_nil List.drop_nil List.take_nil
@[go_sem] theorem Y7r (i v o n:Nat):Z63 (.ref i v o) n=some (.ref i v (o+n)):=id rfl
@[go_sem] theorem Y7s (cs:List DV) (n:Nat):Z63 (.d (.vptr cs)) n=if n<=cs.length then some (.d (.vptr (cs.drop n))) else none:=id rfl
section
variable (E:Env) (call:cT) (tm:List AV) (A:List Blk) (nb:Nat)
@[go_sem] theorem Yb1 (op:UnOp) (x:Opd):oUn op x E call tm A nb=one? (Y3r op (look tm x)):=id rfl
@[go_sem] theorem Y9b (b:Bool):Y3r .not (.d (.v (.bool b)))=some (Q7 !b):=id rfl
@[go_sem] theorem Y6u (c a b:Opd):Y1 c a b E call tm A nb=Zsk tm a b (look tm c):=id rfl
@[go_sem] theorem Y4l (a b:Opd) (c:Bool):Zsk tm a b (.d (.v (.bool c)))=some (.made (bif c then look tm a else look tm b) []):=by cases c<;>rfl
@[go_sem] theorem Y9q (x:Opd) (off:Nat):oA x off E call tm A nb=one? (Z63 (look tm x) off):=id rfl
@[go_sem] theorem Y6y (x:Opd) (ag:Bool) (n:Nat):oL x ag n E call tm A nb=one? (Z4p A (look tm x) ag n):=id rfl
@[go_sem] theorem Y4k (a x:Opd) (n:Nat):oS a x n E call tm A nb=Zj5 (Z6c A (look tm a) (look tm x) n):=id rfl
@[go_sem] theorem Y4j (B:List Blk):Zj5 (some B)=some (.turned Z26 B):=id rfl
@[go_sem] theorem Y9c (z:List AV):J8 z E call tm A nb=some (.made (.ref nb 0 0) [.cells z 0 false]):=id rfl
@[go_sem] theorem Y9o (x:Opd):Q3 x E call tm A nb=Y2i nb (look tm x):=id rfl
@[go_sem] theorem Y75 (x:DV):Y2i nb (.d x)=some (.made (.ref nb 0 0) [.cells (AV.d x).cells 0 false]):=id rfl
@[go_sem] theorem Y76 (cs:List AV):Y2i nb (.agg cs)=some (.made (.ref nb 0 0) [.cells cs 0 false]):=id rfl
@[go_sem] theorem Y70 (x:Opd):Z31 x E call tm A nb=one? (Zg9 (look tm x)):=id rfl
@[go_sem] theorem Y72 (cs:List DV) (len:Nat) (k:Option Nat):Zg9 (.d (.lst cs len k))=some (aI len):=id rfl
@[go_sem] theorem Y71 (i v o len sz:Nat) (k:Option Nat):Zg9 (.sref i v o len sz k)=some (aI len):=id rfl
@[go_sem] theorem Yb2 (mx:Bool) (xs:List Opd):oMM mx xs E call tm A nb=one? (Y0j mx (xs.map (look tm))):=id rfl
@[go_sem] theorem Y9g (k:IntKind) (x y:Int):Y0j true [.d (.v (.int k x)),.d (.v (.int k y))]=some (.d (.v (.int k (max x y)))):=by
 show some (AV.d (.v (.int k (if y>x then y else x))))=_
 congr 4;simp only[Int.max_def];split<;>split<;>omega
@[go_sem] theorem Y9f (k:IntKind) (x y:Int):Y0j false [.d (.v (.int k x)),.d (.v (.int k y))]=some (.d (.v (.int k (min x y)))):=by
 show some (AV.d (.v (.int k (if y<x then y else x))))=_
 congr 4;simp only[Int.min_def];split<;>split<;>omega
@[go_sem] theorem Y74 (k:IntKind) (x:Opd):Zcq k x E call tm A nb=Zwf k (look tm x):=id rfl
@[go_sem] theorem Y4p (k k':IntKind) (n:Int):Zwf k (.d (.v (.int k' n)))=some (.made (.d (.v (.int k (k.wrap n)))) []):=id rfl
@[go_sem] theorem Y9h (x ix:Opd) (s:Nat):Z00 x ix s E call tm A nb=one? (Z93 (look tm x) (look tm ix) s):=id rfl
@[go_sem] theorem Y6v (x:Opd) (off:Nat) (ag:Bool) (n:Nat):Z8v x off ag n E call tm A nb=one? (Z7i (look tm x) off ag n):=id rfl
@[go_sem] theorem Y9m (x:Opd) (i:Nat):Y3c x i E call tm A nb=one? (Ztn (look tm x) i):=id rfl
@[go_sem] theorem Y4s (z:List AV) (ps:List (Nat×Nat×Opd)):Yf z ps E call tm A nb=Y2t (Z3u tm z ps):=id rfl
@[go_sem] theorem Y79 (cs:List AV):Y2t (some cs)=some (.made (.agg cs) []):=id rfl
end
theorem Z9g (op:BinOp)(k:IntKind)(x y:Int)(h1:op≠ .shl)(h2:op≠ .shr):Ji op (.d (.v (.int k x))) (.d (.v (.int k y)))=(Z94 op k x y).map fun r=>.d (.v r):=by
 cases op<;>simp_all [Ji]
@[go_sem] theorem Yau (k:IntKind) (x y:Int):Ji .add (.d (.v (.int k x))) (.d (.v (.int k y)))=some (.d (.v (.int k (k.wrap (x+y))))):=by rw[Z9g _ _ _ _ (by simp) (by simp)];rfl
@[go_sem] theorem Yal (k:IntKind) (x y:Int):Ji .sub (.d (.v (.int k x))) (.d (.v (.int k y)))=some (.d (.v (.int k (k.wrap (x-y))))):=by rw[Z9g _ _ _ _ (by simp) (by simp)];rfl
@[go_sem] theorem Yao (k:IntKind) (x y:Int):Ji .mul (.d (.v (.int k x))) (.d (.v (.int k y)))=some (.d (.v (.int k (k.wrap (x*y))))):=by rw[Z9g _ _ _ _ (by simp) (by simp)];rfl
@[go_sem] theorem Yap (k:IntKind) (x y:Int):Ji .lss (.d (.v (.int k x))) (.d (.v (.int k y)))=some (Q7 (x<y)):=by rw[Z9g _ _ _ _ (by simp) (by simp)];rfl
@[go_sem] theorem Yaq (k:IntKind) (x y:Int):Ji .leq (.d (.v (.int k x))) (.d (.v (.int k y)))=some (Q7 (x<=y)):=by rw[Z9g _ _ _ _ (by simp) (by simp)];rfl
@[go_sem] theorem Yar (k:IntKind) (x y:Int):Ji .gtr (.d (.v (.int k x))) (.d (.v (.int k y)))=some (Q7 (x>y)):=by rw[Z9g _ _ _ _ (by simp) (by simp)];rfl
@[go_sem] theorem Yas (k:IntKind) (x y:Int):Ji .geq (.d (.v (.int k x))) (.d (.v (.int k y)))=some (Q7 (x>=y)):=by rw[Z9g _ _ _ _ (by simp) (by simp)];rfl
@[go_sem] theorem Yat (k:IntKind) (x y:Int):Ji .eql (.d (.v (.int k x))) (.d (.v (.int k y)))=some (Q7 (x==y)):=by rw[Z9g _ _ _ _ (by simp) (by simp)];rfl
@[go_sem] theorem Yan (k:IntKind) (x y:Int):Ji .neq (.d (.v (.int k x))) (.d (.v (.int k y)))=some (Q7 (x !=y)):=by rw[Z9g _ _ _ _ (by simp) (by simp)];rfl
@[go_sem] theorem Yam (k:IntKind) (x y:Int) (h:y≠0):Ji .quo (.d (.v (.int k x))) (.d (.v (.int k y)))=some (.d (.v (.int k (k.wrap (x.tdiv y))))):=by
 rw[Z9g _ _ _ _ (by simp) (by simp)];simp[Z94,h]
@[go_sem] theorem Y08 (k:IntKind) (x y:Int) (h:y≠0):Ji .rem (.d (.v (.int k x))) (.d (.v (.int k y)))=some (.d (.v (.int k (x.tmod y)))):=by
 rw[Z9g _ _ _ _ (by simp) (by simp)];simp[Z94,h]
@[go_sem] theorem Zwj (k k':IntKind) (x y:Int) (h:0<=y):Ji .shl (.d (.v (.int k x))) (.d (.v (.int k' y)))=some (.d (.v (.int k (k.wrap (x*2^(min y.toNat k.bits)))))):=by
 show(Z4a true k x y).map _=_
 simp[Z4a,show ¬y<0 by omega]
@[go_sem] theorem Y07 (k k':IntKind) (x y:Int) (h:0<=y):Ji .shr (.d (.v (.int k x))) (.d (.v (.int k' y)))=some (.d (.v (.int k (x.fdiv (2^(min y.toNat k.bits)))))):=by
 show(Z4a false k x y).map _=_
 simp[Z4a,show ¬y<0 by omega]
theorem Zt {n:Int}(h1: -9223372036854775808<=n)(h2:n<=9223372036854775807):IntKind.i64.wrap n=n:=by
 simp[IntKind.wrap,IntKind.bits,IntKind.signed];omega
theorem Z6r {n:Int}(h1:0<=n)(h2:n<=18446744073709551615):IntKind.u64.wrap n=n:=by
 simp[IntKind.wrap,IntKind.bits,IntKind.signed];omega
def Z4r (th:Bool)(A:List Blk)(nb:Nat)(used:List Nat):Option (AV×List Blk)->Option Done
 | some (x,Ac)=>bif th then Z3l A used (Zc3 Ac nb 6 x [] []) else Z7k A used (deep Ac 8 x)
 | none=>none
def Z8d (g:Nat):Nat:=1000000+g
def Zb (th:Bool)(E:Env)(call:cT)(f:FuncId)(A:List Blk)(nb:Nat):Option (List DV×List Nat)->Option Done
 | some (ds,used)=>Z4r th A nb used (Z2c E call f ds)
 | none=>none
def fkP:Option (List DV×List Nat)->Option (List DV×List Nat)
 | some (ds,used)=>some (ds.map (fk 4),used)
 | none=>none
@[go_sem] theorem Y9e (E : Env) (l : Nat -> Option (List Nat)) (m : Nat) (call : cT) (tm : List AV) (A : List Blk) (nb : Nat) (cells : List AV) (len s : Nat) (parts : List (Nat × Nat × Opd)) :
  Z2g cells len s parts { br:=E.br,th:=E.th,prim:=E.prim,back:=E.back,lives:=E.lives,live:=l,nb0:=m } call tm A nb=Zvl (Z1b 1000000 E.th || Z47 (l (Z8d 1000000))) len s nb (Z3u tm cells parts):=id rfl
@[go_sem] theorem Y4r (E : Env) (l : Nat -> Option (List Nat)) (m : Nat) (call : cT) (tm : List AV) (A : List Blk) (nb : Nat) (g : FuncId) (args : List Opd) (h : Z1b g E.br = false) :
  oK (.f g) args { br:=E.br,th:=E.th,prim:=E.prim,back:=E.back,lives:=E.lives,live:=l,nb0:=m } call tm A nb=Zb (Z1b g E.th || Z47 (l (Z8d g))) E call g A nb (fkP (Z2e (deep A 8) (args.map (look tm)))):=by
 show Zf3 { br:=E.br,th:=E.th,prim:=E.prim,back:=E.back,lives:=E.lives,live:=l,nb0:=m } call A nb (some (g,args.map (look tm)++[]))=_
 rw[List.append_nil]
 show Z4q { br:=E.br,th:=E.th,prim:=E.prim,back:=E.back,lives:=E.lives,live:=l,nb0:=m } call g (args.map (look tm)) A nb=_
 unfold Z4q
 show(bif Z1b g E.br then _ else _)=_
 rw[h,cond_false]
 cases Z2e (deep A 8) (args.map (look tm)) with
 | none=>rfl
 | some p=>
  obtain⟨ds,used⟩:=p
  show Z2v _ g A nb used _=Z4r _ A nb used _
  show Z2v _ g A nb used (Z2c E call g (ds.map (fk 4)))=_
  cases Z2c E call g (ds.map (fk 4))<;>rfl
def Y7c {α:Type}:Option (DV×List α)->Option (List DV×List α)->Option (List DV×List α)
 | some (a,u),some (b,w)=>some (a::b,u++w)
 | _,_=>none
def Y8k:Option (List DV×List Nat)->Option (DV×List Nat)
 | some (l,u)=>some (.agg l,u)
 | none=>none
@[go_sem] theorem Y1k {α:Type} (a:DV) (b:List DV) (u w:List α):Y7c (some (a,u)) (some (b,w))=some (a::b,u++w):=id rfl
@[go_sem] theorem Y2s (l:List DV) (u:List Nat):Y8k (some (l,u))=some (.agg l,u):=id rfl
@[go_sem] theorem Y3n (ds:List DV) (u:List Nat):fkP (some (ds,u))=some (ds.map (fk 4),u):=id rfl
@[go_sem] theorem Y3e (f:AV->Option (DV×List Nat)):Z2e f []=some ([],[]):=id rfl
@[go_sem] theorem Zt4 (f:AV->Option (DV×List Nat)) (x:AV) (l:List AV):Z2e f (x::l)=Y7c (f x) (Z2e f l):=by
 show(match f x,Z2e f l with | some (a,u),some (b,w)=>some (a::b,u++w) | _,_=>none)=_
 cases f x<;>cases Z2e f l<;>rfl
@[go_sem] theorem Y26 (A:List Blk) (n:Nat) (x:DV):deep A (n+1) (.d x)=some (x,[]):=id rfl
@[go_sem] theorem Y3y (A:List Blk) (n:Nat) (cs:List AV):deep A (n+1) (.agg cs)=Y8k (Z2e (deep A n) cs):=by
 show(Z2e (deep A n) cs).map (fun r=>(DV.agg r.1,r.2))=_
 cases Z2e (deep A n) cs<;>rfl
@[go_sem] theorem Yb3 (n:Nat) (x:Value):fk n (.v x)=.v x:=by cases n<;>rfl
@[go_sem] theorem Y7w (n:Nat) (cs:List DV) (len:Nat) (k:Option Nat):fk (n+1) (.lst cs len k)=.lst cs len none:=id rfl
@[go_sem] theorem Y7x (n:Nat) (cs:List DV):fk (n+1) (.agg cs)=.agg (cs.map (fk n)):=id rfl
@[go_sem] theorem Y7v (n:Nat) (cs:List DV):fk (n+1) (.tup cs)=.tup (cs.map (fk n)):=id rfl
@[go_sem] theorem Zvm (n:Nat):Z1b n []=false:=id rfl
@[go_sem] theorem Zr1 (n m:Nat) (l:List Nat):Z1b n (m::l)=if n=m then true else Z1b n l:=by
 show(if Nat.beq n m=true then true else Z1b n l)=_
 by_cases h:n=m
 ·subst h;simp
 ·have:Nat.beq n m=false:=by
   cases hb:Nat.beq n m with
   | false=>rfl
   | true=>exact absurd (Nat.eq_of_beq_eq_true hb) h
  rw[this,if_neg h];rfl
@[go_sem] theorem Yah (E : Env) (f : FuncId) (m key : Nat) (k : K) (tm : List AV) (A : List Blk) (h : E.lives f key = none) :
  Zmj { br:=E.br,th:=E.th,prim:=E.prim,back:=E.back,lives:=E.lives,live:=E.lives f,nb0:=m } key k tm A=k tm A:=Zxn _ _ _ _ _ h
end Go.Aug
