import Derived.Test.YthnhboimcidhgaaGreatDoorEvY
namespace Go.Aug
open Go
theorem ZD (E:Env)(fn:FuncId->Option (Env->cT->cT))(n:Nat)(f:FuncId)(args:List AV)(A:List Blk):Z4 E fn (n+1) f args A=M1 E (Z4 E fn n) f args A (fn f):=id rfl
theorem ZG (E:Env)(call:cT)(f:FuncId)(args:List AV)(A:List Blk)(F:Env->cT->cT):M1 E call f args A (some F)=F E call f args A:=id rfl
section
variable (E:Env) (call:cT) (kn:K) (kx:Nat->K) (kr:K) (tm:List AV) (A:List Blk)
@[go_sem] theorem Zzv (l:List (Fl×Stp)) (ps:List (Opd×Opd)):YG l ps E call kn kx kr tm A=K1 E call l (H4 ps kn) tm A:=id rfl
@[go_sem] theorem Zzq (k:K):K1 E call [] k tm A=k tm A:=id rfl
@[go_sem] theorem Zzu (k:K):H4 [] k tm A=k tm A:=id rfl
@[go_sem] theorem Zzx (fg:Fl) (d:Option Nat) (op:ZV) (l:List (Fl×Stp)) (k:K):K1 E call ((fg,⟨d,none,op⟩)::l) k tm A=F1 fg d (K1 E call l k) tm A (op E call tm A A.length):=id rfl
@[go_sem] theorem Zzt (fg:Fl) (d:Option Nat) (k:K) (x:AV):F1 fg d k tm A (some (.made x []))=k (YZ tm d x) A:=by cases fg<;>rfl
@[go_sem] theorem Zrf (d:Option Nat) (k:K) (x:AV) (b:Blk) (bs:List Blk):F1 .mk d k tm A (some (.made x (b::bs)))=k (YZ tm d x) (A++b::bs):=id rfl
@[go_sem] theorem Zzs (d:Option Nat) (k:K) (x:AV) (b:Blk) (bs:List Blk):F1 .any d k tm A (some (.made x (b::bs)))=k (YZ tm d x) (A++b::bs):=id rfl
@[go_sem] theorem Zzr (d:Option Nat) (k:K) (x:AV) (b:Blk) (bs:List Blk):F1 .tn d k tm A (some (.made x (b::bs)))=k (YZ tm d x) (A++b::bs):=id rfl
@[go_sem] theorem Zzn (d:Option Nat) (k:K) (x:AV) (A1:List Blk) (h:A.length<=A1.length):F1 .tn d k tm A (some (.turned x A1))=k (YZ tm d x) A1:=by
 show(bif Nat.ble A.length A1.length then _ else _)=_
 rw[Nat.ble_eq_true_of_le h];rfl
@[go_sem] theorem Zrc (d:Option Nat) (k:K) (x:AV) (A1:List Blk) (h:A.length<=A1.length):F1 .any d k tm A (some (.turned x A1))=k (YZ tm d x) A1:=by
 show(bif Nat.ble A.length A1.length then _ else _)=_
 rw[Nat.ble_eq_true_of_le h];rfl
end
@[go_sem] theorem Zxw (cs:List AV) (v w:Nat) (ro:Bool) (A:List Blk) (o:Nat):cellsAt (.cells cs v ro::A) 0 w o=if v=w then some (cs.drop o) else none:=id rfl
@[go_sem] theorem Zxv (b:Blk) (A:List Blk) (i v o:Nat):cellsAt (b::A) (i+1) v o=cellsAt A i v o:=id rfl
@[go_sem] theorem Zwz (n:Nat) (x:AV) (cs:List AV):BF false n (x::cs)=some x:=id rfl
@[go_sem] theorem Zww (n:Nat) (x:DV) (cs:List DV):BX false n (x::cs)=some x:=id rfl
def Z2h (a:DV):Option DV->Option DV
 | some (.agg l)=>some (.agg (a::l))
 | _=>none
def Z2i (a:AV):Option AV->Option AV
 | some (.agg l)=>some (.agg (a::l))
 | _=>none
@[go_sem] theorem Zwv (cs:List DV):BX true 0 cs=some (.agg []):=by simp[BX]
@[go_sem] theorem Zwy (cs:List AV):BF true 0 cs=some (.agg []):=by simp[BF]
@[go_sem] theorem Zxj (a:DV) (l:List DV):Z2h a (some (.agg l))=some (.agg (a::l)):=id rfl
@[go_sem] theorem Zxk (a:AV) (l:List AV):Z2i a (some (.agg l))=some (.agg (a::l)):=id rfl
@[go_sem] theorem Zwu (n:Nat) (a:DV) (cs:List DV):BX true (n+1) (a::cs)=Z2h a (BX true n cs):=by
 show(if n+1<=(a::cs).length then some (DV.agg ((a::cs).take (n+1))) else none)=Z2h a (if n<=cs.length then some (.agg (cs.take n)) else none)
 by_cases h:n<=cs.length
 ·rw[if_pos h,if_pos (by simpa using h)];rfl
 ·rw[if_neg h,if_neg (by simpa using h)];rfl
@[go_sem] theorem Zwx (n:Nat) (a:AV) (cs:List AV):BF true (n+1) (a::cs)=Z2i a (BF true n cs):=by
 show(if n+1<=(a::cs).length then some (AV.agg ((a::cs).take (n+1))) else none)=Z2i a (if n<=cs.length then some (.agg (cs.take n)) else none)
 by_cases h:n<=cs.length
 ·rw[if_pos h,if_pos (by simpa using h)];rfl
 ·rw[if_neg h,if_neg (by simpa using h)];rfl
@[go_sem] theorem Zxb (A:List Blk) (i v o:Nat) (ag:Bool) (n:Nat):FQ A (.ref i v o) ag n=(cellsAt A i v o).bind (BF ag n):=by
 show(match cellsAt A i v o with | some cs=>BF ag n cs | none=>none)=_
 cases cellsAt A i v o<;>rfl
@[go_sem] theorem Zxa (A:List Blk) (cs:List DV) (ag:Bool) (n:Nat):FQ A (.d (.vptr cs)) ag n=(BX ag n cs).map .d:=id rfl
def storeAt (A:List Blk)(i v o:Nat)(cs:List AV)(n:Nat):Option Blk->Option (List Blk)
 | some (.cells c v' false)=>if v'=v/\cs.length=n/\o+n<=c.length/\cs.all AV.one=true then some (A.set i (.cells (splice c o cs) v' false)) else none
 | _=>none
@[go_sem] theorem Zx0 (A:List Blk) (i v o:Nat) (x:AV) (n:Nat):Nj A (.ref i v o) x n=storeAt A i v o x.cells n A[i]? :=by
 show(match A[i]? with
  | some (.cells cs v' false)=>if v'=v/\x.cells.length=n/\o+n<=cs.length/\x.cells.all AV.one=true then some (A.set i (.cells (splice cs o x.cells) v' false)) else none
  | _=>none)=_
 cases A[i]? with
 | none=>rfl
 | some b=>cases b with
  | cells cs v' ro=>cases ro<;>rfl
  | iter=>rfl
  | free=>rfl
@[go_sem] theorem Z1f (A : List Blk) (i v o : Nat) (cs : List AV) (n : Nat) (c : List AV) (v' : Nat) : storeAt A i v o cs n (some (.cells c v' false)) =
  if v'=v/\cs.length=n/\o+n<=c.length/\cs.all AV.one=true then some (A.set i (.cells (splice c o cs) v' false)) else none:=id rfl
@[go_sem] theorem Zx1 (c:List AV) (o:Nat) (cs:List AV):splice c o cs=c.take o++cs++c.drop (o+cs.length):=id rfl
@[go_sem] theorem Zx8 (k:IntKind) (n:Int):AV.one (.d (.v (.int k n)))=true:=id rfl
@[go_sem] theorem Zx9 (b:Bool):AV.one (.d (.v (.bool b)))=true:=id rfl
@[go_sem] theorem Zx4 (s:ByteArray):AV.one (.d (.v (.string s)))=true:=id rfl
@[go_sem] theorem Zx7 (cs:List DV) (n:Nat) (k:Option Nat):AV.one (.d (.lst cs n k))=true:=id rfl
@[go_sem] theorem Zx5 (i v o len sz:Nat) (k:Option Nat):AV.one (.sref i v o len sz k)=true:=id rfl
@[go_sem] theorem Zx6 (i v o:Nat):AV.one (.ref i v o)=true:=id rfl
@[go_sem] theorem Zxr (cs:List AV):AV.cells (.agg cs)=cs:=id rfl
@[go_sem] theorem Zxp (cs:List DV):AV.cells (.d (.agg cs))=cs.map .d:=id rfl
@[go_sem] theorem Zxo (k:IntKind) (n:Int):AV.cells (.d (.v (.int k n)))=[.d (.v (.int k n))]:=id rfl
@[go_sem] theorem Zxq (b:Bool):AV.cells (.d (.v (.bool b)))=[.d (.v (.bool b))]:=id rfl
@[go_sem] theorem Zxl (s:ByteArray):AV.cells (.d (.v (.string s)))=[.d (.v (.string s))]:=id rfl
@[go_sem] theorem Zxn (cs:List DV) (n:Nat) (k:Option Nat):AV.cells (.d (.lst cs n k))=[.d (.lst cs n k)]:=id rfl
@[go_sem] theorem Zxm (i v o len sz:Nat) (k:Option Nat):AV.cells (.sref i v o len sz k)=[.sref i v o len sz k]:=id rfl
@[go_sem] theorem Zxu (cs:List AV):AV.isBot (.agg cs)=false:=id rfl
@[go_sem] theorem Zxt (x:DV):AV.isBot (.d x)=false:=id rfl
@[go_sem] theorem Zxs (i v o len sz:Nat) (k:Option Nat):AV.isBot (.sref i v o len sz k)=false:=id rfl
@[go_sem] theorem Zxg (tm cells : List AV) (off size : Nat) (x : Opd) (rest : List (Nat × Nat × Opd)) : Bz tm cells ((off, size, x) :: rest) =
  if(look tm x).isBot=false/\(look tm x).cells.length=size/\off+size<=cells.length then Bz tm (splice cells off (look tm x).cells) rest else none:=id rfl
attribute [go_sem] List.getElem?_cons_zero List.getElem?_cons_succ List.set_cons_zero List.set_cons_succ List.take_zero List.take_succ_cons List.drop_zero List.drop_succ_cons List.all_cons List.all_nil Bool.and_self and_self List.append_nil List.drop_nil List.take_nil
@[go_sem] theorem Zxx (i v o n:Nat):GU (.ref i v o) n=some (.ref i v (o+n)):=id rfl
@[go_sem] theorem Zxy (cs:List DV) (n:Nat):GU (.d (.vptr cs)) n=if n<=cs.length then some (.d (.vptr (cs.drop n))) else none:=id rfl
section
variable (E:Env) (call:cT) (tm:List AV) (A:List Blk) (nb:Nat)
@[go_sem] theorem Zv3 (op:UnOp) (x:Opd):YX op x E call tm A nb=one? (WK op (look tm x)):=id rfl
@[go_sem] theorem Zvc (b:Bool):WK .not (.d (.v (.bool b)))=some (Yx !b):=id rfl
@[go_sem] theorem Zv9 (c a b:Opd):YE c a b E call tm A nb=T7 tm a b (look tm c):=id rfl
@[go_sem] theorem Zv8 (a b:Opd) (c:Bool):T7 tm a b (.d (.v (.bool c)))=some (.made (bif c then look tm a else look tm b) []):=by cases c<;>rfl
@[go_sem] theorem Zwg (x:Opd) (off:Nat):oA x off E call tm A nb=one? (GU (look tm x) off):=id rfl
@[go_sem] theorem Zvo (x:Opd) (ag:Bool) (n:Nat):oL x ag n E call tm A nb=one? (FQ A (look tm x) ag n):=id rfl
@[go_sem] theorem Zv5 (a x:Opd) (n:Nat):oS a x n E call tm A nb=MC (Nj A (look tm a) (look tm x) n):=id rfl
@[go_sem] theorem Zv4 (B:List Blk):MC (some B)=some (.turned CK B):=id rfl
@[go_sem] theorem Zvg (z:List AV):ZT z E call tm A nb=some (.made (.ref nb 0 0) [.cells z 0 false]):=id rfl
@[go_sem] theorem Zwb (x:Opd):ZA x E call tm A nb=Uz nb (look tm x):=id rfl
@[go_sem] theorem Zw9 (x:DV):Uz nb (.d x)=some (.made (.ref nb 0 0) [.cells (AV.d x).cells 0 false]):=id rfl
@[go_sem] theorem Zwa (cs:List AV):Uz nb (.agg cs)=some (.made (.ref nb 0 0) [.cells cs 0 false]):=id rfl
@[go_sem] theorem Zvr (x:Opd):JQ x E call tm A nb=one? (S2 (look tm x)):=id rfl
@[go_sem] theorem Zvt (cs:List DV) (len:Nat) (k:Option Nat):S2 (.d (.lst cs len k))=some (aI len):=id rfl
@[go_sem] theorem Zvs (i v o len sz:Nat) (k:Option Nat):S2 (.sref i v o len sz k)=some (aI len):=id rfl
@[go_sem] theorem Zvh (mx:Bool) (xs:List Opd):Bj mx xs E call tm A nb=one? (S1 mx (xs.map (look tm))):=id rfl
@[go_sem] theorem Zvn (k:IntKind) (x y:Int):S1 true [.d (.v (.int k x)),.d (.v (.int k y))]=some (.d (.v (.int k (max x y)))):=by
 show some (AV.d (.v (.int k (if y>x then y else x))))=_
 congr 4;simp only[Int.max_def];split<;>split<;>omega
@[go_sem] theorem Zvm (k:IntKind) (x y:Int):S1 false [.d (.v (.int k x)),.d (.v (.int k y))]=some (.d (.v (.int k (min x y)))):=by
 show some (AV.d (.v (.int k (if y<x then y else x))))=_
 congr 4;simp only[Int.min_def];split<;>split<;>omega
@[go_sem] theorem Zw4 (k:IntKind) (x:Opd):G9 k x E call tm A nb=WX k (look tm x):=id rfl
@[go_sem] theorem Zw3 (k k':IntKind) (n:Int):WX k (.d (.v (.int k' n)))=some (.made (.d (.v (.int k (k.wrap n)))) []):=id rfl
@[go_sem] theorem Zvv (x ix:Opd) (s:Nat):Fv x ix s E call tm A nb=one? (F3 (look tm x) (look tm ix) s):=id rfl
@[go_sem] theorem Zva (x:Opd) (off:Nat) (ag:Bool) (n:Nat):EW x off ag n E call tm A nb=one? (HY (look tm x) off ag n):=id rfl
@[go_sem] theorem Zw0 (x:Opd) (i:Nat):VV x i E call tm A nb=one? (TU (look tm x) i):=id rfl
@[go_sem] theorem Zw8 (z:List AV) (ps:List (Nat×Nat×Opd)):YP z ps E call tm A nb=UD (Bz tm z ps):=id rfl
@[go_sem] theorem Zwf (cs:List AV):UD (some cs)=some (.made (.agg cs) []):=id rfl
end
theorem F7 (op:BinOp)(k:IntKind)(x y:Int)(h1:op≠ .shl)(h2:op≠ .shr):YT op (.d (.v (.int k x))) (.d (.v (.int k y)))=(F4 op k x y).map fun r=>.d (.v r):=by
 cases op<;>simp_all [YT]
@[go_sem] theorem Y08 (k:IntKind) (x y:Int):YT .add (.d (.v (.int k x))) (.d (.v (.int k y)))=some (.d (.v (.int k (k.wrap (x+y))))):=by rw[F7 _ _ _ _ (by simp) (by simp)];rfl
@[go_sem] theorem Zzz (k:IntKind) (x y:Int):YT .sub (.d (.v (.int k x))) (.d (.v (.int k y)))=some (.d (.v (.int k (k.wrap (x-y))))):=by rw[F7 _ _ _ _ (by simp) (by simp)];rfl
@[go_sem] theorem Y02 (k:IntKind) (x y:Int):YT .mul (.d (.v (.int k x))) (.d (.v (.int k y)))=some (.d (.v (.int k (k.wrap (x*y))))):=by rw[F7 _ _ _ _ (by simp) (by simp)];rfl
@[go_sem] theorem Y03 (k:IntKind) (x y:Int):YT .lss (.d (.v (.int k x))) (.d (.v (.int k y)))=some (Yx (x<y)):=by rw[F7 _ _ _ _ (by simp) (by simp)];rfl
@[go_sem] theorem Y04 (k:IntKind) (x y:Int):YT .leq (.d (.v (.int k x))) (.d (.v (.int k y)))=some (Yx (x<=y)):=by rw[F7 _ _ _ _ (by simp) (by simp)];rfl
@[go_sem] theorem Y05 (k:IntKind) (x y:Int):YT .gtr (.d (.v (.int k x))) (.d (.v (.int k y)))=some (Yx (x>y)):=by rw[F7 _ _ _ _ (by simp) (by simp)];rfl
@[go_sem] theorem Y06 (k:IntKind) (x y:Int):YT .geq (.d (.v (.int k x))) (.d (.v (.int k y)))=some (Yx (x>=y)):=by rw[F7 _ _ _ _ (by simp) (by simp)];rfl
@[go_sem] theorem Y07 (k:IntKind) (x y:Int):YT .eql (.d (.v (.int k x))) (.d (.v (.int k y)))=some (Yx (x==y)):=by rw[F7 _ _ _ _ (by simp) (by simp)];rfl
@[go_sem] theorem Y01 (k:IntKind) (x y:Int):YT .neq (.d (.v (.int k x))) (.d (.v (.int k y)))=some (Yx (x !=y)):=by rw[F7 _ _ _ _ (by simp) (by simp)];rfl
@[go_sem] theorem Y00 (k:IntKind) (x y:Int) (h:y≠0):YT .quo (.d (.v (.int k x))) (.d (.v (.int k y)))=some (.d (.v (.int k (k.wrap (x.tdiv y))))):=by
 rw[F7 _ _ _ _ (by simp) (by simp)];simp[F4,h]
@[go_sem] theorem Xx (k:IntKind) (x y:Int) (h:y≠0):YT .rem (.d (.v (.int k x))) (.d (.v (.int k y)))=some (.d (.v (.int k (x.tmod y)))):=by
 rw[F7 _ _ _ _ (by simp) (by simp)];simp[F4,h]
@[go_sem] theorem Xq (k k':IntKind) (x y:Int) (h:0<=y):YT .shl (.d (.v (.int k x))) (.d (.v (.int k' y)))=some (.d (.v (.int k (k.wrap (x*2^(min y.toNat k.bits)))))):=by
 show(HX true k x y).map _=_
 simp[HX,show ¬y<0 by omega]
@[go_sem] theorem Z3f (k k':IntKind) (x y:Int) (h:0<=y):YT .shr (.d (.v (.int k x))) (.d (.v (.int k' y)))=some (.d (.v (.int k (x.fdiv (2^(min y.toNat k.bits)))))):=by
 show(HX false k x y).map _=_
 simp[HX,show ¬y<0 by omega]
theorem YH {n:Int}(h1: -9223372036854775808<=n)(h2:n<=9223372036854775807):IntKind.i64.wrap n=n:=by
 simp[IntKind.wrap,IntKind.bits,IntKind.signed];omega
theorem Rq {n:Int}(h1:0<=n)(h2:n<=18446744073709551615):IntKind.u64.wrap n=n:=by
 simp[IntKind.wrap,IntKind.bits,IntKind.signed];omega
def F5 (th:Bool)(A:List Blk)(nb:Nat)(used:List Nat):Option (AV×List Blk)->Option Done
 | some (x,Ac)=>bif th then E3 A used (B4 Ac nb 6 x [] []) else H5 A used (deep Ac 8 x)
 | none=>none
def EP (g:Nat):Nat:=1000000+g
def Zv (th:Bool)(E:Env)(call:cT)(f:FuncId)(A:List Blk)(nb:Nat):Option (List DV×List Nat)->Option Done
 | some (ds,used)=>F5 th A nb used (Jk E call f ds)
 | none=>none
def TN:Option (List DV×List Nat)->Option (List DV×List Nat)
 | some (ds,used)=>some (ds.map (fk 4),used)
 | none=>none
@[go_sem] theorem Zvl (E : Env) (l : Nat -> Option (List Nat)) (m : Nat) (call : cT) (tm : List AV) (A : List Blk) (nb : Nat) (cells : List AV) (len s : Nat) (parts : List (Nat × Nat × Opd)) :
  YA cells len s parts { br:=E.br,th:=E.th,prim:=E.prim,back:=E.back,lives:=E.lives,live:=l,nb0:=m } call tm A nb=KE (Y8 1000000 E.th || HS (l (EP 1000000))) len s nb (Bz tm cells parts):=id rfl
@[go_sem] theorem Zw7 (E : Env) (l : Nat -> Option (List Nat)) (m : Nat) (call : cT) (tm : List AV) (A : List Blk) (nb : Nat) (g : FuncId) (args : List Opd) (h : Y8 g E.br = false) :
  oK (.f g) args { br:=E.br,th:=E.th,prim:=E.prim,back:=E.back,lives:=E.lives,live:=l,nb0:=m } call tm A nb=Zv (Y8 g E.th || HS (l (EP g))) E call g A nb (TN (YD (deep A 8) (args.map (look tm)))):=by
 show K5 { br:=E.br,th:=E.th,prim:=E.prim,back:=E.back,lives:=E.lives,live:=l,nb0:=m } call A nb (some (g,args.map (look tm)++[]))=_
 rw[List.append_nil]
 show FR { br:=E.br,th:=E.th,prim:=E.prim,back:=E.back,lives:=E.lives,live:=l,nb0:=m } call g (args.map (look tm)) A nb=_
 unfold FR
 show(bif Y8 g E.br then _ else _)=_
 rw[h,cond_false]
 cases YD (deep A 8) (args.map (look tm)) with
 | none=>rfl
 | some p=>
  obtain⟨ds,used⟩:=p
  show HZ _ g A nb used _=F5 _ A nb used _
  show HZ _ g A nb used (Jk E call g (ds.map (fk 4)))=_
  cases Jk E call g (ds.map (fk 4))<;>rfl
def Z7b {α:Type}:Option (DV×List α)->Option (List DV×List α)->Option (List DV×List α)
 | some (a,u),some (b,w)=>some (a::b,u++w)
 | _,_=>none
def Zdv:Option (List DV×List Nat)->Option (DV×List Nat)
 | some (l,u)=>some (.agg l,u)
 | none=>none
@[go_sem] theorem Zwt {α:Type} (a:DV) (b:List DV) (u w:List α):Z7b (some (a,u)) (some (b,w))=some (a::b,u++w):=id rfl
@[go_sem] theorem Y0b (l:List DV) (u:List Nat):Zdv (some (l,u))=some (.agg l,u):=id rfl
@[go_sem] theorem Zy8 (ds:List DV) (u:List Nat):TN (some (ds,u))=some (ds.map (fk 4),u):=id rfl
@[go_sem] theorem Zws (f:AV->Option (DV×List Nat)):YD f []=some ([],[]):=id rfl
@[go_sem] theorem Zo6 (f:AV->Option (DV×List Nat)) (x:AV) (l:List AV):YD f (x::l)=Z7b (f x) (YD f l):=by
 show(match f x,YD f l with | some (a,u),some (b,w)=>some (a::b,u++w) | _,_=>none)=_
 cases f x<;>cases YD f l<;>rfl
@[go_sem] theorem Zra (A:List Blk) (n:Nat) (x:DV):deep A (n+1) (.d x)=some (x,[]):=id rfl
@[go_sem] theorem Zzm (A:List Blk) (n:Nat) (cs:List AV):deep A (n+1) (.agg cs)=Zdv (YD (deep A n) cs):=by
 show(YD (deep A n) cs).map (fun r=>(DV.agg r.1,r.2))=_
 cases YD (deep A n) cs<;>rfl
@[go_sem] theorem Zy3 (n:Nat) (x:Value):fk n (.v x)=.v x:=by cases n<;>rfl
@[go_sem] theorem Zy5 (n:Nat) (cs:List DV) (len:Nat) (k:Option Nat):fk (n+1) (.lst cs len k)=.lst cs len none:=id rfl
@[go_sem] theorem Zy7 (n:Nat) (cs:List DV):fk (n+1) (.agg cs)=.agg (cs.map (fk n)):=id rfl
@[go_sem] theorem Zy4 (n:Nat) (cs:List DV):fk (n+1) (.tup cs)=.tup (cs.map (fk n)):=id rfl
@[go_sem] theorem Zo2 (n:Nat):Y8 n []=false:=id rfl
@[go_sem] theorem Zo3 (n m:Nat) (l:List Nat):Y8 n (m::l)=if n=m then true else Y8 n l:=by
 show(if Nat.beq n m=true then true else Y8 n l)=_
 by_cases h:n=m
 ·subst h;simp
 ·have:Nat.beq n m=false:=by
   cases hb:Nat.beq n m with
   | false=>rfl
   | true=>exact absurd (Nat.eq_of_beq_eq_true hb) h
  rw[this,if_neg h];rfl
@[go_sem] theorem Zzc (E : Env) (f : FuncId) (m key : Nat) (k : K) (tm : List AV) (A : List Blk) (h : E.lives f key = none) :
  DT { br:=E.br,th:=E.th,prim:=E.prim,back:=E.back,lives:=E.lives,live:=E.lives f,nb0:=m } key k tm A=k tm A:=Zc2 _ _ _ _ _ h
end Go.Aug
