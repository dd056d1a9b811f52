import Derived.Calls
import Derived.Laws.Sem
import Derived.Laws.Cover4
import GoSem.Core.Utf8
namespace Go.Aug
open Go
inductive DV where
 | v (x:Value)
 | agg (cs:List DV)
 | tup (vs:List DV)
 | lst (cs:List DV) (len:Nat) (k:Option Nat)
 | vptr (cs:List DV)
 | fn (f:Fn) (cap:List DV)
 | ifc (t:TypeId) (x:DV)
 | nel
 deriving Inhabited
inductive AV where
 | d (x:DV)
 | agg (cs:List AV)
 | tup (vs:List AV)
 | ref (i ver off:Nat)
 | sref (i ver off len sz:Nat) (k:Option Nat)
 | fn (f:Fn) (cap:List AV)
 | ifc (t:TypeId) (x:AV)
 | bot
 deriving Inhabited
inductive Blk where
 | cells (cs:List AV) (ver:Nat) (ro:Bool)
 | iter (s:ByteArray) (pos:Nat)
 | free
 deriving Inhabited
def AV.cells:AV->List AV
 | .agg cs=>cs
 | .d (.agg cs)=>cs.map .d
 | x=>[x]
def AV.isBot:AV->Bool
 | .bot=>true
 | _=>false
def AV.one:AV->Bool
 | .bot=>false
 | .agg _ | .tup _ | .d (.agg _) | .d (.tup _)=>false
 | .d (.v (.agg _)) | .d (.v (.tuple _))=>false
 | _=>true
abbrev JH:AV:=.d (.tup [])
abbrev VB:AV:=.d (.v (.slice none 0 0))
abbrev aI (n:Int):AV:=.d (.v (.int .i64 n))
abbrev YB (b:Bool):AV:=.d (.v (.bool b))
def Y3:List AV->Nat->AV
 | [],_=>JH
 | x::_,0=>x
 | _::l,n+1=>Y3 l n
def BR:List AV->Nat->AV->List AV
 | [],_,_=>[]
 | _::l,0,y=>y::l
 | x::l,n+1,y=>x::BR l n y
inductive Opd where
 | t (n:Nat)
 | c (x:DV)
 | f (id:FuncId)
 deriving Inhabited
def look (tm:List AV):Opd->AV
 | .t n=>Y3 tm n
 | .c x=>.d x
 | .f id=>.fn (.func id) []
inductive Lf where
 | bool | int | str
 deriving Inhabited,DecidableEq
inductive Sh where
 | leaf (f:Lf)
 | iface | slice
 | flds (n:Nat) (l:List (Nat×Lf))
 deriving Inhabited
def FD:AV->Nat->Option AV
 | .d (.vptr cs),n=>if n<=cs.length then some (.d (.vptr (cs.drop n))) else none
 | .ref i ver o,n=>some (.ref i ver (o+n))
 | _,_=>none
def splice {α:Type}(cells:List α)(off:Nat)(cs:List α):List α:=
 cells.take off++cs++cells.drop (off+cs.length)
def AA (tm cells:List AV):List (Nat×Nat×Opd)->Option (List AV)
 | []=>some cells
 | (off,size,x)::rest=>
  let cs:=(look tm x).cells
  if(look tm x).isBot=false/\cs.length=size/\off+size<=cells.length then AA tm (splice cells off cs) rest else none
def BD (ag:Bool)(n:Nat)(cs:List AV):Option AV:=
 if ag then(if n<=cs.length then some (.agg (cs.take n)) else none) else cs.head?
def B2 (ag:Bool)(n:Nat)(cs:List DV):Option DV:=
 if ag then(if n<=cs.length then some (.agg (cs.take n)) else none) else cs.head?
def GW (x:AV)(off:Nat)(ag:Bool)(n:Nat):Option AV:=
 match x with
 | .agg cs=>if off+n<=cs.length then BD ag n (cs.drop off) else none
 | .d (.agg cs)=>if off+n<=cs.length then(B2 ag n (cs.drop off)).map .d else none
 | _=>none
def Sq (x ix:AV)(len s:Nat):Option AV:=
 match ix with
 | .d (.v (.int _ i))=>if 0<=i/\i<len then FD x (i.toNat*s) else none
 | _=>none
def DH (x ix:AV)(s:Nat):Option AV:=
 match ix with
 | .d (.v (.int _ i))=>
  match x with
  | .d (.lst cs len _)=>if 0<=i/\i<len/\i.toNat*s<=cs.length then some (.d (.vptr (cs.drop (i.toNat*s)))) else none
  | .sref b ver off len sz _=>if 0<=i/\i<len/\sz=s then some (.ref b ver (off+i.toNat*s)) else none
  | _=>none
 | _=>none
def UT (x ix:AV)(len s:Nat)(ag:Bool)(n:Nat):Option AV:=
 match ix with
 | .d (.v (.int _ i))=>if 0<=i/\i<len then GW x (i.toNat*s) ag n else none
 | _=>none
def XZ (x ix:AV):Option AV:=
 match x,ix with
 | .d (.v (.string s)),.d (.v (.int _ i))=>if 0<=i then(s[i.toNat]?).map fun b=>.d (.v (.int .u8 b.toNat)) else none
 | _,_=>none
def Sx (x:AV)(i:Nat):Option AV:=
 match x with
 | .tup vs=>vs[i]?
 | .d (.tup vs)=>(vs[i]?).map .d
 | _=>none
def UQ (op:UnOp)(x:AV):Option AV:=
 match op,x with
 | .not,.d (.v (.bool b))=>some (YB !b)
 | .neg,.d (.v (.int k n))=>some (.d (.v (.int k (k.wrap (0-n)))))
 | _,_=>none
def DJ (op:BinOp)(k:IntKind)(x y:Int):Option Value:=
 match op with
 | .add=>some (.int k (k.wrap (x+y)))
 | .sub=>some (.int k (k.wrap (x-y)))
 | .mul=>some (.int k (k.wrap (x*y)))
 | .quo=>if y=0 then none else some (.int k (k.wrap (x.tdiv y)))
 | .rem=>if y=0 then none else some (.int k (x.tmod y))
 | .and=>some (.int k (k.wrap (BitVec.ofInt k.bits x&&&BitVec.ofInt k.bits y).toNat))
 | .or=>some (.int k (k.wrap (BitVec.ofInt k.bits x ||| BitVec.ofInt k.bits y).toNat))
 | .xor=>some (.int k (k.wrap (BitVec.ofInt k.bits x^^^BitVec.ofInt k.bits y).toNat))
 | .andNot=>some (.int k (k.wrap (BitVec.ofInt k.bits x&&& ~~~BitVec.ofInt k.bits y).toNat))
 | .eql=>some (.bool (x==y))
 | .neq=>some (.bool (x !=y))
 | .lss=>some (.bool (x<y))
 | .leq=>some (.bool (x<=y))
 | .gtr=>some (.bool (x>y))
 | .geq=>some (.bool (x>=y))
 | _=>none
def GV (shl:Bool)(k:IntKind)(x y:Int):Option Value:=
 if y<0 then none else
 if shl then some (.int k (k.wrap (x*2^(min y.toNat k.bits)))) else some (.int k (x.fdiv (2^(min y.toNat k.bits))))
def M4 (op:BinOp)(x y:ByteArray):Option Value:=
 match op with
 | .add=>if x.size+y.size<=1099511627776 then some (.string (x++y)) else none
 | .eql=>some (.bool (x.toList==y.toList))
 | .neq=>some (.bool !(x.toList==y.toList))
 | .lss=>some (.bool (Op.bytesLess x.toList y.toList))
 | .leq=>some (.bool (Op.bytesLess x.toList y.toList || x.toList==y.toList))
 | .gtr=>some (.bool !(Op.bytesLess x.toList y.toList || x.toList==y.toList))
 | .geq=>some (.bool !(Op.bytesLess x.toList y.toList))
 | _=>none
def Q4 (op:BinOp)(x y:AV):Option AV:=
 match x,y with
 | .d (.v (.int k a)),.d (.v (.int k' b))=>
  match op with
  | .shl=>(GV true k a b).map fun r=>.d (.v r)
  | .shr=>(GV false k a b).map fun r=>.d (.v r)
  | op=>if k=k' then(DJ op k a b).map fun r=>.d (.v r) else none
 | .d (.v (.string a)),.d (.v (.string b))=>(M4 op a b).map fun r=>.d (.v r)
 | _,_=>none
def CM:Lf->AV->AV->Option Bool
 | .bool,.d (.v (.bool a)),.d (.v (.bool b))=>some (a==b)
 | .int,.d (.v (.int k a)),.d (.v (.int k' b))=>if k=k' then some (a==b) else none
 | .str,.d (.v (.string a)),.d (.v (.string b))=>some (a.toList==b.toList)
 | _,_,_=>none
def BX (xs ys:List AV):List (Nat×Lf)->Option Bool
 | []=>some true
 | (o,f)::l=>match CM f (Y3 xs o) (Y3 ys o),BX xs ys l with
  | some a,some b=>some (a&&b)
  | _,_=>none
def MB:AV->Option (List AV)
 | .agg cs=>some cs
 | .d (.agg cs)=>some (cs.map .d)
 | _=>none
def UU (n:Nat)(l:List (Nat×Lf)):Option (List AV)->Option (List AV)->Option Bool
 | some xs,some ys=>if xs.length=n/\ys.length=n then BX xs ys l else none
 | _,_=>none
def FP (sh:Sh)(x y:AV):Option Bool:=
 match sh with
 | .leaf f=>CM f x y
 | .iface=>match x,y with
  | .d (.v .nilIface),.ifc _ _ | .ifc _ _,.d (.v .nilIface) | .d (.v .nilIface),.d (.ifc _ _) | .d (.ifc _ _),.d (.v .nilIface)=>some false
  | _,_=>none
 | .slice=>match x,y with
  | .d (.v (.slice none _ _)),.d (.v (.slice none _ _))=>some true
  | .sref ..,.d (.v (.slice none _ _))=>some false
  | .d (.lst _ n _),.d (.v (.slice none _ _))=>if n=0 then none else some false
  | .d .nel,.d (.v (.slice none _ _))=>some false
  | _,_=>none
 | .flds n l=>UU n l (MB x) (MB y)
def Dj (len:Nat)(tm:List AV)(x:Option Opd)(dflt:Nat):Option Nat:=
 match x with
 | none=>some dflt
 | some o=>match look tm o with
  | .d (.v (.int _ n))=>if 0<=n/\n<=len then some n.toNat else none
  | _=>none
def A7 (len:Nat)(tm:List AV)(lo hi mx:Option Opd):Option (Nat×Nat×Nat):=
 match Dj len tm mx len,Dj len tm hi len,Dj len tm lo 0 with
 | some m,some h,some l=>if l<=h/\h<=m/\(mx.isSome->hi.isSome) then some (l,h,m) else none
 | _,_,_=>none
def HV (mx:Option Opd)(m l:Nat)(k:Option Nat):Option Nat:=
 if mx.isSome then some (m-l) else k.map (·-l)
def GU (tm:List AV)(x:AV)(lo hi mx:Option Opd)(s:Nat):Option AV:=
 match x with
 | .d (.lst cs len k)=>match A7 len tm lo hi mx with
  | some (l,h,m)=>
   if l=h then some (.d (.lst [] 0 (if mx.isSome/\m=l then some 0 else none)))
   else if h*s<=cs.length then some (.d (.lst ((cs.drop (l*s)).take ((h-l)*s)) (h-l) (HV mx m l k))) else none
  | none=>none
 | .d (.v (.slice none 0 0))=>(A7 0 tm lo hi mx).map fun _=>VB
 | .sref i ver off len sz k=>match A7 len tm lo hi mx with
  | some (l,h,m)=>
   if s≠sz then none else
   if l=h/\l≠0 then some (.d (.lst [] 0 (if mx.isSome/\m=l then some 0 else none)))
   else some (.sref i ver (off+l*s) (h-l) sz (HV mx m l k))
  | none=>none
 | _=>none
def UR (tm:List AV)(x:AV)(lo hi:Option Opd):Option AV:=
 match x with
 | .d (.v (.string s))=>(A7 s.size tm lo hi none).map fun(l,h,_)=>.d (.v (.string (s.extract l h)))
 | _=>none
def PE (x:AV):Option AV:=
 match x with
 | .d (.lst _ len _)=>some (aI len)
 | .sref _ _ _ len _ _=>some (aI len)
 | .d (.v (.slice none 0 0))=>some (aI 0)
 | .d .nel=>some (aI 0)
 | _=>none
def RZ (mx:Bool)(k:IntKind):Int->List AV->Option AV
 | x,[]=>some (.d (.v (.int k x)))
 | x,.d (.v (.int _ y))::rest=>RZ mx k (if mx then(if y>x then y else x) else(if y<x then y else x)) rest
 | _,_=>none
def PD (mx:Bool):List AV->Option AV
 | .d (.v (.int k x))::rest=>RZ mx k x rest
 | _=>none
def Z85 (x:AV)(t:TypeId)(zero:DV)(ok:Bool):Option AV:=
 match x with
 | .ifc u y=>if u=t then(if ok then some (.tup [y,YB true]) else some y) else if ok then some (.d (.tup [zero,.v (.bool false)])) else none
 | .d (.ifc u y)=>if u=t then(if ok then some (.tup [.d y,YB true]) else some (.d y)) else if ok then some (.d (.tup [zero,.v (.bool false)])) else none
 | .d (.v .nilIface)=>if ok then some (.d (.tup [zero,.v (.bool false)])) else none
 | _=>none
def Sk:AV->Option AV
 | .ref i ver o=>some (.ref i ver o)
 | .d (.vptr cs)=>some (.d (.vptr cs))
 | .fn (.func f) c=>some (.fn (.func f) c)
 | .d (.fn (.func f) c)=>some (.d (.fn (.func f) c))
 | _=>none
def cellsAt (A:List Blk)(i ver off:Nat):Option (List AV):=
 match A[i]? with
 | some (.cells cs v _)=>if v=ver then some (cs.drop off) else none
 | _=>none
def XY (A:List Blk)(tm:List AV)(x:AV)(lo hi mx:Option Opd)(n s:Nat):Option AV:=
 match x with
 | .ref i ver off=>match A7 n tm lo hi mx,cellsAt A i ver off with
  | some (l,h,m),some cs=>if(l=h/\l≠0)∨cs.length<n*s∨n*s=0 then none else some (.sref i ver (off+l*s) (h-l) s (some (m-l)))
  | _,_=>none
 | .d (.vptr cs)=>match A7 n tm lo hi mx with
  | some (l,h,m)=>
   if l=h∨cs.length<h*s then none
   else some (.d (.lst ((cs.drop (l*s)).take ((h-l)*s)) (h-l) (some (m-l))))
  | none=>none
 | _=>none
def ED (A:List Blk)(a:AV)(ag:Bool)(n:Nat):Option AV:=
 match a with
 | .d (.vptr cs)=>(B2 ag n cs).map .d
 | .ref i ver off=>match cellsAt A i ver off with
  | some cs=>BD ag n cs
  | none=>none
 | _=>none
def FN (A:List Blk)(a x:AV)(n:Nat):Option (List Blk):=
 match a with
 | .ref i ver off=>
  match A[i]? with
  | some (.cells cs v false)=>
   if v=ver/\x.cells.length=n/\off+n<=cs.length/\x.cells.all AV.one=true then some (A.set i (.cells (splice cs off x.cells) v false)) else none
  | _=>none
 | _=>none
def Z4:Nat:=1099511627776
def Eq (A:List Blk)(str:Bool)(s:Nat)(x:AV):Option (List AV×Nat):=
 match str,x with
 | false,.d (.v (.slice none 0 0))=>some ([],0)
 | false,.d (.lst cs len _)=>if cs.length=len*s then some (cs.map .d,len) else none
 | false,.sref i ver off len sz _=>
  match cellsAt A i ver off with
  | some cs=>if s=sz/\len*sz<=cs.length then some (cs.take (len*sz),len) else none
  | none=>none
 | true,.d (.v (.string b))=>some (b.data.toList.map fun b=>.d (.v (.int .u8 b.toNat)),b.size)
 | false,.d .nel=>some ([],0)
 | _,_=>none
inductive App where
 | same
 | fresh (cells:List AV) (len:Nat)
 | turn (i:Nat) (b:Blk) (x:AV)
def J4 (A:List Blk)(s bytes:Nat)(base:AV)(new:List AV)(n:Nat):Option App:=
 if n=0 then(match base with
  | .sref .. | .d (.lst ..) | .d (.v (.slice none 0 0))=>some .same
  | _=>none) else
 match base with
 | .d (.v (.slice none 0 0))=>if n*bytes<=Z4/\n<=Z4 then some (.fresh new n) else none
 | .d (.lst cs len (some c))=>
  if c<len+n/\cs.length=len*s/\(len+n)*bytes<=Z4/\len+n<=Z4 then some (.fresh (cs.map .d++new) (len+n)) else none
 | .sref i ver off len sz k=>
  if sz≠s∨Z4<(len+n)*bytes∨Z4<len+n∨new.all AV.one=false then none else
  match A[i]? with
  | some (.cells cs v ro)=>
   if v≠ver∨cs.length<off+len*s then none else
   match k with
   | some c=>
    if c<len+n then some (.fresh ((cs.drop off).take (len*s)++new) (len+n))
    else if ro=false/\off+(len+n)*s<=cs.length then some (.turn i (.cells (splice cs (off+len*s) new) v ro) (.sref i ver off (len+n) sz k))
    else none
   | none=>
    if ro then none else
    if off+(len+n)*s<=cs.length then some (.turn i (.cells (splice cs (off+len*s) new) v ro) (.sref i ver off (len+n) sz none))
    else if off=0/\len*s=cs.length then some (.turn i (.cells (cs++new) (v+1) ro) (.sref i (v+1) 0 (len+n) sz none))
    else none
  | _=>none
 | _=>none
def rep {α:Type}(l:List α):Nat->List α
 | 0=>[]
 | n+1=>l++rep l n
def KY (k:IntKind):List AV->Option (List Int)
 | []=>some []
 | .d (.v (.int k' n))::rest=>if k'=k then(KY k rest).map (n:: ·) else none
 | _=>none
def MA (ns:List Int):ByteArray:=ns.foldl (fun r n=>r.push (UInt8.ofNat n.toNat)) ByteArray.empty
def WE (A:List Blk)(x:AV):Option (List AV):=
 match x with
 | .d (.v (.slice none 0 0))=>some []
 | .d (.lst cs len _)=>if cs.length=len then some (cs.map .d) else none
 | .sref i ver off len sz _=>match cellsAt A i ver off with
  | some cs=>if sz=1/\len<=cs.length then some (cs.take len) else none
  | none=>none
 | _=>none
def S9 (A:List Blk)(runes:Bool)(x:AV):Option AV:=
 match WE A x with
 | some cs=>match KY (if runes then .i32 else .u8) cs with
  | some ns=>some (.d (.v (.string (if runes then runesBytes ns else MA ns))))
  | none=>none
 | none=>none
def YJ (f:AV->Option (DV×List Nat)):List AV->Option (List DV×List Nat)
 | []=>some ([],[])
 | x::rest=>match f x,YJ f rest with
  | some (a,u),some (b,w)=>some (a::b,u++w)
  | _,_=>none
def deep (A:List Blk):Nat->AV->Option (DV×List Nat)
 | 0,_=>none
 | n+1,x=>
  match x with
  | .d x=>some (x,[])
  | .agg cs=>(YJ (deep A n) cs).map fun r=>(.agg r.1,r.2)
  | .tup cs=>(YJ (deep A n) cs).map fun r=>(.tup r.1,r.2)
  | .fn f cs=>(YJ (deep A n) cs).map fun r=>(.fn f r.1,r.2)
  | .ifc t y=>(deep A n y).map fun r=>(.ifc t r.1,r.2)
  | .ref i ver off=>
   match cellsAt A i ver off with
   | some cs=>(YJ (deep A n) cs).map fun r=>(.vptr r.1,i::r.2)
   | none=>none
  | .sref i ver off len sz k=>
   if len=0 then some (.lst [] 0 none,[]) else
   match cellsAt A i ver off with
   | some cs=>if len*sz<=cs.length then(YJ (deep A n) (cs.take (len*sz))).map fun r=>(.lst r.1 len k,i::r.2) else none
   | none=>none
  | .bot=>none
def Yv:Nat->List Nat->Bool
 | _,[]=>false
 | n,m::l=>if Nat.beq n m then true else Yv n l
def DV.flat:Nat->DV->Bool
 | 0,_=>false
 | _+1,.v _=>true
 | n+1,.agg cs | n+1,.tup cs=>cs.all (DV.flat n)
 | _+1,.lst [] 0 _=>true
 | _+1,.nel=>true
 | n+1,.ifc _ x=>DV.flat n x
 | _+1,_=>false
def GB (f:AV->List Blk->List Nat->Option (AV×List Blk×List Nat)):List AV->List Blk->List Nat->Option (List AV×List Blk×List Nat)
 | [],bs,us=>some ([],bs,us)
 | x::rest,bs,us=>match f x bs us with
  | some (y,bs,us)=>(GB f rest bs us).map fun r=>(y::r.1,r.2.1,r.2.2)
  | none=>none
def CE (A:List Blk)(nb:Nat):Nat->AV->List Blk->List Nat->Option (AV×List Blk×List Nat)
 | 0,_,_,_=>none
 | n+1,x,bs,us=>
  match x with
  | .d x=>some (.d x,bs,us)
  | .agg cs=>(GB (CE A nb n) cs bs us).map fun r=>(.agg r.1,r.2.1,r.2.2)
  | .tup cs=>(GB (CE A nb n) cs bs us).map fun r=>(.tup r.1,r.2.1,r.2.2)
  | .sref i ver off len sz k=>
   match A[i]? with
   | some (.cells cs v false)=>
    if v=ver/\Yv i us=false/\cs.all (fun x=>match x with | .d _=>true | _=>false)=true then
     some (.sref (nb+bs.length) 0 off len sz k,bs++[.cells cs 0 false],us++[i])
    else none
   | _=>none
  | _=>none
def YQ (A:List Blk):List Nat->List Blk
 | []=>A
 | i::rest=>match A[i]? with
  | some (.cells cs v _)=>YQ (A.set i (.cells cs v true)) rest
  | _=>YQ A rest
def D4:Nat->AV->Bool
 | 0,_=>false
 | n+1,.d x=>x.flat n
 | _+1,.sref .. =>true
 | n+1,.agg cs | n+1,.tup cs=>cs.all (D4 n)
 | _+1,_=>false
def GR (bs:List Blk):Bool:=
 bs.all fun b=>match b with
  | .cells cs _ _=>cs.all fun x=>match x with | .d x=>x.flat 6 | _=>false
  | _=>false
def fk:Nat->DV->DV
 | 0,x=>x
 | n+1,x=>
  match x with
  | .lst cs len _=>.lst cs len none
  | .agg cs=>.agg (cs.map (fk n))
  | .tup cs=>.tup (cs.map (fk n))
  | x=>x
abbrev cT:=FuncId->List AV->List Blk->Option (AV×List Blk)
inductive Done where
 | made (x:AV) (bs:List Blk)
 | turned (x:AV) (A:List Blk)
structure Env where
  br:List FuncId
  th:List FuncId
  prim:FuncId->Option (List DV->Option (AV×List Blk))
  back:FuncId->Option (Nat×Bool)
  lives:FuncId->Nat->Option (List Nat):=fun _ _=>none
  live:Nat->Option (List Nat):=fun _=>none
  nb0:Nat:=0
def YV:Nat->AV->List Nat
 | 0,_=>[]
 | n+1,x=>
  match x with
  | .ref i _ _=>[i]
  | .sref i _ _ _ _ _=>[i]
  | .agg cs=>cs.flatMap (YV n)
  | .tup cs=>cs.flatMap (YV n)
  | .fn _ cs=>cs.flatMap (YV n)
  | .ifc _ y=>YV n y
  | .d _=>[]
  | .bot=>[]
def C7:Option Blk->List Nat
 | some (.cells cs _ _)=>cs.flatMap (YV 8)
 | _=>[]
def Q8 (A:List Blk)(n0:Nat):Nat->List Nat->List Nat->List Nat
 | 0,_,seen=>seen
 | _+1,[],seen=>seen
 | k+1,i::todo,seen=>bif Nat.blt i n0 || Yv i seen || !Nat.blt i A.length then Q8 A n0 k todo seen else Q8 A n0 k (todo++C7 A[i]?) (seen++[i])
def QM:List Nat->Nat->Option Nat
 | [],_=>none
 | j::l,i=>bif Nat.beq j i then some 0 else(QM l i).map (·+1)
def QP (A:List Blk)(i:Nat):Option Nat:=
 match A[i]? with
 | some (.cells _ v _)=>some v
 | some (.iter _ _)=>some 0
 | _=>none
def spot (A:List Blk)(n0:Nat)(ids:List Nat)(i v:Nat):Option (Nat×Nat):=
 bif Nat.blt i n0 then some (i,v) else match QP A i,QM ids i with
  | some v',some m=>bif Nat.beq v' v then some (n0+m,0) else none
  | _,_=>none
def Yw (A:List Blk)(n0:Nat)(ids:List Nat):Nat->AV->AV
 | 0,_=>.bot
 | n+1,x=>
  match x with
  | .d y=>.d y
  | .agg cs=>.agg (cs.map (Yw A n0 ids n))
  | .tup cs=>.tup (cs.map (Yw A n0 ids n))
  | .ref i v o=>match spot A n0 ids i v with
   | some p=>.ref p.1 p.2 o
   | none=>.bot
  | .sref i v o len sz k=>match spot A n0 ids i v with
   | some p=>.sref p.1 p.2 o len sz k
   | none=>.bot
  | .fn f cs=>.fn f (cs.map (Yw A n0 ids n))
  | .ifc t y=>.ifc t (Yw A n0 ids n y)
  | .bot=>.bot
def AG (A:List Blk)(n0:Nat)(ids:List Nat)(keep:Bool):Blk->Blk
 | .cells cs v ro=>.cells (cs.map (Yw A n0 ids 8)) (bif keep then v else 0) ro
 | b=>b
def Y9 (A:List Blk)(n0:Nat)(ids:List Nat):List Blk:=
 (A.take n0).map (AG A n0 ids true)++ids.map fun i=>AG A n0 ids false (A.getD i .free)
def GA (f:AV->AV):Nat->List Nat->List AV->List AV
 | _,_,[]=>[]
 | k,[],_::tm=>.bot::GA f (k+1) [] tm
 | k,l::ls,x::tm=>bif Nat.beq k l then f x::GA f (k+1) ls tm else .bot::GA f (k+1) (l::ls) tm
def RA (n0:Nat)(live:List Nat)(tm:List AV)(A:List Blk):List Nat:=
 live.flatMap (fun t=>YV 8 (Y3 tm t))++(A.take n0).flatMap fun b=>C7 (some b)
def Uk (n0:Nat)(live:List Nat)(k:List AV->List Blk->Option (AV×List Blk))(tm:List AV)(A:List Blk)(ids:List Nat):Option (AV×List Blk):=
 k (GA (Yw A n0 ids 8) 0 live tm) (Y9 A n0 ids)
def BU (E:Env)(key:Nat)(k:List AV->List Blk->Option (AV×List Blk)):List AV->List Blk->Option (AV×List Blk):=fun tm A=>
 match E.live key with
 | none=>k tm A
 | some live=>Uk E.nb0 live k tm A (Q8 A E.nb0 100000 (RA E.nb0 live tm A) [])
def CN (n0:Nat):Option (AV×List Blk)->Option (AV×List Blk)
 | some (x,A)=>some (Yw A n0 (Q8 A n0 100000 (YV 8 x++(A.take n0).flatMap fun b=>C7 (some b)) []) 8 x,Y9 A n0 (Q8 A n0 100000 (YV 8 x++(A.take n0).flatMap fun b=>C7 (some b)) []))
 | none=>none
def D3:List Nat->Bool
 | []=>true
 | _=>false
def Kv (A:List Blk)(used:List Nat):Option (AV×List Blk×List Nat)->Option Done
 | some (x,bs,_)=>bif D3 used || (D4 8 x&&GR bs) then some (.made x bs) else some (.turned x (YQ A used++bs))
 | none=>none
def H1 (A:List Blk)(used:List Nat):Option (DV×List Nat)->Option Done
 | some (r,_)=>bif D3 used || r.flat 8 then some (.made (.d (fk 4 r)) []) else some (.turned (.d (fk 4 r)) (YQ A used))
 | none=>none
def JZ (E:Env)(call:cT)(f:FuncId)(ds:List DV):Option (AV×List Blk):=
 match E.prim f with
 | some g=>g ds
 | none=>call f (ds.map .d) []
def GK:Option (List Nat)->Bool
 | some _=>true
 | none=>false
def KA (E:Env)(f:FuncId):Bool:=Yv f E.th || GK (E.live (1000000+f))
def GX (E:Env)(f:FuncId)(A:List Blk)(nb:Nat)(used:List Nat):Option (AV×List Blk)->Option Done
 | some (x,Ac)=>bif KA E f then Kv A used (CE Ac nb 6 x [] []) else H1 A used (deep Ac 8 x)
 | none=>none
def Nz (E:Env)(call:cT)(f:FuncId)(A:List Blk)(nb:Nat):Option (List DV×List Nat)->Option Done
 | some (ds,used)=>GX E f A nb used (JZ E call f (ds.map (fk 4)))
 | none=>none
def QR (ids vs:List Nat)(nb:Nat):Nat->AV->AV
 | 0,_=>.bot
 | n+1,x=>
  match x with
  | .d y=>.d y
  | .agg cs=>.agg (cs.map (QR ids vs nb n))
  | .tup cs=>.tup (cs.map (QR ids vs nb n))
  | .ref m v o=>match ids[m]? with
   | some i=>.ref i (vs.getD m 0+v) o
   | none=>.ref (nb+(m-ids.length)) v o
  | .sref m v o len sz k=>match ids[m]? with
   | some i=>.sref i (vs.getD m 0+v) o len sz k
   | none=>.sref (nb+(m-ids.length)) v o len sz k
  | .fn f cs=>.fn f (cs.map (QR ids vs nb n))
  | .ifc t y=>.ifc t (QR ids vs nb n y)
  | .bot=>.bot
def JW (ids vs:List Nat)(nb dv:Nat):Blk->Blk
 | .cells cs v ro=>.cells (cs.map (QR ids vs nb 8)) (dv+v) ro
 | b=>b
def YD (A:List Blk)(ids:List Nat):List Nat:=ids.map fun i=>(QP A i).getD 0
def BF (ids vs:List Nat)(nb:Nat):List Blk->List Nat->List Nat->List Blk->List Blk
 | A,i::is,v::us,b::bs=>BF ids vs nb (A.set i (JW ids vs nb v b)) is us bs
 | A,_,_,_=>A
def EF:List Nat->List Blk->Bool
 | v::vs,b::bs=>(match b with
  | .cells _ _ _=>true
  | _=>Nat.beq v 0)&&EF vs bs
 | _,_=>true
def HX (A:List Blk)(ids vs:List Nat):Option (AV×List Blk)->Option Done
 | some (x,B)=>bif Nat.ble ids.length B.length&&EF vs B then some (.turned (QR ids vs A.length 8 x) (BF ids vs A.length A ids vs B++(B.drop ids.length).map (JW ids vs A.length 0))) else none
 | none=>none
def F1 (call:cT)(f:FuncId)(args:List AV)(A:List Blk)(ids:List Nat):Option Done:=
 HX A ids (YD A ids) (call f (args.map (Yw A 0 ids 8)) (Y9 A 0 ids))
def EE (E:Env)(call:cT)(f:FuncId)(args:List AV)(A:List Blk)(nb:Nat):Option Done:=
 bif Yv f E.br then F1 call f args A (Q8 A 0 100000 (args.flatMap (YV 8)) []) else Nz E call f A nb (YJ (deep A 8) args)
abbrev ZM:=Env->cT->List AV->List Blk->Nat->Option Done
def one? :Option AV->Option Done
 | some x=>some (.made x [])
 | none=>none
def oV (x:Opd):ZM:=fun _ _ tm _ _=>some (.made (look tm x) [])
def RN (tm:List AV)(a b:Opd):AV->Option Done
 | .d (.v (.bool true))=>some (.made (look tm a) [])
 | .d (.v (.bool false))=>some (.made (look tm b) [])
 | _=>none
def YP (c a b:Opd):ZM:=fun _ _ tm _ _=>RN tm a b (look tm c)
def SV:Option (List AV)->Option Done
 | some cs=>some (.made (.agg cs) [])
 | none=>none
def Q3 (zero:List AV)(parts:List (Nat×Nat×Opd)):ZM:=fun _ _ tm _ _=>SV (AA tm zero parts)
def oA (x:Opd)(off:Nat):ZM:=fun _ _ tm _ _=>one? (FD (look tm x) off)
def EP (x:Opd)(off:Nat)(ag:Bool)(n:Nat):ZM:=fun _ _ tm _ _=>one? (GW (look tm x) off ag n)
def E6 (x ix:Opd)(len s:Nat):ZM:=fun _ _ tm _ _=>one? (Sq (look tm x) (look tm ix) len s)
def EQ (x ix:Opd)(s:Nat):ZM:=fun _ _ tm _ _=>one? (DH (look tm x) (look tm ix) s)
def WU (x ix:Opd)(len s:Nat)(ag:Bool)(n:Nat):ZM:=fun _ _ tm _ _=>one? (UT (look tm x) (look tm ix) len s ag n)
def WV (x ix:Opd):ZM:=fun _ _ tm _ _=>one? (XZ (look tm x) (look tm ix))
def U3 (x:Opd)(i:Nat):ZM:=fun _ _ tm _ _=>one? (Sx (look tm x) i)
def J0 (op:UnOp)(x:Opd):ZM:=fun _ _ tm _ _=>one? (UQ op (look tm x))
def oB (op:BinOp)(x y:Opd):ZM:=fun _ _ tm _ _=>one? (Q4 op (look tm x) (look tm y))
def M5 (neg:Bool):Option Bool->Option Done
 | some b=>some (.made (YB (if neg then !b else b)) [])
 | none=>none
def DC (neg:Bool)(sh:Sh)(x y:Opd):ZM:=fun _ _ tm _ _=>M5 neg (FP sh (look tm x) (look tm y))
def UY (k:IntKind):AV->Option Done
 | .d (.v (.int _ n))=>some (.made (.d (.v (.int k (k.wrap n)))) [])
 | _=>none
def FF (k:IntKind)(x:Opd):ZM:=fun _ _ tm _ _=>UY k (look tm x)
def Z8r:AV->Option Done
 | .d (.v (.int _ n))=>some (.made (.d (.v (.string (Utf8.encode n)))) [])
 | .d (.v (.string s))=>some (.made (.d (.v (.string s))) [])
 | _=>none
def RU (x:Opd):ZM:=fun _ _ tm _ _=>Z8r (look tm x)
def JX (x:Opd):ZM:=fun _ _ tm _ _=>one? (Sk (look tm x))
def U1 (t:TypeId)(x:Opd):ZM:=fun _ _ tm _ _=>some (.made (.ifc t (look tm x)) [])
def MZ (f:Fn)(cap:List Opd):ZM:=fun _ _ tm _ _=>some (.made (.fn f (cap.map (look tm))) [])
def Z3y (x:Opd)(t:TypeId)(zero:DV)(ok:Bool):ZM:=fun _ _ tm _ _=>one? (Z85 (look tm x) t zero ok)
def DB (x:Opd)(lo hi mx:Option Opd)(s:Nat):ZM:=fun _ _ tm _ _=>one? (GU tm (look tm x) lo hi mx s)
def WQ (x:Opd)(lo hi:Option Opd):ZM:=fun _ _ tm _ _=>one? (UR tm (look tm x) lo hi)
def WR (x:Opd)(lo hi mx:Option Opd)(n s:Nat):ZM:=fun _ _ tm A _=>one? (XY A tm (look tm x) lo hi mx n s)
def JY (x:Opd):ZM:=fun _ _ tm _ _=>one? (PE (look tm x))
def UC:AV->Option Done
 | .d (.v (.string s))=>some (.made (aI s.size) [])
 | _=>none
def U2 (x:Opd):ZM:=fun _ _ tm _ _=>UC (look tm x)
def WS (n:Nat):ZM:=fun _ _ _ _ _=>some (.made (aI n) [])
def BT (mx:Bool)(xs:List Opd):ZM:=fun _ _ tm _ _=>one? (PD mx (xs.map (look tm)))
def oL (x:Opd)(ag:Bool)(n:Nat):ZM:=fun _ _ tm A _=>one? (ED A (look tm x) ag n)
def DX:Option (List Blk)->Option Done
 | some A=>some (.turned JH A)
 | none=>none
def oS (a x:Opd)(n:Nat):ZM:=fun _ _ tm A _=>DX (FN A (look tm a) (look tm x) n)
def Sz (A:List Blk)(z:List AV)(x:AV):Option (List Blk):=
 match x with
 | .sref i ver off len sz _=>if sz=z.length/\len≠0 then FN A (.ref i ver off) (.agg (rep z len)) (len*sz) else none
 | _=>none
def P6 (z:List AV)(x:Opd):ZM:=fun _ _ tm A _=>DX (Sz A z (look tm x))
def Y8 (zero:List AV):ZM:=fun _ _ _ _ nb=>some (.made (.ref nb 0 0) [.cells zero 0 false])
def SP (nb:Nat)(x:AV):Option Done:=bif x.isBot then none else some (.made (.ref nb 0 0) [.cells x.cells 0 false])
def ZN (x:Opd):ZM:=fun _ _ tm _ nb=>SP nb (look tm x)
def N5 (len s nb:Nat):Option (List AV)->Option Done
 | some cs=>some (.made (.sref nb 0 0 len s (some len)) [.cells cs 0 false])
 | none=>none
def D6:List AV->Option (List DV)
 | []=>some []
 | .d x::l=>(D6 l).map (x:: ·)
 | _=>none
def N4 (len s nb:Nat)(cs:List AV):Option (List DV)->Option Done
 | some ds=>some (.made (.d (.lst ds len (some len))) [])
 | none=>N5 len s nb (some cs)
def HH (w:Bool)(len s nb:Nat)(o:Option (List AV)):Option Done:=
 match w with
 | false=>N5 len s nb o
 | true=>match o with
  | some cs=>N4 len s nb cs (D6 cs)
  | none=>none
def Q9 (cells:List AV)(len s:Nat)(parts:List (Nat×Nat×Opd)):ZM:=fun E _ tm _ nb=>HH (KA E 1000000) len s nb (AA tm cells parts)
def UA (zero:List AV)(s bytes nb:Nat):AV->AV->Option Done
 | .d (.v (.int _ l)),.d (.v (.int _ c))=>
  if 0<=l/\l<=c/\bytes*c<=Z4/\c<=Z4 then some (.made (.sref nb 0 0 l.toNat s (some c.toNat)) [.cells (rep zero c.toNat) 0 false]) else none
 | _,_=>none
def MY (zero:List AV)(s bytes:Nat)(l c:Opd):ZM:=fun _ _ tm _ nb=>UA zero s bytes nb (look tm l) (look tm c)
def KJ (runes:Bool)(x:Opd):ZM:=fun _ _ tm A _=>one? (S9 A runes (look tm x))
def DS (A:List Blk)(nb s:Nat)(base:AV):Option App->Option Done
 | some .same=>some (.made base [])
 | some (.fresh cs len)=>some (.made (.sref nb 0 0 len s none) [.cells cs 0 false])
 | some (.turn i b x)=>some (.turned x (A.set i b))
 | none=>none
def ST (A:List Blk)(nb s bytes:Nat)(base:AV):Option (List AV×Nat)->Option Done
 | some (new,n)=>DS A nb s base (J4 A s bytes base new n)
 | none=>none
def QF (str:Bool)(s bytes:Nat)(base x:Opd):ZM:=fun _ _ tm A nb=>ST A nb s bytes (look tm base) (Eq A str s (look tm x))
def TZ:ZM:=fun _ _ _ _ _=>none
def Z37 (nb:Nat):AV->Option Done
 | .d (.v (.string s))=>some (.made (.ref nb 0 0) [.iter s 0])
 | _=>none
def TY (x:Opd):ZM:=fun _ _ tm _ nb=>Z37 nb (look tm x)
def Z48 (A:List Blk)(i:Nat)(s:ByteArray)(p:Nat):Option Done:=
 bif Nat.blt p s.size then some (.turned (.d (.tup [.v (.bool true),.v (.int .i64 (p:Int)),.v (.int .i32 ((Utf8.decode s p).1:Int))])) (A.set i (.iter s (p+(Utf8.decode s p).2)))) else some (.made (.d (.tup [.v (.bool false)])) [])
def Z47 (A:List Blk)(i ver off:Nat):Option Blk->Option Done
 | some (.iter s p)=>bif Nat.beq ver 0&&Nat.beq off 0 then Z48 A i s p else none
 | _=>none
def Z49 (A:List Blk):AV->Option Done
 | .ref i ver off=>Z47 A i ver off A[i]?
 | _=>none
def U0 (x:Opd):ZM:=fun _ _ tm A _=>Z49 A (look tm x)
def T7 (v:Nat):Option Nat->Bool
 | some w=>Nat.beq w v
 | none=>false
def Z3c (A:List Blk)(i v o j u p:Nat):Option Bool:=
 bif Nat.beq i j&&Nat.beq v u&&Nat.beq o p&&T7 v (QP A i) then some true else none
def WJ (A:List Blk):AV->AV->Option Bool
 | .ref i v o,.ref j u p=>Z3c A i v o j u p
 | .d (.v (.pointer none)),.d (.v (.pointer none))=>some true
 | .ref ..,.d (.v (.pointer none))=>some false
 | .d (.vptr _),.d (.v (.pointer none))=>some false
 | _,_=>none
def HF (neg:Bool)(x y:Opd):ZM:=fun _ _ tm A _=>M5 neg (WJ A (look tm x) (look tm y))
inductive Xt where
 | esc | ixb | cnt
 deriving DecidableEq
def Z81:List AV->Option AV
 | [x]=>some x
 | _=>none
def Z80:List AV->Option AV
 | [.d (.v (.string s)),.d (.v (.int .u8 c))]=>some (match(List.range s.size).find? fun i=>s[i]! ==c.toNat.toUInt8 with
  | some i=>aI i
  | none=>aI (-1))
 | _=>none
def Z82:List AV->Option AV
 | [.d (.v (.string s)),.d (.v (.int .u8 c))]=>some (aI (s.foldl (fun n x=>if x==c.toNat.toUInt8 then n+1 else n) ((0:Nat):Int)))
 | _=>none
def UP:Xt->List AV->Option AV
 | .esc=>Z81
 | .ixb=>Z80
 | .cnt=>Z82
def Z3x (k:Xt)(xs:List Opd):ZM:=fun _ _ tm _ _=>one? (UP k (xs.map (look tm)))
def target (args:List AV):AV->Option (FuncId×List AV)
 | .fn (.func g) cap=>some (g,args++cap)
 | .d (.fn (.func g) cap)=>some (g,args++cap.map .d)
 | _=>none
def H4 (E:Env)(call:cT)(A:List Blk)(nb:Nat):Option (FuncId×List AV)->Option Done
 | some (g,args)=>EE E call g args A nb
 | none=>none
def oK (f:Opd)(args:List Opd):ZM:=fun E call tm A nb=>H4 E call A nb (target (args.map (look tm)) (look tm f))
abbrev DU:=Option (AV×List Blk)
abbrev K:=List AV->List Blk->DU
def Qx (tm:List AV)(dst:Option Nat)(x:AV):List AV:=
 match dst with
 | some t=>BR tm t x
 | none=>tm
def MJ (b:Bool):AV->Option Bool
 | .d (.v (.bool c))=>some (c==b)
 | .d (.tup [])=>some false
 | _=>none
def C5 (tm:List AV):Option (Nat×Bool)->Option Bool
 | none=>some true
 | some (t,b)=>MJ b (Y3 tm t)
structure Stp where
 dst:Option Nat
 guard:Option (Nat×Bool)
 op:ZM
def SU (A:List Blk):List Blk->List Blk
 | []=>A
 | bs=>A++bs
theorem Zne (A bs:List Blk):SU A bs=A++bs:=by
 cases bs with
 | nil=>simp[SU]
 | cons b bs=>rfl
def EB (dst:Option Nat)(k:K)(tm:List AV)(A:List Blk):Option Done->DU
 | some (.made x bs)=>k (Qx tm dst x) (SU A bs)
 | some (.turned x A)=>k (Qx tm dst x) A
 | none=>none
def FA (E:Env)(call:cT)(s:Stp)(k:K)(tm:List AV)(A:List Blk):Option Bool->DU
 | some true=>EB s.dst k tm A (s.op E call tm A A.length)
 | some false=>k (Qx tm s.dst JH) A
 | none=>none
def Dz (E:Env)(call:cT):List Stp->K->K
 | [],k=>k
 | s::l,k=>fun tm A=>FA E call s (Dz E call l k) tm A (C5 tm s.guard)
inductive Fl where
 | any | mk | pure | tn
 deriving DecidableEq
def EA (fg:Fl)(dst:Option Nat)(k:K)(tm:List AV)(A:List Blk):Option Done->DU
 | some (.made x [])=>k (Qx tm dst x) A
 | some (.made x (b::bs))=>match fg with
  | .pure=>none
  | _=>k (Qx tm dst x) (A++b::bs)
 | some (.turned x A1)=>match fg with
  | .any=>bif Nat.ble A.length A1.length then k (Qx tm dst x) A1 else none
  | .tn=>bif Nat.ble A.length A1.length then k (Qx tm dst x) A1 else none
  | _=>none
 | none=>none
def KD (E:Env)(call:cT)(fg:Fl)(s:Stp)(k:K)(tm:List AV)(A:List Blk):Option Bool->DU
 | some true=>EA fg s.dst k tm A (s.op E call tm A A.length)
 | some false=>k (Qx tm s.dst JH) A
 | none=>none
def H0 (E:Env)(call:cT):List (Fl×Stp)->K->K
 | [],k=>k
 | s::l,k=>fun tm A=>KD E call s.1 s.2 (H0 E call l k) tm A (C5 tm s.2.guard)
def E3:Nat->AV->AV->Bool
 | 0,_,_=>false
 | n+1,x,y=>
  match x,y with
  | .d (.v (.int k a)),.d (.v (.int k' b))=>decide (k=k')&&decide (a=b)
  | .d (.v (.bool a)),.d (.v (.bool b))=>a==b
  | .d (.v (.string a)),.d (.v (.string b))=>decide (a.data=b.data)
  | .d (.tup []),.d (.tup [])=>true
  | .d (.lst cs a none),.d (.lst ds b none)=>sameL (fun x y=>E3 n (.d x) (.d y)) cs ds&&Nat.beq a b
  | .d (.lst cs a (some c)),.d (.lst ds b (some e))=>sameL (fun x y=>E3 n (.d x) (.d y)) cs ds&&(Nat.beq a b&&Nat.beq c e)
  | .d (.agg cs),.d (.agg ds)=>sameL (fun x y=>E3 n (.d x) (.d y)) cs ds
  | .agg cs,.agg ds=>sameL (E3 n) cs ds
  | .ref i v o,.ref j u p=>Nat.beq i j&&Nat.beq v u&&Nat.beq o p
  | .bot,.bot=>true
  | _,_=>false
where
 sameL {α:Type} (f:α->α->Bool):List α->List α->Bool
  | [],[]=>true
  | x::l,y::m=>f x y&&sameL f l m
  | _,_=>false
def Hv:Option Blk->Option Blk->Bool
 | some (.cells cs v r),some (.cells ds u q)=>E3.sameL (E3 8) cs ds&&Nat.beq v u&&(r==q)
 | none,_=>true
 | _,_=>false
def Ew (A A1:List Blk):AV->Bool
 | .ref i _ _=>Hv A[i]? A1[i]?
 | _=>true
def XF (ls:List (Nat×Opd))(d:Nat)(A A1:List Blk)(k:K):K:=fun tm B=>bif ls.all (fun p=> !Nat.beq p.1 d || Ew A A1 (look tm p.2)) then k tm B else none
def M8 (E:Env)(call:cT)(ls:List (Nat×Opd)):Nat->List (Fl×Stp)->K->K
 | _,[],k=>k
 | d,s::l,k=>fun tm A=>KD E call s.1 s.2 (fun tm1 A1=>M8 E call ls (d+1) l (XF ls d A A1 k) tm1 A1) tm A (C5 tm s.2.guard)
def G8:AV->AV->Bool
 | .ref i _ _,.ref j _ _=> !Nat.beq i j
 | _,_=>true
def C6 (tm:List AV):List (Opd×Opd)->Bool
 | []=>true
 | p::l=>G8 (look tm p.1) (look tm p.2)&&C6 tm l
def GZ (ps:List (Opd×Opd))(k:K):K:=fun tm A=>bif C6 tm ps then k tm A else none
abbrev CT:=Env->cT->K->(Nat->K)->K->K
def cK:CT:=fun _ _ kn _ _=>kn
def Z3 (l:List Stp):CT:=fun E call kn _ _=>Dz E call l kn
def Qz (l:List (Fl×Stp))(ps:List (Opd×Opd)):CT:=fun E call kn _ _=>H0 E call l (GZ ps kn)
def Zmu (l:List (Fl×Stp))(ps:List (Opd×Opd))(ls:List (Nat×Opd)):CT:=fun E call kn _ _=>M8 E call ls 0 l (GZ ps kn)
def cQ (a b:CT):CT:=fun E call kn kx kr=>a E call (b E call kn kx kr) kx kr
def PT (a b:DU):AV->DU
 | .d (.v (.bool true))=>a
 | .d (.v (.bool false))=>b
 | _=>none
def cJ (key:Nat)(c:Opd)(a b:CT):CT:=fun E call kn kx kr tm A=>PT (a E call (BU E key kn) kx kr tm A) (b E call (BU E key kn) kx kr tm A) (look tm c)
def K1 (id:Nat)(kn:K)(kx:Nat->K):Nat->K:=fun i=>bif Nat.beq i id then kn else kx i
def ZQ (id:Nat)(c:CT):CT:=fun E call kn kx kr=>c E call kn (K1 id kn kx) kr
def Z9 (key:Nat)(c:CT)(E:Env)(call:cT)(kx:Nat->K)(kr:K):Nat->K
 | 0=>fun _ _=>none
 | n+1=>BU E key (c E call (Z9 key c E call kx kr n) kx kr)
def QW (key:Nat)(c:CT):CT:=fun E call _ kx kr=>Z9 key c E call kx kr 1000000000000000000000000000000
def QN (id:Nat):CT:=fun _ _ _ kx _=>kx id
def cZ:CT:=fun _ _ _ _ kr=>kr
def Gk (tm:List AV):List Nat->List AV->List AV
 | p::ps,x::xs=>Gk (BR tm p x) ps xs
 | _,_=>tm
def C0 (cs:List DV)(s:Nat)(ag:Bool):Nat->Option (List (List AV))
 | 0=>some []
 | i+1=>match B2 ag s (cs.drop (i*s)),C0 cs s ag i with
  | some x,some r=>some ([aI i,.d x]::r)
  | _,_=>none
def NZ (E:Env):AV->Option (List (List AV))
 | .d (.fn (.func g) [.vptr (.lst cs len _::_)])=>match E.back g with
  | some (s,ag)=>if cs.length=len*s/\len<=Z4/\s≠0/\(ag=false->s=1) then C0 cs s ag len else none
  | none=>none
 | _=>none
def HB (asg body:CT)(ps:List Nat)(E:Env)(call:cT)(kn:K)(kx:Nat->K)(kr:K)(tm:List AV):List (List AV)->List Blk->DU
 | [],A=>kn tm A
 | e::es,A=>asg { E with nb0:=A.length } call (fun tm1 A1=>body { E with nb0:=A1.length } call (fun _ A2=>HB asg body ps E call kn kx kr tm es A2) (fun id _ A2=>kx id tm A2) (fun _ A2=>kr tm A2) tm1 A1) (fun _ _ _=>none) (fun _ _=>none) (Gk tm ps e) A
def RF (asg body:CT)(ps:List Nat)(E:Env)(call:cT)(kn:K)(kx:Nat->K)(kr:K)(tm:List AV)(A:List Blk):Option (List (List AV))->DU
 | some es=>HB asg body ps E call kn kx kr tm es A
 | none=>none
def PP (f:Opd)(ps:List Nat)(asg body:CT):CT:=fun E call kn kx kr tm A=>RF asg body ps E call kn kx kr tm A (NZ E (look tm f))
inductive IRes where
 | tmp (t:Nat)
 | cell (a:Nat) (ag:Bool) (n:Nat)
def Sj (tm:List AV)(A:List Blk):IRes->Option AV
 | .tmp t=>some (Y3 tm t)
 | .cell a ag n=>ED A (Y3 tm a) ag n
def AQ (tm:List AV)(A:List Blk):List IRes->Option (List AV)
 | []=>some []
 | r::l=>match Sj tm A r,AQ tm A l with
  | some x,some l=>some (x::l)
  | _,_=>none
def HE (A:List Blk):Option (List AV)->DU
 | some [x]=>some (x,A)
 | some xs=>some (.tup xs,A)
 | none=>none
def Y0 (n0:Nat)(rs:List IRes):K:=fun tm A=>CN n0 (HE A (AQ tm A rs))
def FY:Nat->List AV
 | 0=>[]
 | n+1=>JH::FY n
def ZZ (ntmps:Nat)(rs:List IRes)(c:CT):Env->cT->cT:=fun E call f args A=>
 c { E with live:=E.lives f,nb0:=A.length } call (Y0 A.length rs) (fun _ _ _=>none) (Y0 A.length rs) (args++FY (ntmps-args.length)) A
def K3 (E:Env)(call:cT)(f:FuncId)(args:List AV)(A:List Blk):Option (Env->cT->cT)->DU
 | some F=>F E call f args A
 | none=>none
def Z5 (E:Env)(fn:FuncId->Option (Env->cT->cT)):Nat->cT
 | 0=>fun _ _ _=>none
 | n+1=>fun f args A=>K3 E (Z5 E fn n) f args A (fn f)
end Go.Aug
