import Derived.Calls
import Derived.Laws.Sem
import Derived.Laws.Cover4
import GoSem.Core.Utf8
namespace Go.Aug
open Go
inductive DV where
 | v (x:Value)
 | agg (cs:List DV)
 | tup (vs:List DV)
 | lst (cs:List DV) (len:Nat) (k:Option Nat)
 | vptr (cs:List DV)
 | fn (f:Fn) (cap:List DV)
 | ifc (t:TypeId) (x:DV)
 | nel
 deriving Inhabited
inductive AV where
 | d (x:DV)
 | agg (cs:List AV)
 | tup (vs:List AV)
 | ref (i ver off:Nat)
 | sref (i ver off len sz:Nat) (k:Option Nat)
 | fn (f:Fn) (cap:List AV)
 | ifc (t:TypeId) (x:AV)
 | bot
 deriving Inhabited
inductive Blk where
 | cells (cs:List AV) (ver:Nat) (ro:Bool)
 | iter (s:ByteArray) (pos:Nat)
 | free
 deriving Inhabited
def AV.cells:AV->List AV
 | .agg cs=>cs
 | .d (.agg cs)=>cs.map .d
 | x=>[x]
def AV.isBot:AV->Bool
 | .bot=>true
 | _=>false
def AV.one:AV->Bool
 | .bot=>false
 | .agg _ | .tup _ | .d (.agg _) | .d (.tup _)=>false
 | .d (.v (.agg _)) | .d (.v (.tuple _))=>false
 | _=>true
abbrev AR:AV:=.d (.tup [])
abbrev U2:AV:=.d (.v (.slice none 0 0))
abbrev aI (n:Int):AV:=.d (.v (.int .i64 n))
abbrev ZZ (b:Bool):AV:=.d (.v (.bool b))
def ZM:List AV->Nat->AV
 | [],_=>AR
 | x::_,0=>x
 | _::l,n+1=>ZM l n
def Bk:List AV->Nat->AV->List AV
 | [],_,_=>[]
 | _::l,0,y=>y::l
 | x::l,n+1,y=>x::Bk l n y
inductive Opd where
 | t (n:Nat)
 | c (x:DV)
 | f (id:FuncId)
 deriving Inhabited
def look (tm:List AV):Opd->AV
 | .t n=>ZM tm n
 | .c x=>.d x
 | .f id=>.fn (.func id) []
inductive Lf where
 | bool | int | str
 deriving Inhabited,DecidableEq
inductive Sh where
 | leaf (f:Lf)
 | iface | slice
 | flds (n:Nat) (l:List (Nat×Lf))
 deriving Inhabited
def ET:AV->Nat->Option AV
 | .d (.vptr cs),n=>if n<=cs.length then some (.d (.vptr (cs.drop n))) else none
 | .ref i ver o,n=>some (.ref i ver (o+n))
 | _,_=>none
def splice {α:Type}(cells:List α)(off:Nat)(cs:List α):List α:=
 cells.take off++cs++cells.drop (off+cs.length)
def JJ (tm cells:List AV):List (Nat×Nat×Opd)->Option (List AV)
 | []=>some cells
 | (off,size,x)::rest=>
  let cs:=(look tm x).cells
  if(look tm x).isBot=false/\cs.length=size/\off+size<=cells.length then JJ tm (splice cells off cs) rest else none
def AY (ag:Bool)(n:Nat)(cs:List AV):Option AV:=
 if ag then(if n<=cs.length then some (.agg (cs.take n)) else none) else cs.head?
def BQ (ag:Bool)(n:Nat)(cs:List DV):Option DV:=
 if ag then(if n<=cs.length then some (.agg (cs.take n)) else none) else cs.head?
def G7 (x:AV)(off:Nat)(ag:Bool)(n:Nat):Option AV:=
 match x with
 | .agg cs=>if off+n<=cs.length then AY ag n (cs.drop off) else none
 | .d (.agg cs)=>if off+n<=cs.length then(BQ ag n (cs.drop off)).map .d else none
 | _=>none
def R7 (x ix:AV)(len s:Nat):Option AV:=
 match ix with
 | .d (.v (.int _ i))=>if 0<=i/\i<len then ET x (i.toNat*s) else none
 | _=>none
def BE (x ix:AV)(s:Nat):Option AV:=
 match ix with
 | .d (.v (.int _ i))=>
  match x with
  | .d (.lst cs len _)=>if 0<=i/\i<len/\i.toNat*s<=cs.length then some (.d (.vptr (cs.drop (i.toNat*s)))) else none
  | .sref b ver off len sz _=>if 0<=i/\i<len/\sz=s then some (.ref b ver (off+i.toNat*s)) else none
  | _=>none
 | _=>none
def TF (x ix:AV)(len s:Nat)(ag:Bool)(n:Nat):Option AV:=
 match ix with
 | .d (.v (.int _ i))=>if 0<=i/\i<len then G7 x (i.toNat*s) ag n else none
 | _=>none
def W7 (x ix:AV):Option AV:=
 match x,ix with
 | .d (.v (.string s)),.d (.v (.int _ i))=>if 0<=i then(s[i.toNat]?).map fun b=>.d (.v (.int .u8 b.toNat)) else none
 | _,_=>none
def R8 (x:AV)(i:Nat):Option AV:=
 match x with
 | .tup vs=>vs[i]?
 | .d (.tup vs)=>(vs[i]?).map .d
 | _=>none
def TC (op:UnOp)(x:AV):Option AV:=
 match op,x with
 | .not,.d (.v (.bool b))=>some (ZZ !b)
 | .neg,.d (.v (.int k n))=>some (.d (.v (.int k (k.wrap (0-n)))))
 | _,_=>none
def E8 (op:BinOp)(k:IntKind)(x y:Int):Option Value:=
 match op with
 | .add=>some (.int k (k.wrap (x+y)))
 | .sub=>some (.int k (k.wrap (x-y)))
 | .mul=>some (.int k (k.wrap (x*y)))
 | .quo=>if y=0 then none else some (.int k (k.wrap (x.tdiv y)))
 | .rem=>if y=0 then none else some (.int k (x.tmod y))
 | .and=>some (.int k (k.wrap (BitVec.ofInt k.bits x&&&BitVec.ofInt k.bits y).toNat))
 | .or=>some (.int k (k.wrap (BitVec.ofInt k.bits x ||| BitVec.ofInt k.bits y).toNat))
 | .xor=>some (.int k (k.wrap (BitVec.ofInt k.bits x^^^BitVec.ofInt k.bits y).toNat))
 | .andNot=>some (.int k (k.wrap (BitVec.ofInt k.bits x&&& ~~~BitVec.ofInt k.bits y).toNat))
 | .eql=>some (.bool (x==y))
 | .neq=>some (.bool (x !=y))
 | .lss=>some (.bool (x<y))
 | .leq=>some (.bool (x<=y))
 | .gtr=>some (.bool (x>y))
 | .geq=>some (.bool (x>=y))
 | _=>none
def G6 (shl:Bool)(k:IntKind)(x y:Int):Option Value:=
 if y<0 then none else
 if shl then some (.int k (k.wrap (x*2^(min y.toNat k.bits)))) else some (.int k (x.fdiv (2^(min y.toNat k.bits))))
def K8 (op:BinOp)(x y:ByteArray):Option Value:=
 match op with
 | .add=>if x.size+y.size<=1099511627776 then some (.string (x++y)) else none
 | .eql=>some (.bool (x.toList==y.toList))
 | .neq=>some (.bool !(x.toList==y.toList))
 | .lss=>some (.bool (Op.bytesLess x.toList y.toList))
 | .leq=>some (.bool (Op.bytesLess x.toList y.toList || x.toList==y.toList))
 | .gtr=>some (.bool !(Op.bytesLess x.toList y.toList || x.toList==y.toList))
 | .geq=>some (.bool !(Op.bytesLess x.toList y.toList))
 | _=>none
def YF (op:BinOp)(x y:AV):Option AV:=
 match x,y with
 | .d (.v (.int k a)),.d (.v (.int k' b))=>
  match op with
  | .shl=>(G6 true k a b).map fun r=>.d (.v r)
  | .shr=>(G6 false k a b).map fun r=>.d (.v r)
  | op=>if k=k' then(E8 op k a b).map fun r=>.d (.v r) else none
 | .d (.v (.string a)),.d (.v (.string b))=>(K8 op a b).map fun r=>.d (.v r)
 | _,_=>none
def C9:Lf->AV->AV->Option Bool
 | .bool,.d (.v (.bool a)),.d (.v (.bool b))=>some (a==b)
 | .int,.d (.v (.int k a)),.d (.v (.int k' b))=>if k=k' then some (a==b) else none
 | .str,.d (.v (.string a)),.d (.v (.string b))=>some (a.toList==b.toList)
 | _,_,_=>none
def BF (xs ys:List AV):List (Nat×Lf)->Option Bool
 | []=>some true
 | (o,f)::l=>match C9 f (ZM xs o) (ZM ys o),BF xs ys l with
  | some a,some b=>some (a&&b)
  | _,_=>none
def KG:AV->Option (List AV)
 | .agg cs=>some cs
 | .d (.agg cs)=>some (cs.map .d)
 | _=>none
def TG (n:Nat)(l:List (Nat×Lf)):Option (List AV)->Option (List AV)->Option Bool
 | some xs,some ys=>if xs.length=n/\ys.length=n then BF xs ys l else none
 | _,_=>none
def F3 (sh:Sh)(x y:AV):Option Bool:=
 match sh with
 | .leaf f=>C9 f x y
 | .iface=>match x,y with
  | .d (.v .nilIface),.ifc _ _ | .ifc _ _,.d (.v .nilIface) | .d (.v .nilIface),.d (.ifc _ _) | .d (.ifc _ _),.d (.v .nilIface)=>some false
  | _,_=>none
 | .slice=>match x,y with
  | .d (.v (.slice none _ _)),.d (.v (.slice none _ _))=>some true
  | .sref ..,.d (.v (.slice none _ _))=>some false
  | .d (.lst _ n _),.d (.v (.slice none _ _))=>if n=0 then none else some false
  | .d .nel,.d (.v (.slice none _ _))=>some false
  | _,_=>none
 | .flds n l=>TG n l (KG x) (KG y)
def CP (len:Nat)(tm:List AV)(x:Option Opd)(dflt:Nat):Option Nat:=
 match x with
 | none=>some dflt
 | some o=>match look tm o with
  | .d (.v (.int _ n))=>if 0<=n/\n<=len then some n.toNat else none
  | _=>none
def JX (len:Nat)(tm:List AV)(lo hi mx:Option Opd):Option (Nat×Nat×Nat):=
 match CP len tm mx len,CP len tm hi len,CP len tm lo 0 with
 | some m,some h,some l=>if l<=h/\h<=m/\(mx.isSome->hi.isSome) then some (l,h,m) else none
 | _,_,_=>none
def Kz (mx:Option Opd)(m l:Nat)(k:Option Nat):Option Nat:=
 if mx.isSome then some (m-l) else k.map (·-l)
def NG (tm:List AV)(x:AV)(lo hi mx:Option Opd)(s:Nat):Option AV:=
 match x with
 | .d (.lst cs len k)=>match JX len tm lo hi mx with
  | some (l,h,m)=>
   if l=h then some (.d (.lst [] 0 (if mx.isSome/\m=l then some 0 else none)))
   else if h*s<=cs.length then some (.d (.lst ((cs.drop (l*s)).take ((h-l)*s)) (h-l) (Kz mx m l k))) else none
  | none=>none
 | .d (.v (.slice none 0 0))=>(JX 0 tm lo hi mx).map fun _=>U2
 | .sref i ver off len sz k=>match JX len tm lo hi mx with
  | some (l,h,m)=>
   if s≠sz then none else
   if l=h/\l≠0 then some (.d (.lst [] 0 (if mx.isSome/\m=l then some 0 else none)))
   else some (.sref i ver (off+l*s) (h-l) sz (Kz mx m l k))
  | none=>none
 | _=>none
def TD (tm:List AV)(x:AV)(lo hi:Option Opd):Option AV:=
 match x with
 | .d (.v (.string s))=>(JX s.size tm lo hi none).map fun(l,h,_)=>.d (.v (.string (s.extract l h)))
 | _=>none
def NJ (x:AV):Option AV:=
 match x with
 | .d (.lst _ len _)=>some (aI len)
 | .sref _ _ _ len _ _=>some (aI len)
 | .d (.v (.slice none 0 0))=>some (aI 0)
 | .d .nel=>some (aI 0)
 | _=>none
def PW (mx:Bool)(k:IntKind):Int->List AV->Option AV
 | x,[]=>some (.d (.v (.int k x)))
 | x,.d (.v (.int _ y))::rest=>PW mx k (if mx then(if y>x then y else x) else(if y<x then y else x)) rest
 | _,_=>none
def NH (mx:Bool):List AV->Option AV
 | .d (.v (.int k x))::rest=>PW mx k x rest
 | _=>none
def Z5n (x:AV)(t:TypeId)(zero:DV)(ok:Bool):Option AV:=
 match x with
 | .ifc u y=>if u=t then(if ok then some (.tup [y,ZZ true]) else some y) else if ok then some (.d (.tup [zero,.v (.bool false)])) else none
 | .d (.ifc u y)=>if u=t then(if ok then some (.tup [.d y,ZZ true]) else some (.d y)) else if ok then some (.d (.tup [zero,.v (.bool false)])) else none
 | .d (.v .nilIface)=>if ok then some (.d (.tup [zero,.v (.bool false)])) else none
 | _=>none
def R6:AV->Option AV
 | .ref i ver o=>some (.ref i ver o)
 | .d (.vptr cs)=>some (.d (.vptr cs))
 | .fn (.func f) c=>some (.fn (.func f) c)
 | .d (.fn (.func f) c)=>some (.d (.fn (.func f) c))
 | _=>none
def cellsAt (A:List Blk)(i ver off:Nat):Option (List AV):=
 match A[i]? with
 | some (.cells cs v _)=>if v=ver then some (cs.drop off) else none
 | _=>none
def R4 (A:List Blk)(tm:List AV)(x:AV)(lo hi mx:Option Opd)(n s:Nat):Option AV:=
 match x with
 | .ref i ver off=>match JX n tm lo hi mx,cellsAt A i ver off with
  | some (l,h,m),some cs=>if(l=h/\l≠0)∨cs.length<n*s∨n*s=0 then none else some (.sref i ver (off+l*s) (h-l) s (some (m-l)))
  | _,_=>none
 | .d (.vptr cs)=>match JX n tm lo hi mx with
  | some (l,h,m)=>
   if l=h∨cs.length<h*s then none
   else some (.d (.lst ((cs.drop (l*s)).take ((h-l)*s)) (h-l) (some (m-l))))
  | none=>none
 | _=>none
def DQ (A:List Blk)(a:AV)(ag:Bool)(n:Nat):Option AV:=
 match a with
 | .d (.vptr cs)=>(BQ ag n cs).map .d
 | .ref i ver off=>match cellsAt A i ver off with
  | some cs=>AY ag n cs
  | none=>none
 | _=>none
def GX (A:List Blk)(a x:AV)(n:Nat):Option (List Blk):=
 match a with
 | .ref i ver off=>
  match A[i]? with
  | some (.cells cs v false)=>
   if v=ver/\x.cells.length=n/\off+n<=cs.length/\x.cells.all AV.one=true then some (A.set i (.cells (splice cs off x.cells) v false)) else none
  | _=>none
 | _=>none
def Z4:Nat:=1099511627776
def CH (A:List Blk)(str:Bool)(s:Nat)(x:AV):Option (List AV×Nat):=
 match str,x with
 | false,.d (.v (.slice none 0 0))=>some ([],0)
 | false,.d (.lst cs len _)=>if cs.length=len*s then some (cs.map .d,len) else none
 | false,.sref i ver off len sz _=>
  match cellsAt A i ver off with
  | some cs=>if s=sz/\len*sz<=cs.length then some (cs.take (len*sz),len) else none
  | none=>none
 | true,.d (.v (.string b))=>some (b.data.toList.map fun b=>.d (.v (.int .u8 b.toNat)),b.size)
 | false,.d .nel=>some ([],0)
 | _,_=>none
inductive App where
 | same
 | fresh (cells:List AV) (len:Nat)
 | turn (i:Nat) (b:Blk) (x:AV)
def ZS (A:List Blk)(s bytes:Nat)(base:AV)(new:List AV)(n:Nat):Option App:=
 if n=0 then(match base with
  | .sref .. | .d (.lst ..) | .d (.v (.slice none 0 0))=>some .same
  | _=>none) else
 match base with
 | .d (.v (.slice none 0 0))=>if n*bytes<=Z4/\n<=Z4 then some (.fresh new n) else none
 | .d (.lst cs len (some c))=>
  if c<len+n/\cs.length=len*s/\(len+n)*bytes<=Z4/\len+n<=Z4 then some (.fresh (cs.map .d++new) (len+n)) else none
 | .sref i ver off len sz k=>
  if sz≠s∨Z4<(len+n)*bytes∨Z4<len+n∨new.all AV.one=false then none else
  match A[i]? with
  | some (.cells cs v ro)=>
   if v≠ver∨cs.length<off+len*s then none else
   match k with
   | some c=>
    if c<len+n then some (.fresh ((cs.drop off).take (len*s)++new) (len+n))
    else if ro=false/\off+(len+n)*s<=cs.length then some (.turn i (.cells (splice cs (off+len*s) new) v ro) (.sref i ver off (len+n) sz k))
    else none
   | none=>
    if ro then none else
    if off+(len+n)*s<=cs.length then some (.turn i (.cells (splice cs (off+len*s) new) v ro) (.sref i ver off (len+n) sz none))
    else if off=0/\len*s=cs.length then some (.turn i (.cells (cs++new) (v+1) ro) (.sref i (v+1) 0 (len+n) sz none))
    else none
  | _=>none
 | _=>none
def rep {α:Type}(l:List α):Nat->List α
 | 0=>[]
 | n+1=>l++rep l n
def EZ (k:IntKind):List AV->Option (List Int)
 | []=>some []
 | .d (.v (.int k' n))::rest=>if k'=k then(EZ k rest).map (n:: ·) else none
 | _=>none
def JP (ns:List Int):ByteArray:=ns.foldl (fun r n=>r.push (UInt8.ofNat n.toNat)) ByteArray.empty
def SB (A:List Blk)(x:AV):Option (List AV):=
 match x with
 | .d (.v (.slice none 0 0))=>some []
 | .d (.lst cs len _)=>if cs.length=len then some (cs.map .d) else none
 | .sref i ver off len sz _=>match cellsAt A i ver off with
  | some cs=>if sz=1/\len<=cs.length then some (cs.take len) else none
  | none=>none
 | _=>none
def K7 (A:List Blk)(runes:Bool)(x:AV):Option AV:=
 match SB A x with
 | some cs=>match EZ (if runes then .i32 else .u8) cs with
  | some ns=>some (.d (.v (.string (if runes then runesBytes ns else JP ns))))
  | none=>none
 | none=>none
def Y8 (f:AV->Option (DV×List Nat)):List AV->Option (List DV×List Nat)
 | []=>some ([],[])
 | x::rest=>match f x,Y8 f rest with
  | some (a,u),some (b,w)=>some (a::b,u++w)
  | _,_=>none
def deep (A:List Blk):Nat->AV->Option (DV×List Nat)
 | 0,_=>none
 | n+1,x=>
  match x with
  | .d x=>some (x,[])
  | .agg cs=>(Y8 (deep A n) cs).map fun r=>(.agg r.1,r.2)
  | .tup cs=>(Y8 (deep A n) cs).map fun r=>(.tup r.1,r.2)
  | .fn f cs=>(Y8 (deep A n) cs).map fun r=>(.fn f r.1,r.2)
  | .ifc t y=>(deep A n y).map fun r=>(.ifc t r.1,r.2)
  | .ref i ver off=>
   match cellsAt A i ver off with
   | some cs=>(Y8 (deep A n) cs).map fun r=>(.vptr r.1,i::r.2)
   | none=>none
  | .sref i ver off len sz k=>
   if len=0 then some (.lst [] 0 none,[]) else
   match cellsAt A i ver off with
   | some cs=>if len*sz<=cs.length then(Y8 (deep A n) (cs.take (len*sz))).map fun r=>(.lst r.1 len k,i::r.2) else none
   | none=>none
  | .bot=>none
def ZW:Nat->List Nat->Bool
 | _,[]=>false
 | n,m::l=>if Nat.beq n m then true else ZW n l
def DV.flat:Nat->DV->Bool
 | 0,_=>false
 | _+1,.v _=>true
 | n+1,.agg cs | n+1,.tup cs=>cs.all (DV.flat n)
 | _+1,.lst [] 0 _=>true
 | _+1,.nel=>true
 | n+1,.ifc _ x=>DV.flat n x
 | _+1,_=>false
def FX (f:AV->List Blk->List Nat->Option (AV×List Blk×List Nat)):List AV->List Blk->List Nat->Option (List AV×List Blk×List Nat)
 | [],bs,us=>some ([],bs,us)
 | x::rest,bs,us=>match f x bs us with
  | some (y,bs,us)=>(FX f rest bs us).map fun r=>(y::r.1,r.2.1,r.2.2)
  | none=>none
def CE (A:List Blk)(nb:Nat):Nat->AV->List Blk->List Nat->Option (AV×List Blk×List Nat)
 | 0,_,_,_=>none
 | n+1,x,bs,us=>
  match x with
  | .d x=>some (.d x,bs,us)
  | .agg cs=>(FX (CE A nb n) cs bs us).map fun r=>(.agg r.1,r.2.1,r.2.2)
  | .tup cs=>(FX (CE A nb n) cs bs us).map fun r=>(.tup r.1,r.2.1,r.2.2)
  | .sref i ver off len sz k=>
   match A[i]? with
   | some (.cells cs v false)=>
    if v=ver/\ZW i us=false/\cs.all (fun x=>match x with | .d _=>true | _=>false)=true then
     some (.sref (nb+bs.length) 0 off len sz k,bs++[.cells cs 0 false],us++[i])
    else none
   | _=>none
  | _=>none
def Yv (A:List Blk):List Nat->List Blk
 | []=>A
 | i::rest=>match A[i]? with
  | some (.cells cs v _)=>Yv (A.set i (.cells cs v true)) rest
  | _=>Yv A rest
def CK:Nat->AV->Bool
 | 0,_=>false
 | n+1,.d x=>x.flat n
 | _+1,.sref .. =>true
 | n+1,.agg cs | n+1,.tup cs=>cs.all (CK n)
 | _+1,_=>false
def K6 (bs:List Blk):Bool:=
 bs.all fun b=>match b with
  | .cells cs _ _=>cs.all fun x=>match x with | .d x=>x.flat 6 | _=>false
  | _=>false
def fk:Nat->DV->DV
 | 0,x=>x
 | n+1,x=>
  match x with
  | .lst cs len _=>.lst cs len none
  | .agg cs=>.agg (cs.map (fk n))
  | .tup cs=>.tup (cs.map (fk n))
  | x=>x
abbrev cT:=FuncId->List AV->List Blk->Option (AV×List Blk)
inductive Done where
 | made (x:AV) (bs:List Blk)
 | turned (x:AV) (A:List Blk)
structure Env where
  br:List FuncId
  th:List FuncId
  prim:FuncId->Option (List DV->Option (AV×List Blk))
  back:FuncId->Option (Nat×Bool)
  lives:FuncId->Nat->Option (List Nat):=fun _ _=>none
  live:Nat->Option (List Nat):=fun _=>none
  nb0:Nat:=0
def YT:Nat->AV->List Nat
 | 0,_=>[]
 | n+1,x=>
  match x with
  | .ref i _ _=>[i]
  | .sref i _ _ _ _ _=>[i]
  | .agg cs=>cs.flatMap (YT n)
  | .tup cs=>cs.flatMap (YT n)
  | .fn _ cs=>cs.flatMap (YT n)
  | .ifc _ y=>YT n y
  | .d _=>[]
  | .bot=>[]
def DC:Option Blk->List Nat
 | some (.cells cs _ _)=>cs.flatMap (YT 8)
 | _=>[]
def Q1 (A:List Blk)(n0:Nat):Nat->List Nat->List Nat->List Nat
 | 0,_,seen=>seen
 | _+1,[],seen=>seen
 | k+1,i::todo,seen=>bif Nat.blt i n0 || ZW i seen || !Nat.blt i A.length then Q1 A n0 k todo seen else Q1 A n0 k (todo++DC A[i]?) (seen++[i])
def Q8:List Nat->Nat->Option Nat
 | [],_=>none
 | j::l,i=>bif Nat.beq j i then some 0 else(Q8 l i).map (·+1)
def Q4 (A:List Blk)(i:Nat):Option Nat:=
 match A[i]? with
 | some (.cells _ v _)=>some v
 | some (.iter _ _)=>some 0
 | _=>none
def spot (A:List Blk)(n0:Nat)(ids:List Nat)(i v:Nat):Option (Nat×Nat):=
 bif Nat.blt i n0 then some (i,v) else match Q4 A i,Q8 ids i with
  | some v',some m=>bif Nat.beq v' v then some (n0+m,0) else none
  | _,_=>none
def YA (A:List Blk)(n0:Nat)(ids:List Nat):Nat->AV->AV
 | 0,_=>.bot
 | n+1,x=>
  match x with
  | .d y=>.d y
  | .agg cs=>.agg (cs.map (YA A n0 ids n))
  | .tup cs=>.tup (cs.map (YA A n0 ids n))
  | .ref i v o=>match spot A n0 ids i v with
   | some p=>.ref p.1 p.2 o
   | none=>.bot
  | .sref i v o len sz k=>match spot A n0 ids i v with
   | some p=>.sref p.1 p.2 o len sz k
   | none=>.bot
  | .fn f cs=>.fn f (cs.map (YA A n0 ids n))
  | .ifc t y=>.ifc t (YA A n0 ids n y)
  | .bot=>.bot
def AE (A:List Blk)(n0:Nat)(ids:List Nat)(keep:Bool):Blk->Blk
 | .cells cs v ro=>.cells (cs.map (YA A n0 ids 8)) (bif keep then v else 0) ro
 | b=>b
def ZV (A:List Blk)(n0:Nat)(ids:List Nat):List Blk:=
 (A.take n0).map (AE A n0 ids true)++ids.map fun i=>AE A n0 ids false (A.getD i .free)
def FW (f:AV->AV):Nat->List Nat->List AV->List AV
 | _,_,[]=>[]
 | k,[],_::tm=>.bot::FW f (k+1) [] tm
 | k,l::ls,x::tm=>bif Nat.beq k l then f x::FW f (k+1) ls tm else .bot::FW f (k+1) (l::ls) tm
def Sx (n0:Nat)(live:List Nat)(tm:List AV)(A:List Blk):List Nat:=
 live.flatMap (fun t=>YT 8 (ZM tm t))++(A.take n0).flatMap fun b=>DC (some b)
def Vw (n0:Nat)(live:List Nat)(k:List AV->List Blk->Option (AV×List Blk))(tm:List AV)(A:List Blk)(ids:List Nat):Option (AV×List Blk):=
 k (FW (YA A n0 ids 8) 0 live tm) (ZV A n0 ids)
def C6 (E:Env)(key:Nat)(k:List AV->List Blk->Option (AV×List Blk)):List AV->List Blk->Option (AV×List Blk):=fun tm A=>
 match E.live key with
 | none=>k tm A
 | some live=>Vw E.nb0 live k tm A (Q1 A E.nb0 100000 (Sx E.nb0 live tm A) [])
def Cj (n0:Nat):Option (AV×List Blk)->Option (AV×List Blk)
 | some (x,A)=>some (YA A n0 (Q1 A n0 100000 (YT 8 x++(A.take n0).flatMap fun b=>DC (some b)) []) 8 x,ZV A n0 (Q1 A n0 100000 (YT 8 x++(A.take n0).flatMap fun b=>DC (some b)) []))
 | none=>none
def CJ:List Nat->Bool
 | []=>true
 | _=>false
def GH (A:List Blk)(used:List Nat):Option (AV×List Blk×List Nat)->Option Done
 | some (x,bs,_)=>bif CJ used || (CK 8 x&&K6 bs) then some (.made x bs) else some (.turned x (Yv A used++bs))
 | none=>none
def GZ (A:List Blk)(used:List Nat):Option (DV×List Nat)->Option Done
 | some (r,_)=>bif CJ used || r.flat 8 then some (.made (.d (fk 4 r)) []) else some (.turned (.d (fk 4 r)) (Yv A used))
 | none=>none
def Jz (E:Env)(call:cT)(f:FuncId)(ds:List DV):Option (AV×List Blk):=
 match E.prim f with
 | some g=>g ds
 | none=>call f (ds.map .d) []
def G3:Option (List Nat)->Bool
 | some _=>true
 | none=>false
def HG (E:Env)(f:FuncId):Bool:=ZW f E.th || G3 (E.live (1000000+f))
def G8 (E:Env)(f:FuncId)(A:List Blk)(nb:Nat)(used:List Nat):Option (AV×List Blk)->Option Done
 | some (x,Ac)=>bif HG E f then GH A used (CE Ac nb 6 x [] []) else GZ A used (deep Ac 8 x)
 | none=>none
def MA (E:Env)(call:cT)(f:FuncId)(A:List Blk)(nb:Nat):Option (List DV×List Nat)->Option Done
 | some (ds,used)=>G8 E f A nb used (Jz E call f (ds.map (fk 4)))
 | none=>none
def Qj (ids vs:List Nat)(nb:Nat):Nat->AV->AV
 | 0,_=>.bot
 | n+1,x=>
  match x with
  | .d y=>.d y
  | .agg cs=>.agg (cs.map (Qj ids vs nb n))
  | .tup cs=>.tup (cs.map (Qj ids vs nb n))
  | .ref m v o=>match ids[m]? with
   | some i=>.ref i (vs.getD m 0+v) o
   | none=>.ref (nb+(m-ids.length)) v o
  | .sref m v o len sz k=>match ids[m]? with
   | some i=>.sref i (vs.getD m 0+v) o len sz k
   | none=>.sref (nb+(m-ids.length)) v o len sz k
  | .fn f cs=>.fn f (cs.map (Qj ids vs nb n))
  | .ifc t y=>.ifc t (Qj ids vs nb n y)
  | .bot=>.bot
def Jk (ids vs:List Nat)(nb dv:Nat):Blk->Blk
 | .cells cs v ro=>.cells (cs.map (Qj ids vs nb 8)) (dv+v) ro
 | b=>b
def Y4 (A:List Blk)(ids:List Nat):List Nat:=ids.map fun i=>(Q4 A i).getD 0
def Bx (ids vs:List Nat)(nb:Nat):List Blk->List Nat->List Nat->List Blk->List Blk
 | A,i::is,v::us,b::bs=>Bx ids vs nb (A.set i (Jk ids vs nb v b)) is us bs
 | A,_,_,_=>A
def DT:List Nat->List Blk->Bool
 | v::vs,b::bs=>(match b with
  | .cells _ _ _=>true
  | _=>Nat.beq v 0)&&DT vs bs
 | _,_=>true
def H5 (A:List Blk)(ids vs:List Nat):Option (AV×List Blk)->Option Done
 | some (x,B)=>bif Nat.ble ids.length B.length&&DT vs B then some (.turned (Qj ids vs A.length 8 x) (Bx ids vs A.length A ids vs B++(B.drop ids.length).map (Jk ids vs A.length 0))) else none
 | none=>none
def ME (call:cT)(f:FuncId)(args:List AV)(A:List Blk)(ids:List Nat):Option Done:=
 H5 A ids (Y4 A ids) (call f (args.map (YA A 0 ids 8)) (ZV A 0 ids))
def DS (E:Env)(call:cT)(f:FuncId)(args:List AV)(A:List Blk)(nb:Nat):Option Done:=
 bif ZW f E.br then ME call f args A (Q1 A 0 100000 (args.flatMap (YT 8)) []) else MA E call f A nb (Y8 (deep A 8) args)
abbrev Zw:=Env->cT->List AV->List Blk->Nat->Option Done
def one? :Option AV->Option Done
 | some x=>some (.made x [])
 | none=>none
def oV (x:Opd):Zw:=fun _ _ tm _ _=>some (.made (look tm x) [])
def PJ (tm:List AV)(a b:Opd):AV->Option Done
 | .d (.v (.bool true))=>some (.made (look tm a) [])
 | .d (.v (.bool false))=>some (.made (look tm b) [])
 | _=>none
def QE (c a b:Opd):Zw:=fun _ _ tm _ _=>PJ tm a b (look tm c)
def RP:Option (List AV)->Option Done
 | some cs=>some (.made (.agg cs) [])
 | none=>none
def Qq (zero:List AV)(parts:List (Nat×Nat×Opd)):Zw:=fun _ _ tm _ _=>RP (JJ tm zero parts)
def oA (x:Opd)(off:Nat):Zw:=fun _ _ tm _ _=>one? (ET (look tm x) off)
def GP (x:Opd)(off:Nat)(ag:Bool)(n:Nat):Zw:=fun _ _ tm _ _=>one? (G7 (look tm x) off ag n)
def C5 (x ix:Opd)(len s:Nat):Zw:=fun _ _ tm _ _=>one? (R7 (look tm x) (look tm ix) len s)
def DE (x ix:Opd)(s:Nat):Zw:=fun _ _ tm _ _=>one? (BE (look tm x) (look tm ix) s)
def V8 (x ix:Opd)(len s:Nat)(ag:Bool)(n:Nat):Zw:=fun _ _ tm _ _=>one? (TF (look tm x) (look tm ix) len s ag n)
def V9 (x ix:Opd):Zw:=fun _ _ tm _ _=>one? (W7 (look tm x) (look tm ix))
def SV (x:Opd)(i:Nat):Zw:=fun _ _ tm _ _=>one? (R8 (look tm x) i)
def AG (op:UnOp)(x:Opd):Zw:=fun _ _ tm _ _=>one? (TC op (look tm x))
def oB (op:BinOp)(x y:Opd):Zw:=fun _ _ tm _ _=>one? (YF op (look tm x) (look tm y))
def K9 (neg:Bool):Option Bool->Option Done
 | some b=>some (.made (ZZ (if neg then !b else b)) [])
 | none=>none
def GR (neg:Bool)(sh:Sh)(x y:Opd):Zw:=fun _ _ tm _ _=>K9 neg (F3 sh (look tm x) (look tm y))
def TN (k:IntKind):AV->Option Done
 | .d (.v (.int _ n))=>some (.made (.d (.v (.int k (k.wrap n)))) [])
 | _=>none
def D2 (k:IntKind)(x:Opd):Zw:=fun _ _ tm _ _=>TN k (look tm x)
def Z6a:AV->Option Done
 | .d (.v (.int _ n))=>some (.made (.d (.v (.string (Utf8.encode n)))) [])
 | .d (.v (.string s))=>some (.made (.d (.v (.string s))) [])
 | _=>none
def PT (x:Opd):Zw:=fun _ _ tm _ _=>Z6a (look tm x)
def Jq (x:Opd):Zw:=fun _ _ tm _ _=>one? (R6 (look tm x))
def Nq (t:TypeId)(x:Opd):Zw:=fun _ _ tm _ _=>some (.made (.ifc t (look tm x)) [])
def PS (f:Fn)(cap:List Opd):Zw:=fun _ _ tm _ _=>some (.made (.fn f (cap.map (look tm))) [])
def Z26 (x:Opd)(t:TypeId)(zero:DV)(ok:Bool):Zw:=fun _ _ tm _ _=>one? (Z5n (look tm x) t zero ok)
def GN (x:Opd)(lo hi mx:Option Opd)(s:Nat):Zw:=fun _ _ tm _ _=>one? (NG tm (look tm x) lo hi mx s)
def V6 (x:Opd)(lo hi:Option Opd):Zw:=fun _ _ tm _ _=>one? (TD tm (look tm x) lo hi)
def PQ (x:Opd)(lo hi mx:Option Opd)(n s:Nat):Zw:=fun _ _ tm A _=>one? (R4 A tm (look tm x) lo hi mx n s)
def BS (x:Opd):Zw:=fun _ _ tm _ _=>one? (NJ (look tm x))
def T8:AV->Option Done
 | .d (.v (.string s))=>some (.made (aI s.size) [])
 | _=>none
def SU (x:Opd):Zw:=fun _ _ tm _ _=>T8 (look tm x)
def V7 (n:Nat):Zw:=fun _ _ _ _ _=>some (.made (aI n) [])
def D1 (mx:Bool)(xs:List Opd):Zw:=fun _ _ tm _ _=>one? (NH mx (xs.map (look tm)))
def oL (x:Opd)(ag:Bool)(n:Nat):Zw:=fun _ _ tm A _=>one? (DQ A (look tm x) ag n)
def EQ:Option (List Blk)->Option Done
 | some A=>some (.turned AR A)
 | none=>none
def oS (a x:Opd)(n:Nat):Zw:=fun _ _ tm A _=>EQ (GX A (look tm a) (look tm x) n)
def W8 (A:List Blk)(z:List AV)(x:AV):Option (List Blk):=
 match x with
 | .sref i ver off len sz _=>if sz=z.length/\len≠0 then GX A (.ref i ver off) (.agg (rep z len)) (len*sz) else none
 | _=>none
def SW (z:List AV)(x:Opd):Zw:=fun _ _ tm A _=>EQ (W8 A z (look tm x))
def YC (zero:List AV):Zw:=fun _ _ _ _ nb=>some (.made (.ref nb 0 0) [.cells zero 0 false])
def RG (nb:Nat)(x:AV):Option Done:=bif x.isBot then none else some (.made (.ref nb 0 0) [.cells x.cells 0 false])
def Y0 (x:Opd):Zw:=fun _ _ tm _ nb=>RG nb (look tm x)
def M7 (len s nb:Nat):Option (List AV)->Option Done
 | some cs=>some (.made (.sref nb 0 0 len s (some len)) [.cells cs 0 false])
 | none=>none
def CM:List AV->Option (List DV)
 | []=>some []
 | .d x::l=>(CM l).map (x:: ·)
 | _=>none
def M6 (len s nb:Nat)(cs:List AV):Option (List DV)->Option Done
 | some ds=>some (.made (.d (.lst ds len (some len))) [])
 | none=>M7 len s nb (some cs)
def GU (w:Bool)(len s nb:Nat)(o:Option (List AV)):Option Done:=
 match w with
 | false=>M7 len s nb o
 | true=>match o with
  | some cs=>M6 len s nb cs (CM cs)
  | none=>none
def Y2 (cells:List AV)(len s:Nat)(parts:List (Nat×Nat×Opd)):Zw:=fun E _ tm _ nb=>GU (HG E 1000000) len s nb (JJ tm cells parts)
def T6 (zero:List AV)(s bytes nb:Nat):AV->AV->Option Done
 | .d (.v (.int _ l)),.d (.v (.int _ c))=>
  if 0<=l/\l<=c/\bytes*c<=Z4/\c<=Z4 then some (.made (.sref nb 0 0 l.toNat s (some c.toNat)) [.cells (rep zero c.toNat) 0 false]) else none
 | _,_=>none
def M3 (zero:List AV)(s bytes:Nat)(l c:Opd):Zw:=fun _ _ tm _ nb=>T6 zero s bytes nb (look tm l) (look tm c)
def EV (runes:Bool)(x:Opd):Zw:=fun _ _ tm A _=>one? (K7 A runes (look tm x))
def Dk (A:List Blk)(nb s:Nat)(base:AV):Option App->Option Done
 | some .same=>some (.made base [])
 | some (.fresh cs len)=>some (.made (.sref nb 0 0 len s none) [.cells cs 0 false])
 | some (.turn i b x)=>some (.turned x (A.set i b))
 | none=>none
def RM (A:List Blk)(nb s bytes:Nat)(base:AV):Option (List AV×Nat)->Option Done
 | some (new,n)=>Dk A nb s base (ZS A s bytes base new n)
 | none=>none
def Y5 (str:Bool)(s bytes:Nat)(base x:Opd):Zw:=fun _ _ tm A nb=>RM A nb s bytes (look tm base) (CH A str s (look tm x))
def Nk:Zw:=fun _ _ _ _ _=>none
def Z1f (nb:Nat):AV->Option Done
 | .d (.v (.string s))=>some (.made (.ref nb 0 0) [.iter s 0])
 | _=>none
def SS (x:Opd):Zw:=fun _ _ tm _ nb=>Z1f nb (look tm x)
def Z2d (A:List Blk)(i:Nat)(s:ByteArray)(p:Nat):Option Done:=
 bif Nat.blt p s.size then some (.turned (.d (.tup [.v (.bool true),.v (.int .i64 (p:Int)),.v (.int .i32 ((Utf8.decode s p).1:Int))])) (A.set i (.iter s (p+(Utf8.decode s p).2)))) else some (.made (.d (.tup [.v (.bool false)])) [])
def Z2c (A:List Blk)(i ver off:Nat):Option Blk->Option Done
 | some (.iter s p)=>bif Nat.beq ver 0&&Nat.beq off 0 then Z2d A i s p else none
 | _=>none
def Z2e (A:List Blk):AV->Option Done
 | .ref i ver off=>Z2c A i ver off A[i]?
 | _=>none
def ST (x:Opd):Zw:=fun _ _ tm A _=>Z2e A (look tm x)
def S1 (v:Nat):Option Nat->Bool
 | some w=>Nat.beq w v
 | none=>false
def Z1o (A:List Blk)(i v o j u p:Nat):Option Bool:=
 bif Nat.beq i j&&Nat.beq v u&&Nat.beq o p&&S1 v (Q4 A i) then some true else none
def UW (A:List Blk):AV->AV->Option Bool
 | .ref i v o,.ref j u p=>Z1o A i v o j u p
 | .d (.v (.pointer none)),.d (.v (.pointer none))=>some true
 | .ref ..,.d (.v (.pointer none))=>some false
 | .d (.vptr _),.d (.v (.pointer none))=>some false
 | _,_=>none
def GQ (neg:Bool)(x y:Opd):Zw:=fun _ _ tm A _=>K9 neg (UW A (look tm x) (look tm y))
inductive Xt where
 | esc | ixb | cnt
 deriving DecidableEq
def Z5j:List AV->Option AV
 | [x]=>some x
 | _=>none
def Z5i:List AV->Option AV
 | [.d (.v (.string s)),.d (.v (.int .u8 c))]=>some (match(List.range s.size).find? fun i=>s[i]! ==c.toNat.toUInt8 with
  | some i=>aI i
  | none=>aI (-1))
 | _=>none
def Z5k:List AV->Option AV
 | [.d (.v (.string s)),.d (.v (.int .u8 c))]=>some (aI (s.foldl (fun n x=>if x==c.toNat.toUInt8 then n+1 else n) ((0:Nat):Int)))
 | _=>none
def TB:Xt->List AV->Option AV
 | .esc=>Z5j
 | .ixb=>Z5i
 | .cnt=>Z5k
def Z25 (k:Xt)(xs:List Opd):Zw:=fun _ _ tm _ _=>one? (TB k (xs.map (look tm)))
def target (args:List AV):AV->Option (FuncId×List AV)
 | .fn (.func g) cap=>some (g,args++cap)
 | .d (.fn (.func g) cap)=>some (g,args++cap.map .d)
 | _=>none
def Gz (E:Env)(call:cT)(A:List Blk)(nb:Nat):Option (FuncId×List AV)->Option Done
 | some (g,args)=>DS E call g args A nb
 | none=>none
def oK (f:Opd)(args:List Opd):Zw:=fun E call tm A nb=>Gz E call A nb (target (args.map (look tm)) (look tm f))
abbrev DZ:=Option (AV×List Blk)
abbrev K:=List AV->List Blk->DZ
def YN (tm:List AV)(dst:Option Nat)(x:AV):List AV:=
 match dst with
 | some t=>Bk tm t x
 | none=>tm
def KR (b:Bool):AV->Option Bool
 | .d (.v (.bool c))=>some (c==b)
 | .d (.tup [])=>some false
 | _=>none
def BP (tm:List AV):Option (Nat×Bool)->Option Bool
 | none=>some true
 | some (t,b)=>KR b (ZM tm t)
structure Stp where
 dst:Option Nat
 guard:Option (Nat×Bool)
 op:Zw
def RN (A:List Blk):List Blk->List Blk
 | []=>A
 | bs=>A++bs
theorem Zj4 (A bs:List Blk):RN A bs=A++bs:=by
 cases bs with
 | nil=>simp[RN]
 | cons b bs=>rfl
def DP (dst:Option Nat)(k:K)(tm:List AV)(A:List Blk):Option Done->DZ
 | some (.made x bs)=>k (YN tm dst x) (RN A bs)
 | some (.turned x A)=>k (YN tm dst x) A
 | none=>none
def ER (E:Env)(call:cT)(s:Stp)(k:K)(tm:List AV)(A:List Blk):Option Bool->DZ
 | some true=>DP s.dst k tm A (s.op E call tm A A.length)
 | some false=>k (YN tm s.dst AR) A
 | none=>none
def CV (E:Env)(call:cT):List Stp->K->K
 | [],k=>k
 | s::l,k=>fun tm A=>ER E call s (CV E call l k) tm A (BP tm s.guard)
inductive Fl where
 | any | mk | pure | tn
 deriving DecidableEq
def DN (fg:Fl)(dst:Option Nat)(k:K)(tm:List AV)(A:List Blk):Option Done->DZ
 | some (.made x [])=>k (YN tm dst x) A
 | some (.made x (b::bs))=>match fg with
  | .pure=>none
  | _=>k (YN tm dst x) (A++b::bs)
 | some (.turned x A1)=>match fg with
  | .any=>bif Nat.ble A.length A1.length then k (YN tm dst x) A1 else none
  | .tn=>bif Nat.ble A.length A1.length then k (YN tm dst x) A1 else none
  | _=>none
 | none=>none
def HK (E:Env)(call:cT)(fg:Fl)(s:Stp)(k:K)(tm:List AV)(A:List Blk):Option Bool->DZ
 | some true=>DN fg s.dst k tm A (s.op E call tm A A.length)
 | some false=>k (YN tm s.dst AR) A
 | none=>none
def Gk (E:Env)(call:cT):List (Fl×Stp)->K->K
 | [],k=>k
 | s::l,k=>fun tm A=>HK E call s.1 s.2 (Gk E call l k) tm A (BP tm s.2.guard)
def DA:Nat->AV->AV->Bool
 | 0,_,_=>false
 | n+1,x,y=>
  match x,y with
  | .d (.v (.int k a)),.d (.v (.int k' b))=>decide (k=k')&&decide (a=b)
  | .d (.v (.bool a)),.d (.v (.bool b))=>a==b
  | .d (.v (.string a)),.d (.v (.string b))=>decide (a.data=b.data)
  | .d (.tup []),.d (.tup [])=>true
  | .d (.lst cs a none),.d (.lst ds b none)=>sameL (fun x y=>DA n (.d x) (.d y)) cs ds&&Nat.beq a b
  | .d (.lst cs a (some c)),.d (.lst ds b (some e))=>sameL (fun x y=>DA n (.d x) (.d y)) cs ds&&(Nat.beq a b&&Nat.beq c e)
  | .d (.agg cs),.d (.agg ds)=>sameL (fun x y=>DA n (.d x) (.d y)) cs ds
  | .agg cs,.agg ds=>sameL (DA n) cs ds
  | .ref i v o,.ref j u p=>Nat.beq i j&&Nat.beq v u&&Nat.beq o p
  | .bot,.bot=>true
  | _,_=>false
where
 sameL {α:Type} (f:α->α->Bool):List α->List α->Bool
  | [],[]=>true
  | x::l,y::m=>f x y&&sameL f l m
  | _,_=>false
def Z0q:Option Blk->Option Blk->Bool
 | some (.cells cs v r),some (.cells ds u q)=>DA.sameL (DA 8) cs ds&&Nat.beq v u&&(r==q)
 | none,_=>true
 | _,_=>false
def DM (A A1:List Blk):AV->Bool
 | .ref i _ _=>Z0q A[i]? A1[i]?
 | _=>true
def VP (ls:List (Nat×Opd))(d:Nat)(A A1:List Blk)(k:K):K:=fun tm B=>bif ls.all (fun p=> !Nat.beq p.1 d || DM A A1 (look tm p.2)) then k tm B else none
def Kk (E:Env)(call:cT)(ls:List (Nat×Opd)):Nat->List (Fl×Stp)->K->K
 | _,[],k=>k
 | d,s::l,k=>fun tm A=>HK E call s.1 s.2 (fun tm1 A1=>Kk E call ls (d+1) l (VP ls d A A1 k) tm1 A1) tm A (BP tm s.2.guard)
def FN:AV->AV->Bool
 | .ref i _ _,.ref j _ _=> !Nat.beq i j
 | _,_=>true
def BR (tm:List AV):List (Opd×Opd)->Bool
 | []=>true
 | p::l=>FN (look tm p.1) (look tm p.2)&&BR tm l
def Gj (ps:List (Opd×Opd))(k:K):K:=fun tm A=>bif BR tm ps then k tm A else none
abbrev CT:=Env->cT->K->(Nat->K)->K->K
def cK:CT:=fun _ _ kn _ _=>kn
def Z3 (l:List Stp):CT:=fun E call kn _ _=>CV E call l kn
def Q3 (l:List (Fl×Stp))(ps:List (Opd×Opd)):CT:=fun E call kn _ _=>Gk E call l (Gj ps kn)
def Zih (l:List (Fl×Stp))(ps:List (Opd×Opd))(ls:List (Nat×Opd)):CT:=fun E call kn _ _=>Kk E call ls 0 l (Gj ps kn)
def cQ (a b:CT):CT:=fun E call kn kx kr=>a E call (b E call kn kx kr) kx kr
def NS (a b:DZ):AV->DZ
 | .d (.v (.bool true))=>a
 | .d (.v (.bool false))=>b
 | _=>none
def cJ (key:Nat)(c:Opd)(a b:CT):CT:=fun E call kn kx kr tm A=>NS (a E call (C6 E key kn) kx kr tm A) (b E call (C6 E key kn) kx kr tm A) (look tm c)
def KE (id:Nat)(kn:K)(kx:Nat->K):Nat->K:=fun i=>bif Nat.beq i id then kn else kx i
def ZK (id:Nat)(c:CT):CT:=fun E call kn kx kr=>c E call kn (KE id kn kx) kr
def Z9 (key:Nat)(c:CT)(E:Env)(call:cT)(kx:Nat->K)(kr:K):Nat->K
 | 0=>fun _ _=>none
 | n+1=>C6 E key (c E call (Z9 key c E call kx kr n) kx kr)
def Qw (key:Nat)(c:CT):CT:=fun E call _ kx kr=>Z9 key c E call kx kr 1000000000000000000000000000000
def Q2 (id:Nat):CT:=fun _ _ _ kx _=>kx id
def cZ:CT:=fun _ _ _ _ kr=>kr
def FS (tm:List AV):List Nat->List AV->List AV
 | p::ps,x::xs=>FS (Bk tm p x) ps xs
 | _,_=>tm
def KF (cs:List DV)(s:Nat)(ag:Bool):Nat->Option (List (List AV))
 | 0=>some []
 | i+1=>match BQ ag s (cs.drop (i*s)),KF cs s ag i with
  | some x,some r=>some ([aI i,.d x]::r)
  | _,_=>none
def PC (E:Env):AV->Option (List (List AV))
 | .d (.fn (.func g) [.vptr (.lst cs len _::_)])=>match E.back g with
  | some (s,ag)=>if cs.length=len*s/\len<=Z4/\s≠0/\(ag=false->s=1) then KF cs s ag len else none
  | none=>none
 | _=>none
def N2 (asg body:CT)(ps:List Nat)(E:Env)(call:cT)(kn:K)(kx:Nat->K)(kr:K)(tm:List AV):List (List AV)->List Blk->DZ
 | [],A=>kn tm A
 | e::es,A=>asg { E with nb0:=A.length } call (fun tm1 A1=>body { E with nb0:=A1.length } call (fun _ A2=>N2 asg body ps E call kn kx kr tm es A2) (fun id _ A2=>kx id tm A2) (fun _ A2=>kr tm A2) tm1 A1) (fun _ _ _=>none) (fun _ _=>none) (FS tm ps e) A
def PB (asg body:CT)(ps:List Nat)(E:Env)(call:cT)(kn:K)(kx:Nat->K)(kr:K)(tm:List AV)(A:List Blk):Option (List (List AV))->DZ
 | some es=>N2 asg body ps E call kn kx kr tm es A
 | none=>none
def RC (f:Opd)(ps:List Nat)(asg body:CT):CT:=fun E call kn kx kr tm A=>PB asg body ps E call kn kx kr tm A (PC E (look tm f))
inductive IRes where
 | tmp (t:Nat)
 | cell (a:Nat) (ag:Bool) (n:Nat)
def R5 (tm:List AV)(A:List Blk):IRes->Option AV
 | .tmp t=>some (ZM tm t)
 | .cell a ag n=>DQ A (ZM tm a) ag n
def JW (tm:List AV)(A:List Blk):List IRes->Option (List AV)
 | []=>some []
 | r::l=>match R5 tm A r,JW tm A l with
  | some x,some l=>some (x::l)
  | _,_=>none
def GM (A:List Blk):Option (List AV)->DZ
 | some [x]=>some (x,A)
 | some xs=>some (.tup xs,A)
 | none=>none
def YD (n0:Nat)(rs:List IRes):K:=fun tm A=>Cj n0 (GM A (JW tm A rs))
def FB:Nat->List AV
 | 0=>[]
 | n+1=>AR::FB n
def Y7 (ntmps:Nat)(rs:List IRes)(c:CT):Env->cT->cT:=fun E call f args A=>
 c { E with live:=E.lives f,nb0:=A.length } call (YD A.length rs) (fun _ _ _=>none) (YD A.length rs) (args++FB (ntmps-args.length)) A
def H7 (E:Env)(call:cT)(f:FuncId)(args:List AV)(A:List Blk):Option (Env->cT->cT)->DZ
 | some F=>F E call f args A
 | none=>none
def Z5 (E:Env)(fn:FuncId->Option (Env->cT->cT)):Nat->cT
 | 0=>fun _ _ _=>none
 | n+1=>fun f args A=>H7 E (Z5 E fn n) f args A (fn f)
end Go.Aug
