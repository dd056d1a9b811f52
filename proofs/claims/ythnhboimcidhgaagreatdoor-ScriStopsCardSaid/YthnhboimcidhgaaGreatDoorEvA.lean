import Derived.Calls
import Derived.Laws.Sem
import Derived.Laws.Cover4
import GoSem.Core.Utf8
namespace Go.Aug
open Go
inductive DV where
 | v (x:Value)
 | agg (cs:List DV)
 | tup (vs:List DV)
 | lst (cs:List DV) (len:Nat) (k:Option Nat)
 | vptr (cs:List DV)
 | fn (f:Fn) (cap:List DV)
 | ifc (t:TypeId) (x:DV)
 | nel
 deriving Inhabited
inductive AV where
 | d (x:DV)
 | agg (cs:List AV)
 | tup (vs:List AV)
 | ref (i ver off:Nat)
 | sref (i ver off len sz:Nat) (k:Option Nat)
 | fn (f:Fn) (cap:List AV)
 | ifc (t:TypeId) (x:AV)
 | bot
 deriving Inhabited
inductive Blk where
 | cells (cs:List AV) (ver:Nat) (ro:Bool)
 | iter (s:ByteArray) (pos:Nat)
 | free
 deriving Inhabited
def AV.cells:AV->List AV
 | .agg cs=>cs
 | .d (.agg cs)=>cs.map .d
 | x=>[x]
def AV.isBot:AV->Bool
 | .bot=>true
 | _=>false
def AV.one:AV->Bool
 | .bot=>false
 | .agg _ | .tup _ | .d (.agg _) | .d (.tup _)=>false
 | .d (.v (.agg _)) | .d (.v (.tuple _))=>false
 | _=>true
abbrev aundef:AV:=.d (.tup [])
abbrev anil:AV:=.d (.v (.slice none 0 0))
abbrev aI (n:Int):AV:=.d (.v (.int .i64 n))
abbrev abool (b:Bool):AV:=.d (.v (.bool b))
def nthA:List AV->Nat->AV
 | [],_=>aundef
 | x::_,0=>x
 | _::l,n+1=>nthA l n
def setA:List AV->Nat->AV->List AV
 | [],_,_=>[]
 | _::l,0,y=>y::l
 | x::l,n+1,y=>x::setA l n y
inductive Opd where
 | t (n:Nat)
 | c (x:DV)
 | f (id:FuncId)
 deriving Inhabited
def look (tm:List AV):Opd->AV
 | .t n=>nthA tm n
 | .c x=>.d x
 | .f id=>.fn (.func id) []
inductive Lf where
 | bool | int | str
 deriving Inhabited,DecidableEq
inductive Sh where
 | leaf (f:Lf)
 | iface | slice
 | flds (n:Nat) (l:List (Nat×Lf))
 deriving Inhabited
def ptrAdd:AV->Nat->Option AV
 | .d (.vptr cs),n=>if n<=cs.length then some (.d (.vptr (cs.drop n))) else none
 | .ref i ver o,n=>some (.ref i ver (o+n))
 | _,_=>none
def splice {α:Type}(cells:List α)(off:Nat)(cs:List α):List α:=
 cells.take off++cs++cells.drop (off+cs.length)
def fillA (tm cells:List AV):List (Nat×Nat×Opd)->Option (List AV)
 | []=>some cells
 | (off,size,x)::rest=>
  let cs:=(look tm x).cells
  if(look tm x).isBot=false/\cs.length=size/\off+size<=cells.length then fillA tm (splice cells off cs) rest else none
def takeVar (ag:Bool)(n:Nat)(cs:List AV):Option AV:=
 if ag then(if n<=cs.length then some (.agg (cs.take n)) else none) else cs.head?
def takeVarD (ag:Bool)(n:Nat)(cs:List DV):Option DV:=
 if ag then(if n<=cs.length then some (.agg (cs.take n)) else none) else cs.head?
def evPart (x:AV)(off:Nat)(ag:Bool)(n:Nat):Option AV:=
 match x with
 | .agg cs=>if off+n<=cs.length then takeVar ag n (cs.drop off) else none
 | .d (.agg cs)=>if off+n<=cs.length then(takeVarD ag n (cs.drop off)).map .d else none
 | _=>none
def evIxA (x ix:AV)(len s:Nat):Option AV:=
 match ix with
 | .d (.v (.int _ i))=>if 0<=i/\i<len then ptrAdd x (i.toNat*s) else none
 | _=>none
def evIxS (x ix:AV)(s:Nat):Option AV:=
 match ix with
 | .d (.v (.int _ i))=>
  match x with
  | .d (.lst cs len _)=>if 0<=i/\i<len/\i.toNat*s<=cs.length then some (.d (.vptr (cs.drop (i.toNat*s)))) else none
  | .sref b ver off len sz _=>if 0<=i/\i<len/\sz=s then some (.ref b ver (off+i.toNat*s)) else none
  | _=>none
 | _=>none
def evIxP (x ix:AV)(len s:Nat)(ag:Bool)(n:Nat):Option AV:=
 match ix with
 | .d (.v (.int _ i))=>if 0<=i/\i<len then evPart x (i.toNat*s) ag n else none
 | _=>none
def evIxB (x ix:AV):Option AV:=
 match x,ix with
 | .d (.v (.string s)),.d (.v (.int _ i))=>if 0<=i then(s[i.toNat]?).map fun b=>.d (.v (.int .u8 b.toNat)) else none
 | _,_=>none
def evExt (x:AV)(i:Nat):Option AV:=
 match x with
 | .tup vs=>vs[i]?
 | .d (.tup vs)=>(vs[i]?).map .d
 | _=>none
def evUn (op:UnOp)(x:AV):Option AV:=
 match op,x with
 | .not,.d (.v (.bool b))=>some (abool !b)
 | .neg,.d (.v (.int k n))=>some (.d (.v (.int k (k.wrap (0-n)))))
 | _,_=>none
def evInt (op:BinOp)(k:IntKind)(x y:Int):Option Value:=
 match op with
 | .add=>some (.int k (k.wrap (x+y)))
 | .sub=>some (.int k (k.wrap (x-y)))
 | .mul=>some (.int k (k.wrap (x*y)))
 | .quo=>if y=0 then none else some (.int k (k.wrap (x.tdiv y)))
 | .rem=>if y=0 then none else some (.int k (x.tmod y))
 | .and=>some (.int k (k.wrap (BitVec.ofInt k.bits x&&&BitVec.ofInt k.bits y).toNat))
 | .or=>some (.int k (k.wrap (BitVec.ofInt k.bits x ||| BitVec.ofInt k.bits y).toNat))
 | .xor=>some (.int k (k.wrap (BitVec.ofInt k.bits x^^^BitVec.ofInt k.bits y).toNat))
 | .andNot=>some (.int k (k.wrap (BitVec.ofInt k.bits x&&& ~~~BitVec.ofInt k.bits y).toNat))
 | .eql=>some (.bool (x==y))
 | .neq=>some (.bool (x !=y))
 | .lss=>some (.bool (x<y))
 | .leq=>some (.bool (x<=y))
 | .gtr=>some (.bool (x>y))
 | .geq=>some (.bool (x>=y))
 | _=>none
def evShift (shl:Bool)(k:IntKind)(x y:Int):Option Value:=
 if y<0 then none else
 if shl then some (.int k (k.wrap (x*2^(min y.toNat k.bits)))) else some (.int k (x.fdiv (2^(min y.toNat k.bits))))
def evStr (op:BinOp)(x y:ByteArray):Option Value:=
 match op with
 | .add=>if x.size+y.size<=1099511627776 then some (.string (x++y)) else none
 | .eql=>some (.bool (x.toList==y.toList))
 | .neq=>some (.bool !(x.toList==y.toList))
 | .lss=>some (.bool (Op.bytesLess x.toList y.toList))
 | .leq=>some (.bool (Op.bytesLess x.toList y.toList || x.toList==y.toList))
 | .gtr=>some (.bool !(Op.bytesLess x.toList y.toList || x.toList==y.toList))
 | .geq=>some (.bool !(Op.bytesLess x.toList y.toList))
 | _=>none
def evBin (op:BinOp)(x y:AV):Option AV:=
 match x,y with
 | .d (.v (.int k a)),.d (.v (.int k' b))=>
  match op with
  | .shl=>(evShift true k a b).map fun r=>.d (.v r)
  | .shr=>(evShift false k a b).map fun r=>.d (.v r)
  | op=>if k=k' then(evInt op k a b).map fun r=>.d (.v r) else none
 | .d (.v (.string a)),.d (.v (.string b))=>(evStr op a b).map fun r=>.d (.v r)
 | _,_=>none
def eqLf:Lf->AV->AV->Option Bool
 | .bool,.d (.v (.bool a)),.d (.v (.bool b))=>some (a==b)
 | .int,.d (.v (.int k a)),.d (.v (.int k' b))=>if k=k' then some (a==b) else none
 | .str,.d (.v (.string a)),.d (.v (.string b))=>some (a.toList==b.toList)
 | _,_,_=>none
def eqLfs (xs ys:List AV):List (Nat×Lf)->Option Bool
 | []=>some true
 | (o,f)::l=>match eqLf f (nthA xs o) (nthA ys o),eqLfs xs ys l with
  | some a,some b=>some (a&&b)
  | _,_=>none
def aggCells:AV->Option (List AV)
 | .agg cs=>some cs
 | .d (.agg cs)=>some (cs.map .d)
 | _=>none
def eqAgg (n:Nat)(l:List (Nat×Lf)):Option (List AV)->Option (List AV)->Option Bool
 | some xs,some ys=>if xs.length=n/\ys.length=n then eqLfs xs ys l else none
 | _,_=>none
def eqV (sh:Sh)(x y:AV):Option Bool:=
 match sh with
 | .leaf f=>eqLf f x y
 | .iface=>match x,y with
  | .d (.v .nilIface),.ifc _ _ | .ifc _ _,.d (.v .nilIface) | .d (.v .nilIface),.d (.ifc _ _) | .d (.ifc _ _),.d (.v .nilIface)=>some false
  | _,_=>none
 | .slice=>match x,y with
  | .d (.v (.slice none _ _)),.d (.v (.slice none _ _))=>some true
  | .sref ..,.d (.v (.slice none _ _))=>some false
  | .d (.lst _ n _),.d (.v (.slice none _ _))=>if n=0 then none else some false
  | .d .nel,.d (.v (.slice none _ _))=>some false
  | _,_=>none
 | .flds n l=>eqAgg n l (aggCells x) (aggCells y)
def bnd (len:Nat)(tm:List AV)(x:Option Opd)(dflt:Nat):Option Nat:=
 match x with
 | none=>some dflt
 | some o=>match look tm o with
  | .d (.v (.int _ n))=>if 0<=n/\n<=len then some n.toNat else none
  | _=>none
def evBounds (len:Nat)(tm:List AV)(lo hi mx:Option Opd):Option (Nat×Nat×Nat):=
 match bnd len tm mx len,bnd len tm hi len,bnd len tm lo 0 with
 | some m,some h,some l=>if l<=h/\h<=m/\(mx.isSome->hi.isSome) then some (l,h,m) else none
 | _,_,_=>none
def capOf (mx:Option Opd)(m l:Nat)(k:Option Nat):Option Nat:=
 if mx.isSome then some (m-l) else k.map (·-l)
def evSlS (tm:List AV)(x:AV)(lo hi mx:Option Opd)(s:Nat):Option AV:=
 match x with
 | .d (.lst cs len k)=>match evBounds len tm lo hi mx with
  | some (l,h,m)=>
   if l=h then some (.d (.lst [] 0 (if mx.isSome/\m=l then some 0 else none)))
   else if h*s<=cs.length then some (.d (.lst ((cs.drop (l*s)).take ((h-l)*s)) (h-l) (capOf mx m l k))) else none
  | none=>none
 | .d (.v (.slice none 0 0))=>(evBounds 0 tm lo hi mx).map fun _=>anil
 | .sref i ver off len sz k=>match evBounds len tm lo hi mx with
  | some (l,h,m)=>
   if s≠sz then none else
   if l=h/\l≠0 then some (.d (.lst [] 0 (if mx.isSome/\m=l then some 0 else none)))
   else some (.sref i ver (off+l*s) (h-l) sz (capOf mx m l k))
  | none=>none
 | _=>none
def evSlT (tm:List AV)(x:AV)(lo hi:Option Opd):Option AV:=
 match x with
 | .d (.v (.string s))=>(evBounds s.size tm lo hi none).map fun(l,h,_)=>.d (.v (.string (s.extract l h)))
 | _=>none
def evLenS (x:AV):Option AV:=
 match x with
 | .d (.lst _ len _)=>some (aI len)
 | .sref _ _ _ len _ _=>some (aI len)
 | .d (.v (.slice none 0 0))=>some (aI 0)
 | .d .nel=>some (aI 0)
 | _=>none
def minmax (mx:Bool)(k:IntKind):Int->List AV->Option AV
 | x,[]=>some (.d (.v (.int k x)))
 | x,.d (.v (.int _ y))::rest=>minmax mx k (if mx then(if y>x then y else x) else(if y<x then y else x)) rest
 | _,_=>none
def evMM (mx:Bool):List AV->Option AV
 | .d (.v (.int k x))::rest=>minmax mx k x rest
 | _=>none
def evAsrt (x:AV)(t:TypeId)(zero:DV)(ok:Bool):Option AV:=
 match x with
 | .ifc u y=>if u=t then(if ok then some (.tup [y,abool true]) else some y) else if ok then some (.d (.tup [zero,.v (.bool false)])) else none
 | .d (.ifc u y)=>if u=t then(if ok then some (.tup [.d y,abool true]) else some (.d y)) else if ok then some (.d (.tup [zero,.v (.bool false)])) else none
 | .d (.v .nilIface)=>if ok then some (.d (.tup [zero,.v (.bool false)])) else none
 | _=>none
def evNilck:AV->Option AV
 | .ref i ver o=>some (.ref i ver o)
 | .d (.vptr cs)=>some (.d (.vptr cs))
 | .fn (.func f) c=>some (.fn (.func f) c)
 | .d (.fn (.func f) c)=>some (.d (.fn (.func f) c))
 | _=>none
def cellsAt (A:List Blk)(i ver off:Nat):Option (List AV):=
 match A[i]? with
 | some (.cells cs v _)=>if v=ver then some (cs.drop off) else none
 | _=>none
def evSlA (A:List Blk)(tm:List AV)(x:AV)(lo hi mx:Option Opd)(n s:Nat):Option AV:=
 match x with
 | .ref i ver off=>match evBounds n tm lo hi mx,cellsAt A i ver off with
  | some (l,h,m),some cs=>if(l=h/\l≠0)∨cs.length<n*s∨n*s=0 then none else some (.sref i ver (off+l*s) (h-l) s (some (m-l)))
  | _,_=>none
 | .d (.vptr cs)=>match evBounds n tm lo hi mx with
  | some (l,h,m)=>
   if l=h∨cs.length<h*s then none
   else some (.d (.lst ((cs.drop (l*s)).take ((h-l)*s)) (h-l) (some (m-l))))
  | none=>none
 | _=>none
def evLoad (A:List Blk)(a:AV)(ag:Bool)(n:Nat):Option AV:=
 match a with
 | .d (.vptr cs)=>(takeVarD ag n cs).map .d
 | .ref i ver off=>match cellsAt A i ver off with
  | some cs=>takeVar ag n cs
  | none=>none
 | _=>none
def evStore (A:List Blk)(a x:AV)(n:Nat):Option (List Blk):=
 match a with
 | .ref i ver off=>
  match A[i]? with
  | some (.cells cs v false)=>
   if v=ver/\x.cells.length=n/\off+n<=cs.length/\x.cells.all AV.one=true then some (A.set i (.cells (splice cs off x.cells) v false)) else none
  | _=>none
 | _=>none
def limA:Nat:=1099511627776
def newCells (A:List Blk)(str:Bool)(s:Nat)(x:AV):Option (List AV×Nat):=
 match str,x with
 | false,.d (.v (.slice none 0 0))=>some ([],0)
 | false,.d (.lst cs len _)=>if cs.length=len*s then some (cs.map .d,len) else none
 | false,.sref i ver off len sz _=>
  match cellsAt A i ver off with
  | some cs=>if s=sz/\len*sz<=cs.length then some (cs.take (len*sz),len) else none
  | none=>none
 | true,.d (.v (.string b))=>some (b.data.toList.map fun b=>.d (.v (.int .u8 b.toNat)),b.size)
 | false,.d .nel=>some ([],0)
 | _,_=>none
inductive App where
 | same
 | fresh (cells:List AV) (len:Nat)
 | turn (i:Nat) (b:Blk) (x:AV)
def evApp (A:List Blk)(s bytes:Nat)(base:AV)(new:List AV)(n:Nat):Option App:=
 if n=0 then(match base with
  | .sref .. | .d (.lst ..) | .d (.v (.slice none 0 0))=>some .same
  | _=>none) else
 match base with
 | .d (.v (.slice none 0 0))=>if n*bytes<=limA/\n<=limA then some (.fresh new n) else none
 | .d (.lst cs len (some c))=>
  if c<len+n/\cs.length=len*s/\(len+n)*bytes<=limA/\len+n<=limA then some (.fresh (cs.map .d++new) (len+n)) else none
 | .sref i ver off len sz k=>
  if sz≠s∨limA<(len+n)*bytes∨limA<len+n∨new.all AV.one=false then none else
  match A[i]? with
  | some (.cells cs v ro)=>
   if v≠ver∨cs.length<off+len*s then none else
   match k with
   | some c=>
    if c<len+n then some (.fresh ((cs.drop off).take (len*s)++new) (len+n))
    else if ro=false/\off+(len+n)*s<=cs.length then some (.turn i (.cells (splice cs (off+len*s) new) v ro) (.sref i ver off (len+n) sz k))
    else none
   | none=>
    if ro then none else
    if off+(len+n)*s<=cs.length then some (.turn i (.cells (splice cs (off+len*s) new) v ro) (.sref i ver off (len+n) sz none))
    else if off=0/\len*s=cs.length then some (.turn i (.cells (cs++new) (v+1) ro) (.sref i (v+1) 0 (len+n) sz none))
    else none
  | _=>none
 | _=>none
def rep {α:Type}(l:List α):Nat->List α
 | 0=>[]
 | n+1=>l++rep l n
def intsOf (k:IntKind):List AV->Option (List Int)
 | []=>some []
 | .d (.v (.int k' n))::rest=>if k'=k then(intsOf k rest).map (n:: ·) else none
 | _=>none
def bytesText (ns:List Int):ByteArray:=ns.foldl (fun r n=>r.push (UInt8.ofNat n.toNat)) ByteArray.empty
def readSlice (A:List Blk)(x:AV):Option (List AV):=
 match x with
 | .d (.v (.slice none 0 0))=>some []
 | .d (.lst cs len _)=>if cs.length=len then some (cs.map .d) else none
 | .sref i ver off len sz _=>match cellsAt A i ver off with
  | some cs=>if sz=1/\len<=cs.length then some (cs.take len) else none
  | none=>none
 | _=>none
def evText (A:List Blk)(runes:Bool)(x:AV):Option AV:=
 match readSlice A x with
 | some cs=>match intsOf (if runes then .i32 else .u8) cs with
  | some ns=>some (.d (.v (.string (if runes then runesBytes ns else bytesText ns))))
  | none=>none
 | none=>none
def mapD (f:AV->Option (DV×List Nat)):List AV->Option (List DV×List Nat)
 | []=>some ([],[])
 | x::rest=>match f x,mapD f rest with
  | some (a,u),some (b,w)=>some (a::b,u++w)
  | _,_=>none
def deep (A:List Blk):Nat->AV->Option (DV×List Nat)
 | 0,_=>none
 | n+1,x=>
  match x with
  | .d x=>some (x,[])
  | .agg cs=>(mapD (deep A n) cs).map fun r=>(.agg r.1,r.2)
  | .tup cs=>(mapD (deep A n) cs).map fun r=>(.tup r.1,r.2)
  | .fn f cs=>(mapD (deep A n) cs).map fun r=>(.fn f r.1,r.2)
  | .ifc t y=>(deep A n y).map fun r=>(.ifc t r.1,r.2)
  | .ref i ver off=>
   match cellsAt A i ver off with
   | some cs=>(mapD (deep A n) cs).map fun r=>(.vptr r.1,i::r.2)
   | none=>none
  | .sref i ver off len sz k=>
   if len=0 then some (.lst [] 0 none,[]) else
   match cellsAt A i ver off with
   | some cs=>if len*sz<=cs.length then(mapD (deep A n) (cs.take (len*sz))).map fun r=>(.lst r.1 len k,i::r.2) else none
   | none=>none
  | .bot=>none
def memN:Nat->List Nat->Bool
 | _,[]=>false
 | n,m::l=>if Nat.beq n m then true else memN n l
def DV.flat:Nat->DV->Bool
 | 0,_=>false
 | _+1,.v _=>true
 | n+1,.agg cs | n+1,.tup cs=>cs.all (DV.flat n)
 | _+1,.lst [] 0 _=>true
 | _+1,.nel=>true
 | n+1,.ifc _ x=>DV.flat n x
 | _+1,_=>false
def mapT (f:AV->List Blk->List Nat->Option (AV×List Blk×List Nat)):List AV->List Blk->List Nat->Option (List AV×List Blk×List Nat)
 | [],bs,us=>some ([],bs,us)
 | x::rest,bs,us=>match f x bs us with
  | some (y,bs,us)=>(mapT f rest bs us).map fun r=>(y::r.1,r.2.1,r.2.2)
  | none=>none
def thaw (A:List Blk)(nb:Nat):Nat->AV->List Blk->List Nat->Option (AV×List Blk×List Nat)
 | 0,_,_,_=>none
 | n+1,x,bs,us=>
  match x with
  | .d x=>some (.d x,bs,us)
  | .agg cs=>(mapT (thaw A nb n) cs bs us).map fun r=>(.agg r.1,r.2.1,r.2.2)
  | .tup cs=>(mapT (thaw A nb n) cs bs us).map fun r=>(.tup r.1,r.2.1,r.2.2)
  | .sref i ver off len sz k=>
   match A[i]? with
   | some (.cells cs v false)=>
    if v=ver/\memN i us=false/\cs.all (fun x=>match x with | .d _=>true | _=>false)=true then
     some (.sref (nb+bs.length) 0 off len sz k,bs++[.cells cs 0 false],us++[i])
    else none
   | _=>none
  | _=>none
def setRo (A:List Blk):List Nat->List Blk
 | []=>A
 | i::rest=>match A[i]? with
  | some (.cells cs v _)=>setRo (A.set i (.cells cs v true)) rest
  | _=>setRo A rest
def flatA:Nat->AV->Bool
 | 0,_=>false
 | n+1,.d x=>x.flat n
 | _+1,.sref .. =>true
 | n+1,.agg cs | n+1,.tup cs=>cs.all (flatA n)
 | _+1,_=>false
def flatBs (bs:List Blk):Bool:=
 bs.all fun b=>match b with
  | .cells cs _ _=>cs.all fun x=>match x with | .d x=>x.flat 6 | _=>false
  | _=>false
def fk:Nat->DV->DV
 | 0,x=>x
 | n+1,x=>
  match x with
  | .lst cs len _=>.lst cs len none
  | .agg cs=>.agg (cs.map (fk n))
  | .tup cs=>.tup (cs.map (fk n))
  | x=>x
abbrev cT:=FuncId->List AV->List Blk->Option (AV×List Blk)
inductive Done where
 | made (x:AV) (bs:List Blk)
 | turned (x:AV) (A:List Blk)
structure Env where
  br:List FuncId
  th:List FuncId
  prim:FuncId->Option (List DV->Option (AV×List Blk))
  back:FuncId->Option (Nat×Bool)
  lives:FuncId->Nat->Option (List Nat):=fun _ _=>none
  live:Nat->Option (List Nat):=fun _=>none
  nb0:Nat:=0
def refsOf:Nat->AV->List Nat
 | 0,_=>[]
 | n+1,x=>
  match x with
  | .ref i _ _=>[i]
  | .sref i _ _ _ _ _=>[i]
  | .agg cs=>cs.flatMap (refsOf n)
  | .tup cs=>cs.flatMap (refsOf n)
  | .fn _ cs=>cs.flatMap (refsOf n)
  | .ifc _ y=>refsOf n y
  | .d _=>[]
  | .bot=>[]
def refsB:Option Blk->List Nat
 | some (.cells cs _ _)=>cs.flatMap (refsOf 8)
 | _=>[]
def reach (A:List Blk)(n0:Nat):Nat->List Nat->List Nat->List Nat
 | 0,_,seen=>seen
 | _+1,[],seen=>seen
 | k+1,i::todo,seen=>bif Nat.blt i n0 || memN i seen || !Nat.blt i A.length then reach A n0 k todo seen else reach A n0 k (todo++refsB A[i]?) (seen++[i])
def idx:List Nat->Nat->Option Nat
 | [],_=>none
 | j::l,i=>bif Nat.beq j i then some 0 else(idx l i).map (·+1)
def blkVer (A:List Blk)(i:Nat):Option Nat:=
 match A[i]? with
 | some (.cells _ v _)=>some v
 | some (.iter _ _)=>some 0
 | _=>none
def spot (A:List Blk)(n0:Nat)(ids:List Nat)(i v:Nat):Option (Nat×Nat):=
 bif Nat.blt i n0 then some (i,v) else match blkVer A i,idx ids i with
  | some v',some m=>bif Nat.beq v' v then some (n0+m,0) else none
  | _,_=>none
def ren (A:List Blk)(n0:Nat)(ids:List Nat):Nat->AV->AV
 | 0,_=>.bot
 | n+1,x=>
  match x with
  | .d y=>.d y
  | .agg cs=>.agg (cs.map (ren A n0 ids n))
  | .tup cs=>.tup (cs.map (ren A n0 ids n))
  | .ref i v o=>match spot A n0 ids i v with
   | some p=>.ref p.1 p.2 o
   | none=>.bot
  | .sref i v o len sz k=>match spot A n0 ids i v with
   | some p=>.sref p.1 p.2 o len sz k
   | none=>.bot
  | .fn f cs=>.fn f (cs.map (ren A n0 ids n))
  | .ifc t y=>.ifc t (ren A n0 ids n y)
  | .bot=>.bot
def renB (A:List Blk)(n0:Nat)(ids:List Nat)(keep:Bool):Blk->Blk
 | .cells cs v ro=>.cells (cs.map (ren A n0 ids 8)) (bif keep then v else 0) ro
 | b=>b
def renH (A:List Blk)(n0:Nat)(ids:List Nat):List Blk:=
 (A.take n0).map (renB A n0 ids true)++ids.map fun i=>renB A n0 ids false (A.getD i .free)
def maskS (f:AV->AV):Nat->List Nat->List AV->List AV
 | _,_,[]=>[]
 | k,[],_::tm=>.bot::maskS f (k+1) [] tm
 | k,l::ls,x::tm=>bif Nat.beq k l then f x::maskS f (k+1) ls tm else .bot::maskS f (k+1) (l::ls) tm
def rootsK (n0:Nat)(live:List Nat)(tm:List AV)(A:List Blk):List Nat:=
 live.flatMap (fun t=>refsOf 8 (nthA tm t))++(A.take n0).flatMap fun b=>refsB (some b)
def nrmGo (n0:Nat)(live:List Nat)(k:List AV->List Blk->Option (AV×List Blk))(tm:List AV)(A:List Blk)(ids:List Nat):Option (AV×List Blk):=
 k (maskS (ren A n0 ids 8) 0 live tm) (renH A n0 ids)
def nrmK (E:Env)(key:Nat)(k:List AV->List Blk->Option (AV×List Blk)):List AV->List Blk->Option (AV×List Blk):=fun tm A=>
 match E.live key with
 | none=>k tm A
 | some live=>nrmGo E.nb0 live k tm A (reach A E.nb0 100000 (rootsK E.nb0 live tm A) [])
def endN (n0:Nat):Option (AV×List Blk)->Option (AV×List Blk)
 | some (x,A)=>some (ren A n0 (reach A n0 100000 (refsOf 8 x++(A.take n0).flatMap fun b=>refsB (some b)) []) 8 x,renH A n0 (reach A n0 100000 (refsOf 8 x++(A.take n0).flatMap fun b=>refsB (some b)) []))
 | none=>none
def isEmptyL:List Nat->Bool
 | []=>true
 | _=>false
def thawed (A:List Blk)(used:List Nat):Option (AV×List Blk×List Nat)->Option Done
 | some (x,bs,_)=>bif isEmptyL used || (flatA 8 x&&flatBs bs) then some (.made x bs) else some (.turned x (setRo A used++bs))
 | none=>none
def deeped (A:List Blk)(used:List Nat):Option (DV×List Nat)->Option Done
 | some (r,_)=>bif isEmptyL used || r.flat 8 then some (.made (.d (fk 4 r)) []) else some (.turned (.d (fk 4 r)) (setRo A used))
 | none=>none
def evRaw (E:Env)(call:cT)(f:FuncId)(ds:List DV):Option (AV×List Blk):=
 match E.prim f with
 | some g=>g ds
 | none=>call f (ds.map .d) []
def isSomeL:Option (List Nat)->Bool
 | some _=>true
 | none=>false
def thF (E:Env)(f:FuncId):Bool:=memN f E.th || isSomeL (E.live (1000000+f))
def evAnswer (E:Env)(f:FuncId)(A:List Blk)(nb:Nat)(used:List Nat):Option (AV×List Blk)->Option Done
 | some (x,Ac)=>bif thF E f then thawed A used (thaw Ac nb 6 x [] []) else deeped A used (deep Ac 8 x)
 | none=>none
def evOwn (E:Env)(call:cT)(f:FuncId)(A:List Blk)(nb:Nat):Option (List DV×List Nat)->Option Done
 | some (ds,used)=>evAnswer E f A nb used (evRaw E call f (ds.map (fk 4)))
 | none=>none
def unr (ids vs:List Nat)(nb:Nat):Nat->AV->AV
 | 0,_=>.bot
 | n+1,x=>
  match x with
  | .d y=>.d y
  | .agg cs=>.agg (cs.map (unr ids vs nb n))
  | .tup cs=>.tup (cs.map (unr ids vs nb n))
  | .ref m v o=>match ids[m]? with
   | some i=>.ref i (vs.getD m 0+v) o
   | none=>.ref (nb+(m-ids.length)) v o
  | .sref m v o len sz k=>match ids[m]? with
   | some i=>.sref i (vs.getD m 0+v) o len sz k
   | none=>.sref (nb+(m-ids.length)) v o len sz k
  | .fn f cs=>.fn f (cs.map (unr ids vs nb n))
  | .ifc t y=>.ifc t (unr ids vs nb n y)
  | .bot=>.bot
def unrB (ids vs:List Nat)(nb dv:Nat):Blk->Blk
 | .cells cs v ro=>.cells (cs.map (unr ids vs nb 8)) (dv+v) ro
 | b=>b
def versOf (A:List Blk)(ids:List Nat):List Nat:=ids.map fun i=>(blkVer A i).getD 0
def putAll (ids vs:List Nat)(nb:Nat):List Blk->List Nat->List Nat->List Blk->List Blk
 | A,i::is,v::us,b::bs=>putAll ids vs nb (A.set i (unrB ids vs nb v b)) is us bs
 | A,_,_,_=>A
def brOk:List Nat->List Blk->Bool
 | v::vs,b::bs=>(match b with
  | .cells _ _ _=>true
  | _=>Nat.beq v 0)&&brOk vs bs
 | _,_=>true
def brBack (A:List Blk)(ids vs:List Nat):Option (AV×List Blk)->Option Done
 | some (x,B)=>bif Nat.ble ids.length B.length&&brOk vs B then some (.turned (unr ids vs A.length 8 x) (putAll ids vs A.length A ids vs B++(B.drop ids.length).map (unrB ids vs A.length 0))) else none
 | none=>none
def brGo (call:cT)(f:FuncId)(args:List AV)(A:List Blk)(ids:List Nat):Option Done:=
 brBack A ids (versOf A ids) (call f (args.map (ren A 0 ids 8)) (renH A 0 ids))
def evCall (E:Env)(call:cT)(f:FuncId)(args:List AV)(A:List Blk)(nb:Nat):Option Done:=
 bif memN f E.br then brGo call f args A (reach A 0 100000 (args.flatMap (refsOf 8)) []) else evOwn E call f A nb (mapD (deep A 8) args)
abbrev OpF:=Env->cT->List AV->List Blk->Nat->Option Done
def one? :Option AV->Option Done
 | some x=>some (.made x [])
 | none=>none
def oV (x:Opd):OpF:=fun _ _ tm _ _=>some (.made (look tm x) [])
def pickA (tm:List AV)(a b:Opd):AV->Option Done
 | .d (.v (.bool true))=>some (.made (look tm a) [])
 | .d (.v (.bool false))=>some (.made (look tm b) [])
 | _=>none
def oPick (c a b:Opd):OpF:=fun _ _ tm _ _=>pickA tm a b (look tm c)
def aggA:Option (List AV)->Option Done
 | some cs=>some (.made (.agg cs) [])
 | none=>none
def oBuild (zero:List AV)(parts:List (Nat×Nat×Opd)):OpF:=fun _ _ tm _ _=>aggA (fillA tm zero parts)
def oA (x:Opd)(off:Nat):OpF:=fun _ _ tm _ _=>one? (ptrAdd (look tm x) off)
def oPart (x:Opd)(off:Nat)(ag:Bool)(n:Nat):OpF:=fun _ _ tm _ _=>one? (evPart (look tm x) off ag n)
def oIxA (x ix:Opd)(len s:Nat):OpF:=fun _ _ tm _ _=>one? (evIxA (look tm x) (look tm ix) len s)
def oIxS (x ix:Opd)(s:Nat):OpF:=fun _ _ tm _ _=>one? (evIxS (look tm x) (look tm ix) s)
def oIxP (x ix:Opd)(len s:Nat)(ag:Bool)(n:Nat):OpF:=fun _ _ tm _ _=>one? (evIxP (look tm x) (look tm ix) len s ag n)
def oIxB (x ix:Opd):OpF:=fun _ _ tm _ _=>one? (evIxB (look tm x) (look tm ix))
def oExt (x:Opd)(i:Nat):OpF:=fun _ _ tm _ _=>one? (evExt (look tm x) i)
def oUn (op:UnOp)(x:Opd):OpF:=fun _ _ tm _ _=>one? (evUn op (look tm x))
def oB (op:BinOp)(x y:Opd):OpF:=fun _ _ tm _ _=>one? (evBin op (look tm x) (look tm y))
def eqDone (neg:Bool):Option Bool->Option Done
 | some b=>some (.made (abool (if neg then !b else b)) [])
 | none=>none
def oEq (neg:Bool)(sh:Sh)(x y:Opd):OpF:=fun _ _ tm _ _=>eqDone neg (eqV sh (look tm x) (look tm y))
def cintA (k:IntKind):AV->Option Done
 | .d (.v (.int _ n))=>some (.made (.d (.v (.int k (k.wrap n)))) [])
 | _=>none
def oCint (k:IntKind)(x:Opd):OpF:=fun _ _ tm _ _=>cintA k (look tm x)
def cstrA:AV->Option Done
 | .d (.v (.int _ n))=>some (.made (.d (.v (.string (Utf8.encode n)))) [])
 | .d (.v (.string s))=>some (.made (.d (.v (.string s))) [])
 | _=>none
def oCstr (x:Opd):OpF:=fun _ _ tm _ _=>cstrA (look tm x)
def oNilck (x:Opd):OpF:=fun _ _ tm _ _=>one? (evNilck (look tm x))
def oMki (t:TypeId)(x:Opd):OpF:=fun _ _ tm _ _=>some (.made (.ifc t (look tm x)) [])
def oFnc (f:Fn)(cap:List Opd):OpF:=fun _ _ tm _ _=>some (.made (.fn f (cap.map (look tm))) [])
def oAsrt (x:Opd)(t:TypeId)(zero:DV)(ok:Bool):OpF:=fun _ _ tm _ _=>one? (evAsrt (look tm x) t zero ok)
def oSlS (x:Opd)(lo hi mx:Option Opd)(s:Nat):OpF:=fun _ _ tm _ _=>one? (evSlS tm (look tm x) lo hi mx s)
def oSlT (x:Opd)(lo hi:Option Opd):OpF:=fun _ _ tm _ _=>one? (evSlT tm (look tm x) lo hi)
def oSlA (x:Opd)(lo hi mx:Option Opd)(n s:Nat):OpF:=fun _ _ tm A _=>one? (evSlA A tm (look tm x) lo hi mx n s)
def oLenS (x:Opd):OpF:=fun _ _ tm _ _=>one? (evLenS (look tm x))
def lenTA:AV->Option Done
 | .d (.v (.string s))=>some (.made (aI s.size) [])
 | _=>none
def oLenT (x:Opd):OpF:=fun _ _ tm _ _=>lenTA (look tm x)
def oLenA (n:Nat):OpF:=fun _ _ _ _ _=>some (.made (aI n) [])
def oMM (mx:Bool)(xs:List Opd):OpF:=fun _ _ tm _ _=>one? (evMM mx (xs.map (look tm)))
def oL (x:Opd)(ag:Bool)(n:Nat):OpF:=fun _ _ tm A _=>one? (evLoad A (look tm x) ag n)
def turnA:Option (List Blk)->Option Done
 | some A=>some (.turned aundef A)
 | none=>none
def oS (a x:Opd)(n:Nat):OpF:=fun _ _ tm A _=>turnA (evStore A (look tm a) (look tm x) n)
def oNew (zero:List AV):OpF:=fun _ _ _ _ nb=>some (.made (.ref nb 0 0) [.cells zero 0 false])
def boxA (nb:Nat)(x:AV):Option Done:=bif x.isBot then none else some (.made (.ref nb 0 0) [.cells x.cells 0 false])
def oBox (x:Opd):OpF:=fun _ _ tm _ nb=>boxA nb (look tm x)
def mkSA (len s nb:Nat):Option (List AV)->Option Done
 | some cs=>some (.made (.sref nb 0 0 len s (some len)) [.cells cs 0 false])
 | none=>none
def deepL:List AV->Option (List DV)
 | []=>some []
 | .d x::l=>(deepL l).map (x:: ·)
 | _=>none
def mkSD (len s nb:Nat)(cs:List AV):Option (List DV)->Option Done
 | some ds=>some (.made (.d (.lst ds len (some len))) [])
 | none=>mkSA len s nb (some cs)
def mkSW (w:Bool)(len s nb:Nat)(o:Option (List AV)):Option Done:=
 match w with
 | false=>mkSA len s nb o
 | true=>match o with
  | some cs=>mkSD len s nb cs (deepL cs)
  | none=>none
def oMkS (cells:List AV)(len s:Nat)(parts:List (Nat×Nat×Opd)):OpF:=fun E _ tm _ nb=>mkSW (thF E 1000000) len s nb (fillA tm cells parts)
def makeA (zero:List AV)(s bytes nb:Nat):AV->AV->Option Done
 | .d (.v (.int _ l)),.d (.v (.int _ c))=>
  if 0<=l/\l<=c/\bytes*c<=limA/\c<=limA then some (.made (.sref nb 0 0 l.toNat s (some c.toNat)) [.cells (rep zero c.toNat) 0 false]) else none
 | _,_=>none
def oMake (zero:List AV)(s bytes:Nat)(l c:Opd):OpF:=fun _ _ tm _ nb=>makeA zero s bytes nb (look tm l) (look tm c)
def oText (runes:Bool)(x:Opd):OpF:=fun _ _ tm A _=>one? (evText A runes (look tm x))
def appDone (A:List Blk)(nb s:Nat)(base:AV):Option App->Option Done
 | some .same=>some (.made base [])
 | some (.fresh cs len)=>some (.made (.sref nb 0 0 len s none) [.cells cs 0 false])
 | some (.turn i b x)=>some (.turned x (A.set i b))
 | none=>none
def appA (A:List Blk)(nb s bytes:Nat)(base:AV):Option (List AV×Nat)->Option Done
 | some (new,n)=>appDone A nb s base (evApp A s bytes base new n)
 | none=>none
def oApp (str:Bool)(s bytes:Nat)(base x:Opd):OpF:=fun _ _ tm A nb=>appA A nb s bytes (look tm base) (newCells A str s (look tm x))
def oNone:OpF:=fun _ _ _ _ _=>none
def rangeA (nb:Nat):AV->Option Done
 | .d (.v (.string s))=>some (.made (.ref nb 0 0) [.iter s 0])
 | _=>none
def oRange (x:Opd):OpF:=fun _ _ tm _ nb=>rangeA nb (look tm x)
def nextB (A:List Blk)(i:Nat)(s:ByteArray)(p:Nat):Option Done:=
 bif Nat.blt p s.size then some (.turned (.d (.tup [.v (.bool true),.v (.int .i64 (p:Int)),.v (.int .i32 ((Utf8.decode s p).1:Int))])) (A.set i (.iter s (p+(Utf8.decode s p).2)))) else some (.made (.d (.tup [.v (.bool false)])) [])
def nextI (A:List Blk)(i ver off:Nat):Option Blk->Option Done
 | some (.iter s p)=>bif Nat.beq ver 0&&Nat.beq off 0 then nextB A i s p else none
 | _=>none
def nextA (A:List Blk):AV->Option Done
 | .ref i ver off=>nextI A i ver off A[i]?
 | _=>none
def oNext (x:Opd):OpF:=fun _ _ tm A _=>nextA A (look tm x)
def verIs (v:Nat):Option Nat->Bool
 | some w=>Nat.beq w v
 | none=>false
def ptrSame (A:List Blk)(i v o j u p:Nat):Option Bool:=
 bif Nat.beq i j&&Nat.beq v u&&Nat.beq o p&&verIs v (blkVer A i) then some true else none
def ptrEq (A:List Blk):AV->AV->Option Bool
 | .ref i v o,.ref j u p=>ptrSame A i v o j u p
 | .d (.v (.pointer none)),.d (.v (.pointer none))=>some true
 | .ref ..,.d (.v (.pointer none))=>some false
 | .d (.vptr _),.d (.v (.pointer none))=>some false
 | _,_=>none
def oEqP (neg:Bool)(x y:Opd):OpF:=fun _ _ tm A _=>eqDone neg (ptrEq A (look tm x) (look tm y))
inductive Xt where
 | esc | ixb | cnt
 deriving DecidableEq
def evEsc:List AV->Option AV
 | [x]=>some x
 | _=>none
def evIxb:List AV->Option AV
 | [.d (.v (.string s)),.d (.v (.int .u8 c))]=>some (match(List.range s.size).find? fun i=>s[i]! ==c.toNat.toUInt8 with
  | some i=>aI i
  | none=>aI (-1))
 | _=>none
def evCnt:List AV->Option AV
 | [.d (.v (.string s)),.d (.v (.int .u8 c))]=>some (aI (s.foldl (fun n x=>if x==c.toNat.toUInt8 then n+1 else n) ((0:Nat):Int)))
 | _=>none
def evXt:Xt->List AV->Option AV
 | .esc=>evEsc
 | .ixb=>evIxb
 | .cnt=>evCnt
def oXt (k:Xt)(xs:List Opd):OpF:=fun _ _ tm _ _=>one? (evXt k (xs.map (look tm)))
def target (args:List AV):AV->Option (FuncId×List AV)
 | .fn (.func g) cap=>some (g,args++cap)
 | .d (.fn (.func g) cap)=>some (g,args++cap.map .d)
 | _=>none
def callA (E:Env)(call:cT)(A:List Blk)(nb:Nat):Option (FuncId×List AV)->Option Done
 | some (g,args)=>evCall E call g args A nb
 | none=>none
def oK (f:Opd)(args:List Opd):OpF:=fun E call tm A nb=>callA E call A nb (target (args.map (look tm)) (look tm f))
abbrev Ans:=Option (AV×List Blk)
abbrev K:=List AV->List Blk->Ans
def setO (tm:List AV)(dst:Option Nat)(x:AV):List AV:=
 match dst with
 | some t=>setA tm t x
 | none=>tm
def wantIs (b:Bool):AV->Option Bool
 | .d (.v (.bool c))=>some (c==b)
 | .d (.tup [])=>some false
 | _=>none
def wantA (tm:List AV):Option (Nat×Bool)->Option Bool
 | none=>some true
 | some (t,b)=>wantIs b (nthA tm t)
structure Stp where
 dst:Option Nat
 guard:Option (Nat×Bool)
 op:OpF
def app0 (A:List Blk):List Blk->List Blk
 | []=>A
 | bs=>A++bs
theorem app0_eq (A bs:List Blk):app0 A bs=A++bs:=by
 cases bs with
 | nil=>simp[app0]
 | cons b bs=>rfl
def goOn (dst:Option Nat)(k:K)(tm:List AV)(A:List Blk):Option Done->Ans
 | some (.made x bs)=>k (setO tm dst x) (app0 A bs)
 | some (.turned x A)=>k (setO tm dst x) A
 | none=>none
def stepW (E:Env)(call:cT)(s:Stp)(k:K)(tm:List AV)(A:List Blk):Option Bool->Ans
 | some true=>goOn s.dst k tm A (s.op E call tm A A.length)
 | some false=>k (setO tm s.dst aundef) A
 | none=>none
def steps (E:Env)(call:cT):List Stp->K->K
 | [],k=>k
 | s::l,k=>fun tm A=>stepW E call s (steps E call l k) tm A (wantA tm s.guard)
inductive Fl where
 | any | mk | pure | tn
 deriving DecidableEq
def goOnF (fg:Fl)(dst:Option Nat)(k:K)(tm:List AV)(A:List Blk):Option Done->Ans
 | some (.made x [])=>k (setO tm dst x) A
 | some (.made x (b::bs))=>match fg with
  | .pure=>none
  | _=>k (setO tm dst x) (A++b::bs)
 | some (.turned x A1)=>match fg with
  | .any=>bif Nat.ble A.length A1.length then k (setO tm dst x) A1 else none
  | .tn=>bif Nat.ble A.length A1.length then k (setO tm dst x) A1 else none
  | _=>none
 | none=>none
def stepF (E:Env)(call:cT)(fg:Fl)(s:Stp)(k:K)(tm:List AV)(A:List Blk):Option Bool->Ans
 | some true=>goOnF fg s.dst k tm A (s.op E call tm A A.length)
 | some false=>k (setO tm s.dst aundef) A
 | none=>none
def dsteps (E:Env)(call:cT):List (Fl×Stp)->K->K
 | [],k=>k
 | s::l,k=>fun tm A=>stepF E call s.1 s.2 (dsteps E call l k) tm A (wantA tm s.2.guard)
def sameA:Nat->AV->AV->Bool
 | 0,_,_=>false
 | n+1,x,y=>
  match x,y with
  | .d (.v (.int k a)),.d (.v (.int k' b))=>decide (k=k')&&decide (a=b)
  | .d (.v (.bool a)),.d (.v (.bool b))=>a==b
  | .d (.v (.string a)),.d (.v (.string b))=>decide (a.data=b.data)
  | .d (.tup []),.d (.tup [])=>true
  | .d (.lst cs a none),.d (.lst ds b none)=>sameL (fun x y=>sameA n (.d x) (.d y)) cs ds&&Nat.beq a b
  | .d (.lst cs a (some c)),.d (.lst ds b (some e))=>sameL (fun x y=>sameA n (.d x) (.d y)) cs ds&&(Nat.beq a b&&Nat.beq c e)
  | .d (.agg cs),.d (.agg ds)=>sameL (fun x y=>sameA n (.d x) (.d y)) cs ds
  | .agg cs,.agg ds=>sameL (sameA n) cs ds
  | .ref i v o,.ref j u p=>Nat.beq i j&&Nat.beq v u&&Nat.beq o p
  | .bot,.bot=>true
  | _,_=>false
where
 sameL {α:Type} (f:α->α->Bool):List α->List α->Bool
  | [],[]=>true
  | x::l,y::m=>f x y&&sameL f l m
  | _,_=>false
def sameB:Option Blk->Option Blk->Bool
 | some (.cells cs v r),some (.cells ds u q)=>sameA.sameL (sameA 8) cs ds&&Nat.beq v u&&(r==q)
 | none,_=>true
 | _,_=>false
def kept (A A1:List Blk):AV->Bool
 | .ref i _ _=>sameB A[i]? A1[i]?
 | _=>true
def keepK (ls:List (Nat×Opd))(d:Nat)(A A1:List Blk)(k:K):K:=fun tm B=>bif ls.all (fun p=> !Nat.beq p.1 d || kept A A1 (look tm p.2)) then k tm B else none
def dstepsX (E:Env)(call:cT)(ls:List (Nat×Opd)):Nat->List (Fl×Stp)->K->K
 | _,[],k=>k
 | d,s::l,k=>fun tm A=>stepF E call s.1 s.2 (fun tm1 A1=>dstepsX E call ls (d+1) l (keepK ls d A A1 k) tm1 A1) tm A (wantA tm s.2.guard)
def refNe:AV->AV->Bool
 | .ref i _ _,.ref j _ _=> !Nat.beq i j
 | _,_=>true
def refsNe (tm:List AV):List (Opd×Opd)->Bool
 | []=>true
 | p::l=>refNe (look tm p.1) (look tm p.2)&&refsNe tm l
def endD (ps:List (Opd×Opd))(k:K):K:=fun tm A=>bif refsNe tm ps then k tm A else none
abbrev CT:=Env->cT->K->(Nat->K)->K->K
def cK:CT:=fun _ _ kn _ _=>kn
def cOz (l:List Stp):CT:=fun E call kn _ _=>steps E call l kn
def cDrawn (l:List (Fl×Stp))(ps:List (Opd×Opd)):CT:=fun E call kn _ _=>dsteps E call l (endD ps kn)
def cDrawnX (l:List (Fl×Stp))(ps:List (Opd×Opd))(ls:List (Nat×Opd)):CT:=fun E call kn _ _=>dstepsX E call ls 0 l (endD ps kn)
def cQ (a b:CT):CT:=fun E call kn kx kr=>a E call (b E call kn kx kr) kx kr
def branch (a b:Ans):AV->Ans
 | .d (.v (.bool true))=>a
 | .d (.v (.bool false))=>b
 | _=>none
def cJ (key:Nat)(c:Opd)(a b:CT):CT:=fun E call kn kx kr tm A=>branch (a E call (nrmK E key kn) kx kr tm A) (b E call (nrmK E key kn) kx kr tm A) (look tm c)
def blockK (id:Nat)(kn:K)(kx:Nat->K):Nat->K:=fun i=>bif Nat.beq i id then kn else kx i
def cBlock (id:Nat)(c:CT):CT:=fun E call kn kx kr=>c E call kn (blockK id kn kx) kr
def loopK (key:Nat)(c:CT)(E:Env)(call:cT)(kx:Nat->K)(kr:K):Nat->K
 | 0=>fun _ _=>none
 | n+1=>nrmK E key (c E call (loopK key c E call kx kr n) kx kr)
def cLoop (key:Nat)(c:CT):CT:=fun E call _ kx kr=>loopK key c E call kx kr 1000000000000000000000000000000
def cExit (id:Nat):CT:=fun _ _ _ kx _=>kx id
def cZ:CT:=fun _ _ _ _ kr=>kr
def putPs (tm:List AV):List Nat->List AV->List AV
 | p::ps,x::xs=>putPs (setA tm p x) ps xs
 | _,_=>tm
def backElems (cs:List DV)(s:Nat)(ag:Bool):Nat->Option (List (List AV))
 | 0=>some []
 | i+1=>match takeVarD ag s (cs.drop (i*s)),backElems cs s ag i with
  | some x,some r=>some ([aI i,.d x]::r)
  | _,_=>none
def rangeElems (E:Env):AV->Option (List (List AV))
 | .d (.fn (.func g) [.vptr (.lst cs len _::_)])=>match E.back g with
  | some (s,ag)=>if cs.length=len*s/\len<=limA/\s≠0/\(ag=false->s=1) then backElems cs s ag len else none
  | none=>none
 | _=>none
def roundsK (asg body:CT)(ps:List Nat)(E:Env)(call:cT)(kn:K)(kx:Nat->K)(kr:K)(tm:List AV):List (List AV)->List Blk->Ans
 | [],A=>kn tm A
 | e::es,A=>asg { E with nb0:=A.length } call (fun tm1 A1=>body { E with nb0:=A1.length } call (fun _ A2=>roundsK asg body ps E call kn kx kr tm es A2) (fun id _ A2=>kx id tm A2) (fun _ A2=>kr tm A2) tm1 A1) (fun _ _ _=>none) (fun _ _=>none) (putPs tm ps e) A
def rangeK (asg body:CT)(ps:List Nat)(E:Env)(call:cT)(kn:K)(kx:Nat->K)(kr:K)(tm:List AV)(A:List Blk):Option (List (List AV))->Ans
 | some es=>roundsK asg body ps E call kn kx kr tm es A
 | none=>none
def cRange (f:Opd)(ps:List Nat)(asg body:CT):CT:=fun E call kn kx kr tm A=>rangeK asg body ps E call kn kx kr tm A (rangeElems E (look tm f))
inductive IRes where
 | tmp (t:Nat)
 | cell (a:Nat) (ag:Bool) (n:Nat)
def evRes (tm:List AV)(A:List Blk):IRes->Option AV
 | .tmp t=>some (nthA tm t)
 | .cell a ag n=>evLoad A (nthA tm a) ag n
def evRess (tm:List AV)(A:List Blk):List IRes->Option (List AV)
 | []=>some []
 | r::l=>match evRes tm A r,evRess tm A l with
  | some x,some l=>some (x::l)
  | _,_=>none
def packed (A:List Blk):Option (List AV)->Ans
 | some [x]=>some (x,A)
 | some xs=>some (.tup xs,A)
 | none=>none
def kEnd (n0:Nat)(rs:List IRes):K:=fun tm A=>endN n0 (packed A (evRess tm A rs))
def undefs:Nat->List AV
 | 0=>[]
 | n+1=>aundef::undefs n
def mkF (ntmps:Nat)(rs:List IRes)(c:CT):Env->cT->cT:=fun E call f args A=>
 c { E with live:=E.lives f,nb0:=A.length } call (kEnd A.length rs) (fun _ _ _=>none) (kEnd A.length rs) (args++undefs (ntmps-args.length)) A
def apF (E:Env)(call:cT)(f:FuncId)(args:List AV)(A:List Blk):Option (Env->cT->cT)->Ans
 | some F=>F E call f args A
 | none=>none
def evC (E:Env)(fn:FuncId->Option (Env->cT->cT)):Nat->cT
 | 0=>fun _ _ _=>none
 | n+1=>fun f args A=>apF E (evC E fn n) f args A (fn f)
end Go.Aug
