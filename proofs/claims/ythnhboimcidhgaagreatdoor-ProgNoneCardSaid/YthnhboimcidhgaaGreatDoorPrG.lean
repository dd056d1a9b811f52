import Derived.Test.YthnhboimcidhgaaGreatDoorEvC
namespace Go.Aug
open Go
def insN:DV->Option Nat
 | .agg [_,_,_,_,_,_,_,_,_,.lst _ n _]=>some n
 | .agg [_,_,_,_,_,_,_,_,_,.nel]=>some 0
 | _=>none
def valsOf:List AV->Option (List Value)
 | []=>some []
 | .d (.v x)::l=>match valsOf l with
  | some r=>some (x::r)
  | none=>none
 | _=>none
def ansT (s:ByteArray)(b:Bool):Option (AV×List Blk):=some (.tup [.d (.v (.string s)),.d (.v (.bool b))],[])
def lineOf:Option (AV×List Blk)->Option (Option ByteArray)
 | some (.d (.tup [.v (.string s),.v (.bool ok)]),[])=>some (if ok then some s else none)
 | some (.tup [.d (.v (.string s)),.d (.v (.bool ok))],[])=>some (if ok then some s else none)
 | _=>none
abbrev RawT:Type:=FuncId->List DV->Option (AV×List Blk)
def textsOf (raw:RawT)(fPr:FuncId):Nat->List Value->ByteArray->Option (Option ByteArray)
 | 0,_,acc=>some (some acc)
 | n+1,(.int .i64 a0)::(.int .i64 a1)::(.bool a2)::(.string a3)::(.int .i64 a4)::(.int .i64 a5)::(.int .i64 a6)::(.bool a7)::(.int .i64 a8)::(.bool a9)::(.int .i64 a10)::(.string a11)::(.int .i64 a12)::vs,acc=>match lineOf (raw fPr [.agg ([(.int .i64 a0),(.int .i64 a1),(.bool a2),(.string a3),(.int .i64 a4),(.int .i64 a5),(.int .i64 a6),(.bool a7),(.int .i64 a8),(.bool a9),(.int .i64 a10),(.string a11),(.int .i64 a12)].map .v)]) with
  | some (some s)=>bif Nat.ble (acc.size+s.size) 1000000000 then textsOf raw fPr n vs ((acc++s).push 10) else none
  | some none=>some none
  | none=>none
 | _,_,_=>none
def sameAns:Option (AV×List Blk)->Option Bool
 | some (.d (.v (.bool b)),[])=>some b
 | _=>none
def isI:AV->Bool
 | .d (.v (.int .i64 _))=>true
 | _=>false
def isSl:AV->Bool
 | .sref .. =>true
 | .d (.lst ..)=>true
 | .d .nel=>true
 | _=>false
def progCs:List AV->Bool
 | [a,b,c,d,e,f,g,m,l,i]=>isI a&&isI b&&isI c&&isI d&&isI e&&isI f&&isI g&&isSl m&&isSl l&&isSl i
 | _=>false
def isAg:AV->Bool
 | .agg _=>true
 | .d (.agg _)=>true
 | _=>false
def tupOf:AV->Option (List AV)
 | .tup l=>some l
 | .d (.tup l)=>some (l.map .d)
 | _=>none
def sameOf (raw:RawT)(fSame:FuncId):Option (List DV×List Nat)->Option Bool
 | some (ds,_)=>sameAns (raw fSame ds)
 | none=>none
def backT (raw:RawT)(fSame:FuncId)(p:DV)(A:List Blk):Option (List AV)->Option Bool
 | some [q,.d (.v (.int .i64 _)),.d (.v (.int .i64 _)),.d (.v (.bool ok))]=>
  bif isAg q&&progCs q.cells then(bif ok then sameOf raw fSame (mapD (deep A 8) [q,.d p]) else some false) else none
 | _=>none
def backOf (raw:RawT)(fSame:FuncId)(p:DV):Option (AV×List Blk)->Option Bool
 | some (x,A)=>backT raw fSame p A (tupOf x)
 | none=>none
def printIt (raw:RawT)(fPr fParse fSame:FuncId)(p:DV)(len:Nat):Option (List Value)->Option (AV×List Blk)
 | some vs=>match textsOf raw fPr len vs ByteArray.empty with
  | some (some s)=>match backOf raw fSame p (raw fParse [.v (.string s)]) with
   | some true=>ansT s true
   | some false=>ansT ByteArray.empty false
   | none=>none
  | some none=>ansT ByteArray.empty false
  | none=>none
 | none=>none
def printAt (raw:RawT)(fPr fParse fSame:FuncId)(p:DV):Option (AV×List Blk)->Option (AV×List Blk)
 | some (.sref 0 0 0 len 13 none,[.cells cs 0 false])=>bif Nat.beq cs.length (len*13)&&Nat.ble len 1000000 then printIt raw fPr fParse fSame p len (valsOf cs) else none
 | _=>none
def printGen (raw:RawT)(fItems fPr fParse fSame:FuncId):List DV->Option (AV×List Blk)
 | [p]=>match insN p with
  | some n=>bif Nat.blt 32 n then ansT ByteArray.empty false else printAt raw fPr fParse fSame p (raw fItems [p])
  | none=>none
 | _=>none
end Go.Aug
