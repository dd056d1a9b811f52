import Derived.Test.YtmfdoekbjkgckaaGreatEvGt
import GoSem.Extern.Table
namespace Go.Aug
open Go
def ofV1:Value->DV
 | .slice none 0 0=>.lst [] 0 (some 0)
 | x=>.v x
def ofV:Value->DV
 | .agg cs=>.agg (cs.toList.map ofV1)
 | x=>ofV1 x
def Hx:Sh->Opd->Opd
 | .slice,.c (.lst [] 0 (some 0))=>.c (.v (.slice none 0 0))
 | _,x=>x
def T5:Value->Bool
 | .agg cs=>cs.toList.all Value.oneCell'
 | .tuple _=>false
 | _=>true
def ZR:Operand->Option Opd
 | .tmp t=>some (.t t)
 | .const v=>if T5 v then some (.c (ofV v)) else none
 | .func f=>some (.f f)
 | .global g=>(Z1j g).map fun cs=>.c (.vptr cs)
def Jw:List Operand->Option (List Opd)
 | []=>some []
 | x::l=>match ZR x,Jw l with
  | some a,some b=>some (a::b)
  | _,_=>none
def CC:Option Operand->Option (Option Opd)
 | none=>some none
 | some x=>(ZR x).map some
def NA (z:Value):Option (List AV):=
 if z.cells.toList.all Value.oneCell' then some (z.cells.toList.map fun x=>.d (ofV1 x)) else none
def K5 (P:Program)(t:TypeId):Option (List AV):=
 match P.info? t with
 | some i=>match i.zero with
  | some z=>NA z
  | none=>none
 | none=>none
def QV (P:Program)(t:TypeId):Option Nat:=(P.info? t).map (·.size)
def BU (P:Program)(t:TypeId):Option Bool:=
 match P.underlying t with
 | some (.struct _) | some (.array _ _)=>some true
 | some _=>some false
 | none=>none
def F1 (place:Nat->Option (Nat×Nat)):List (Nat×Operand)->Option (List (Nat×Nat×Opd))
 | []=>some []
 | (i,x)::l=>match place i,ZR x,F1 place l with
  | some (o,s),some x,some r=>some ((o,s,x)::r)
  | _,_,_=>none
def Z2n (P:Program)(fields:Array Field)(i:Nat):Option (Nat×Nat):=
 match fields[i]? with
 | some f=>(QV P f.type).map fun s=>(f.offset,s)
 | none=>none
def Cq (P:Program):Nat->TypeId->Nat->Option (List (Nat×Lf))
 | 0,_,_=>none
 | d+1,t,off=>
  match P.underlying t with
  | some .bool=>some [(off,.bool)]
  | some (.int _)=>some [(off,.int)]
  | some .string=>some [(off,.str)]
  | some (.struct fields)=>
   if P.stoodInHeld t then none else leafFields (Cq P d) (QV P) (QV P t) off fields.toList
  | some (.array len elem)=>if(QV P elem).isNone then none else leafItems (Cq P d) (QV P elem) (QV P t) elem off (List.range len)
  | _=>none
where
 leafFields (go:TypeId->Nat->Option (List (Nat×Lf))) (size:TypeId->Option Nat) (n:Option Nat) (off:Nat):List Field->Option (List (Nat×Lf))
 | []=>some []
 | f::fs=>match go f.type (off+f.offset),leafFields go size n off fs,size f.type,n with
  | some l, some r, some s, some n => if f.name = "_" ∨ n < f.offset + s ∨ s = 0 then none else some (l ++ r)
  | _,_,_,_=>none
 leafItems (go:TypeId->Nat->Option (List (Nat×Lf))) (s n:Option Nat) (elem:TypeId) (off:Nat):List Nat->Option (List (Nat×Lf))
 | []=>some []
 | i::is=>match s,n with
  | some s',some n'=>match go elem (off+i*s'),leafItems go s n elem off is with
   | some l,some r=>if n'<i*s'+s'∨s'=0 then none else some (l++r)
   | _,_=>none
  | _,_=>none
def U3 (P:Program)(t:TypeId):Option Sh:=
 match P.underlying t with
 | some .bool=>some (.leaf .bool)
 | some (.interface _)=>some .iface
 | some (.slice _)=>some .slice
 | some (.struct _) | some (.array _ _)=>if P.eqGuardType P.depth t then none else match QV P t with
  | some n=>(Cq P 6 t 0).map (.flds n)
  | none=>none
 | _=>none
def Z2q (P:Program)(op:BinOp)(t:TypeId)(x y:Opd):Option ZU:=
 match op with
 | .eql | .neq=>match P.underlying t with
  | some (.int _) | some .string=>some (oB op x y)
  | some (.pointer e)=>if(P.info? e).isSome then some (Kz (op==.neq) x y) else none
  | _=>(U3 P t).map fun sh=>Dw (op==.neq) sh x (Hx sh y)
 | _=>some (oB op x y)
def WV (P:Program)(c:Call):Option ZU:=
 match Jw c.args.toList,c.argTypes.toList with
 | some [b, x], [t, u] => match P.underlying t, P.underlying u with
   | some (.slice e),some ud=>match P.info? e,K5 P e with
    | some i,some z=>if i.size=0∨z.length≠i.size∨Fq e=false then none else match ud with
     | .slice _=>some (YV false i.size i.bytes b x)
     | .string=>if i.size=1 then some (YV true i.size i.bytes b x) else none
     | _=>none
    | _,_=>none
   | _,_=>none
 | _,_=>none
def WU (P:Program)(c:Call):Option ZU:=
 match Jw c.args.toList,c.argTypes.toList with
 | some [x],[t]=>match P.underlying t with
  | some (.slice e)=>match K5 P e with
   | some z=>if z.length=0 then none else some (RD z x)
   | none=>none
  | _=>none
 | _,_=>none
def DK (P:Program)(c:Call):Option ZU:=
 match c.callee with
 | .value f=>match ZR f,Jw c.args.toList with
  | some f,some l=>some (oK f l)
  | _,_=>none
 | .builtin b=>
  match b,Jw c.args.toList,c.argTypes.toList with
  | .len,some [x],t::_=>match P.underlying t with
   | some .string=>some (VE x)
   | some (.slice _)=>some (JZ x)
   | some (.array n _)=>some (Z0c n)
   | _=>none
  | .min,some l,_=>some (Bx false l)
  | .max,some l,_=>some (Bx true l)
  | .append,_,_=>WV P c
  | .clear,_,_=>WU P c
  | _,_,_=>none
 | _=>none
def Z3g (P:Program)(g:FuncId):Option Xt:=
 match P.funcs[g]? with
 | some fn=>
  if fn.body.isNone=true/\(Extern.findNext fn).isNone=true then
   (if fn.name = "internal/abi.NoEscape" then some .esc else if fn.name = "internal/bytealg.IndexByteString" then some .ixb else if fn.name = "internal/bytealg.CountString" then some .cnt else none)
  else none
 | none=>none
def NK (P:Program)(c:Call):Option ZU:=
 match c.callee with
 | .value (.func g)=>match Z3g P g,Jw c.args.toList with
  | some k,some l=>some (Z5y k l)
  | _,_=>none
 | _=>none
def Y7 (P:Program):Op->Option ZU
 | .move x | .assign x=>(ZR x).map oV
 | .pick c a b=>match ZR c,ZR a,ZR b with
  | some c,some a,some b=>some (YA c a b)
  | _,_,_=>none
 | .build t parts=>match P.info? t,P.underlying t with
  | some it,some (.array _ e)=>match it.zero,P.info? e with
   | some z,some ie=>match NA z,F1 (fun i=>some (i*ie.size,ie.size)) parts.toList with
    | some zs,some ps=>some (YC zs ps)
    | _,_=>none
   | _,_=>none
  | some it,some (.struct fields)=>match it.zero,fields.toList.mapM (fun f=>(P.info? f.type).map fun i=>(f.offset,i.size)) with
   | some z,some places=>match NA z,F1 (fun i=>places.toArray[i]?) parts.toList with
    | some zs,some ps=>some (YC zs ps)
    | _,_=>none
   | _,_=>none
  | _,_=>none
 | .fieldAddr t x i=>match P.underlying t,ZR x with
  | some (.struct fields),some x=>match Z2n P fields i with
   | some (o,s)=>if s=0 then none else some (oA x o)
   | none=>none
  | _,_=>none
 | .field t x i=>match P.underlying t,ZR x with
  | some (.struct fields),some x=>match fields[i]? with
   | some f=>match BU P f.type,QV P f.type with
    | some ag,some s=>if ag=false/\s≠1 then none else some (ET x f.offset ag s)
    | _,_=>none
   | none=>none
  | _,_=>none
 | .indexAddr t x ix=>match P.underlying t,ZR x,ZR ix with
  | some (.array n e),some x,some ix=>(QV P e).map (D1 x ix n)
  | some (.slice e),some x,some ix=>(QV P e).map (Fz x ix)
  | _,_,_=>none
 | .index t x ix=>match P.underlying t,ZR x,ZR ix with
  | some (.array n e),some x,some ix=>match BU P e,QV P e with
   | some ag,some s=>if ag=false/\s≠1 then none else some (Z0d x ix n s ag s)
   | _,_=>none
  | some .string,some x,some ix=>some (Z0e x ix)
  | _,_,_=>none
 | .extract x i=>(ZR x).map fun x=>VF x i
 | .unOp op _ x=>(ZR x).map (Q6 op)
 | .binOp op t x y _=>match ZR x,ZR y with
  | some x,some y=>Z2q P op t x y
  | _,_=>none
 | .convert s d x=>match P.underlying s,P.underlying d,ZR x with
  | some (.int _),some (.int k),some x=>some (GM k x)
  | some (.int _),some .string,some x | some .string,some .string,some x=>some (T6 x)
  | some (.slice e),some .string,some x=>match P.underlying e with
   | some (.int .u8)=>some (MF false x)
   | some (.int .i32)=>some (MF true x)
   | _=>none
  | _,_,_=>none
 | .nilCheck x=>(ZR x).map QT
 | .makeInterface t x=>match P.underlying t,ZR x with
  | some (.interface _),_=>none
  | some _,some x=>some (VD t x)
  | _,_=>none
 | .makeFunc f first captured=>if first.size=0 then(Jw captured.toList).map (NY f) else none
 | .typeAssert x _ t ok=>match P.underlying t,ZR x,(P.info? t).bind (·.zero) with
  | some (.interface _),_,_=>none
  | some _,some x,some z=>if T5 z then some (Z5z x t (ofV z) ok) else none
  | _,_,_=>none
 | .slice t x lo hi mx=>match P.underlying t,ZR x,CC lo,CC hi,CC mx with
  | some (.slice e),some x,some lo,some hi,some mx=>(QV P e).map (CZ x lo hi mx)
  | some .string,some x,some lo,some hi,some none=>some (Z0a x lo hi)
  | some (.array n e),some x,some lo,some hi,some mx=>(QV P e).map (Z0b x lo hi mx n)
  | _,_,_,_,_=>none
 | .load t a=>match ZR a,BU P t,QV P t with
  | some a,some ag,some s=>some (oL a ag s)
  | _,_,_=>none
 | .store t a x=>match ZR a,ZR x,QV P t with
  | some a,some x,some s=>some (oS a x s)
  | _,_,_=>none
 | .alloc t=>if Fq t=true then(K5 P t).map ZQ else none
 | .box t x=>if Fq t=true then(ZR x).map Zv else none
 | .buildSlice t len parts=>match P.underlying t with
  | some (.slice e)=>match QV P e,K5 P e with
   | some s,some z=>if len*s<=4096/\z.length=s/\s≠0/\Fq e=true then(F1 (fun i=>some (i*s,s)) parts.toList).map (YE (rep z len) len s) else none
   | _,_=>none
  | _=>none
 | .makeSlice t l c=>match P.underlying t,ZR l,ZR c with
  | some (.slice e),some l,some c=>match P.info? e,K5 P e with
   | some i,some z=>if z.length=i.size/\i.size≠0/\Fq e=true then some (NX z i.size i.bytes l c) else none
   | _,_=>none
  | _,_,_=>none
 | .call c=>match NK P c with
  | some f=>some f
  | none=>DK P c
 | .range t x=>match P.underlying t,ZR x with
  | some .string,some x=>some (VA x)
  | _,_=>none
 | .next x s=>if s then(ZR x).map VC else none
 | _=>none
def NB (ops:Array Oper):Option (Nat×Bool)->Option (Option (Nat×Bool))
 | none=>some none
 | some (j,want)=>match(ops[j]?).bind (·.dst) with
  | some t=>some (some (t,want))
  | none=>none
def KR (P:Program)(ops:Array Oper)(o:Oper):Option Stp:=
 match NB ops o.guard with
 | some g=>some ⟨o.dst,g,(Y7 P o.op).getD VB⟩
 | none=>none
def BT (P:Program)(ops:Array Oper):List Oper->Option (List Stp)
 | []=>some []
 | o::l=>match KR P ops o,BT P ops l with
  | some a,some b=>some (a::b)
  | _,_=>none
inductive Kd where
 | P | M | X
 | L (a:Operand)
 | S (a:Operand)
def Y1 (P:Program):Op->Kd
 | .convert s _ _=>match P.underlying s with
  | some (.slice _)=>.X
  | _=>.P
 | .slice t _ _ _ _=>match P.underlying t with
  | some (.array _ _)=>.X
  | _=>.P
 | .load _ a=>.L a
 | .store _ a _=>.S a
 | .alloc _ | .box _ _ | .buildSlice _ _ _ | .makeSlice _ _ _ | .range _ _=>.M
 | .next _ _=>.X
 | .binOp _ t _ _ _=>match P.underlying t with
  | some (.pointer _)=>.X
  | _=>.P
 | .call c=>match c.callee with
  | .builtin .append=>.X
  | .builtin .clear=>.X
  | .builtin _=>.P
  | _=>if(NK P c).isSome then .P else .X
 | _=>.P
def N7 (as:List Nat):List Edge->Nat
 | []=>0
 | e::l=>bif Region.binds .any e then 2^e.on ||| (as.getD e.on 0 ||| N7 as l) else N7 as l
def PH:List Oper->List Nat->List Nat
 | [],done=>done
 | o::l,done=>PH l (done++[N7 done o.after.toList])
def WC (as:List Nat)(j:Nat)(o:Oper):Bool:=
 Nat.beq (as.getD j 0) (N7 as o.after.toList)&&o.after.toList.all (fun e=> !Region.binds .any e || Nat.blt e.on j)
def Mj:List Operand->List Nat
 | []=>[]
 | .tmp t::l=>t::Mj l
 | _::l=>Mj l
def ES (ops:Array Oper)(o:Oper):List Nat:=
 Mj o.op.operands.toList++(match o.guard with
  | some (j,_)=>match(ops[j]?).bind (·.dst) with
   | some t=>[t]
   | none=>[]
  | none=>[])
def Z08:Option Nat->Option Nat->Bool
 | some t,some u=> !Nat.beq t u
 | _,_=>true
def P9 (t:Option Nat)(l:List Nat):Bool:=
 match t with
 | some t=>Yj t l
 | none=>false
def DB (i j:Nat):List (Nat×Nat)->Bool
 | []=>false
 | p::l=>(Nat.beq p.1 i&&Nat.beq p.2 j) || DB i j l
def KB (k:Nat)(ps:List (Nat×Nat)):Bool:=ps.any fun p=>Nat.beq p.1 k || Nat.beq p.2 k
def EX (fl i:Nat):Bool:=fl.testBit (2*i)&& !fl.testBit (2*i+1)
def GS (fl i:Nat):Bool:=fl.testBit (2*i+1)
def W6 (fl:Nat)(ps:List (Nat×Nat))(i j:Nat):Kd->Kd->Bool
 | .P,_=>true
 | _,.P=>true
 | .S _,.S _=>false
 | .S _,.X=>false
 | .X,.S _=>false
 | .S _,.L _=>DB i j ps
 | .L _,.S _=>DB j i ps
 | .X,.X=>EX fl i&&EX fl j
 | .X,.M=>EX fl i || GS fl i
 | .X,.L _=>EX fl i || DB i j ps
 | .L _,.X=>EX fl j || DB j i ps
 | _,.X=>EX fl j
 | _,_=>true
def MC (P:Program)(ops:Array Oper)(as:List Nat)(fl:Nat)(ps:List (Nat×Nat))(i j:Nat)(x y:Oper):Bool:=
 Z08 x.dst y.dst&&((as.getD j 0).testBit i || !P9 x.dst (ES ops y))&&(!P9 y.dst (ES ops x) || ((as.getD j 0).testBit i&& !KB i ps))&&
  ((as.getD j 0).testBit i || W6 fl ps i j (Y1 P x.op) (Y1 P y.op))
def Zbr (P:Program)(ops:Array Oper)(as:List Nat)(fl:Nat)(ps:List (Nat×Nat)):Bool:=
 (List.range ops.size).all fun j => match ops[j]? with
  | some y=>WC as j y&&(!P9 y.dst (ES ops y) || !KB j ps)&&(List.range j).all fun i=>match ops[i]? with
   | some x=>MC P ops as fl ps i j x y
   | none=>false
  | none=>false
def Kd.isP:Kd->Bool
 | .P=>true
 | _=>false
def Kd.isX:Kd->Bool
 | .X=>true
 | _=>false
def Kd.isL:Kd->Bool
 | .L _=>true
 | _=>false
def Kd.isM:Kd->Bool
 | .M=>true
 | _=>false
def Z85 (ks:List Kd)(as:List Nat)(ys:List Bool):Nat:=
 (List.range ks.length).foldr (fun i r => if (ks.getD i .P).isX && (List.range ks.length).any (fun j => !Nat.beq i j && !(ks.getD j .P).isP && !((ks.getD j .P).isL && ys.getD i false) && !(as.getD (max i j) 0).testBit (min i j)) then
  (if(List.range ks.length).all (fun j=>Nat.beq i j || (ks.getD j .P).isP || ((ks.getD j .P).isL&&ys.getD i false) || (as.getD (max i j) 0).testBit (min i j) || (Nat.blt i j&&(ks.getD j .P).isM)) then 2^(2*i+1) else 2^(2*i)) ||| r else r) 0
def Z5f (ks:List Kd)(as:List Nat)(ys:List Bool):List (Nat×Nat):=
 (List.range ks.length).flatMap fun j => (List.range j).flatMap fun i => if (as.getD j 0).testBit i then [] else match ks.getD i .P, ks.getD j .P with
  | .S _,.L _=>[(i,j)]
  | .L _,.S _=>[(j,i)]
  | .X,.L _=>if ys.getD i false then[(i,j)] else[]
  | .L _,.X=>if ys.getD j false then[(j,i)] else[]
  | _,_=>[]
def Zlo (P:Program):Op->Bool
 | .call c=>match c.callee with
  | .value _=>c.argTypes.any fun t=>match P.underlying t with
   | some (.pointer _)=>true
   | _=>false
  | _=>false
 | _=>false
def J9 (P:Program)(ops:Array Oper)(i:Nat):Option Opd:=
 match ops[i]? with
 | some o=>match Y1 P o.op with
  | .L a=>ZR a
  | .S a=>ZR a
  | _=>none
 | none=>none
def GQ (P:Program)(ops:Array Oper)(i:Nat):Bool:=
 match ops[i]? with
 | some o=>(Y1 P o.op).isX
 | none=>false
def U6 (P:Program)(ops:Array Oper):List (Nat×Nat)->Option (List (Opd×Opd))
 | []=>some []
 | p::l=>bif GQ P ops p.1 then U6 P ops l else match J9 P ops p.1,J9 P ops p.2,U6 P ops l with
  | some a,some b,some r=>some ((a,b)::r)
  | _,_,_=>none
def U5 (P:Program)(ops:Array Oper):List (Nat×Nat)->Option (List (Nat×Opd))
 | []=>some []
 | p::l=>bif GQ P ops p.1 then(match J9 P ops p.2,U5 P ops l with
  | some b,some r=>some ((p.1,b)::r)
  | _,_=>none) else U5 P ops l
def DZ (fl i:Nat):Kd->Fl
 | .P=>.pure
 | .S _=>.any
 | .X=>if GS fl i then .tn else if EX fl i then .mk else .any
 | _=>.mk
def HQ (P:Program)(fl:Nat):Nat->List Oper->List Stp->List (Fl×Stp)
 | i,o::os,s::l=>(DZ fl i (Y1 P o.op),s)::HQ P fl (i+1) os l
 | _,_,_=>[]
def Zcp (P:Program)(ops:Array Oper)(as:List Nat)(fl:Nat)(ps:List (Nat×Nat)):Option CT:=
 match BT P ops ops.toList,U6 P ops ps,U5 P ops ps with
 | some l,some qs,some ls=>if Zbr P ops as fl ps then some (match ls with
  | []=>Yv (HQ P fl 0 ops.toList l) qs
  | _=>Zsc (HQ P fl 0 ops.toList l) qs ls) else none
 | _,_,_=>none
def Zp4:Op->Bool
 | .call c=>match c.callee with
  | .builtin .append=>true
  | _=>false
 | _=>false
def Z3f (P:Program)(ops:Array Oper)(as:List Nat):List Bool:=
 (List.range ops.size).map fun i => match ops[i]? with
  | some o=>Zlo P o.op || (Zp4 o.op&&(List.range ops.size).all fun j=> !Nat.blt i j || (as.getD j 0).testBit i || (match ops[j]? with
   | some y=> !(Y1 P y.op).isL
   | none=>true))
  | none=>false
def Z2o (P:Program)(ops:Array Oper):Option CT:=
 Zcp P ops (PH ops.toList []) (Z85 (ops.toList.map fun o=>Y1 P o.op) (PH ops.toList []) (Z3f P ops (PH ops.toList []))) (Z5f (ops.toList.map fun o=>Y1 P o.op) (PH ops.toList []) (Z3f P ops (PH ops.toList [])))
def GU:Code->Nat
 | .region id _ _=>id+1
 | .seq a b=>match GU a with
  | 0=>GU b
  | n=>n
 | .cond _ a b=>match GU a with
  | 0=>GU b
  | n=>n
 | .block _ c=>GU c
 | .loop c=>GU c
 | _=>0
def A9 (P:Program):Bool->Code->Option CT
 | _,.skip=>some cK
 | _,.region _ ops false=>(BT P ops ops.toList).map Z1
 | _,.region _ ops true=>Z2o P ops
 | rg,.seq a b=>match A9 P rg a,A9 P rg b with
  | some a,some b=>some (cQ a b)
  | _,_=>none
 | rg,.cond c' x y=>match ZR c',A9 P rg x,A9 P rg y with
  | some c,some a,some b=>some (cJ (2*GU (.cond c' x y)+1) c a b)
  | _,_,_=>none
 | rg,.block id c=>(A9 P rg c).map (ZS id)
 | rg,.loop c=>(A9 P rg c).map (QW (2*GU c))
 | _,.exit id=>some (QJ id)
 | _,.label _=>some cK
 | _,.ret=>some cZ
 | true,.rangeFunc f ps a b=>match ZR f,A9 P false a,A9 P false b with
  | some f,some a,some b=>if ps.size=2 then some (S4 f ps.toList a b) else none
  | _,_,_=>none
 | _,_=>none
abbrev Zsd (P:Program):Code->Option CT:=A9 P true
def H2 (P:Program):List ResultVar->Option (List IRes)
 | []=>some []
 | .tmp t::l=>(H2 P l).map (.tmp t:: ·)
 | .cell a t::l=>match BU P t,QV P t,H2 P l with
  | some ag,some n,some r=>some (.cell a ag n::r)
  | _,_,_=>none
def K6 (P:Program)(f:FuncId):Option (Env->cT->cT):=
 match P.funcs[f]? with
 | some fn=>match fn.body with
  | some c => if fn.name = "runtime.NumGoroutine" then none else
   match Zsd P c,H2 P fn.results.toList with
   | some c,some r=>some (ZJ fn.ntmps r c)
   | _,_=>none
  | none=>none
 | none=>none
end Go.Aug
