import Derived.Test.YthnhboimcidhgaaGreatDoorEvGt
import GoSem.Extern.Table
namespace Go.Aug
open Go
def ofV1:Value->DV
 | .slice none 0 0=>.lst [] 0 (some 0)
 | x=>.v x
def ofV:Value->DV
 | .agg cs=>.agg (cs.toList.map ofV1)
 | x=>ofV1 x
def Zuq:Sh->Opd->Opd
 | .slice,.c (.lst [] 0 (some 0))=>.c (.v (.slice none 0 0))
 | _,x=>x
def okV:Value->Bool
 | .agg cs=>cs.toList.all Value.oneCell'
 | .tuple _=>false
 | _=>true
def Qu:Operand->Option Opd
 | .tmp t=>some (.t t)
 | .const v=>if okV v then some (.c (ofV v)) else none
 | .func f=>some (.f f)
 | .global g=>(Zz4 g).map fun cs=>.c (.vptr cs)
def Z2o:List Operand->Option (List Opd)
 | []=>some []
 | x::l=>match Qu x,Z2o l with
  | some a,some b=>some (a::b)
  | _,_=>none
def Zgf:Option Operand->Option (Option Opd)
 | none=>some none
 | some x=>(Qu x).map some
def Z6g (z:Value):Option (List AV):=
 if z.cells.toList.all Value.oneCell' then some (z.cells.toList.map fun x=>.d (ofV1 x)) else none
def Zln (P:Program)(t:TypeId):Option (List AV):=
 match P.info? t with
 | some i=>match i.zero with
  | some z=>Z6g z
  | none=>none
 | none=>none
def Z0b (P:Program)(t:TypeId):Option Nat:=(P.info? t).map (·.size)
def Zf4 (P:Program)(t:TypeId):Option Bool:=
 match P.underlying t with
 | some (.struct _) | some (.array _ _)=>some true
 | some _=>some false
 | none=>none
def Z42 (place:Nat->Option (Nat×Nat)):List (Nat×Operand)->Option (List (Nat×Nat×Opd))
 | []=>some []
 | (i,x)::l=>match place i,Qu x,Z42 place l with
  | some (o,s),some x,some r=>some ((o,s,x)::r)
  | _,_,_=>none
def Zu7 (P:Program)(fields:Array Field)(i:Nat):Option (Nat×Nat):=
 match fields[i]? with
 | some f=>(Z0b P f.type).map fun s=>(f.offset,s)
 | none=>none
def Z1p (P:Program):Nat->TypeId->Nat->Option (List (Nat×Lf))
 | 0,_,_=>none
 | d+1,t,off=>
  match P.underlying t with
  | some .bool=>some [(off,.bool)]
  | some (.int _)=>some [(off,.int)]
  | some .string=>some [(off,.str)]
  | some (.struct fields)=>
   if P.stoodInHeld t then none else leafFields (Z1p P d) (Z0b P) (Z0b P t) off fields.toList
  | some (.array len elem)=>if(Z0b P elem).isNone then none else leafItems (Z1p P d) (Z0b P elem) (Z0b P t) elem off (List.range len)
  | _=>none
where
 leafFields (go:TypeId->Nat->Option (List (Nat×Lf))) (size:TypeId->Option Nat) (n:Option Nat) (off:Nat):List Field->Option (List (Nat×Lf))
 | []=>some []
 | f::fs=>match go f.type (off+f.offset),leafFields go size n off fs,size f.type,n with
  | some l, some r, some s, some n => if f.name = "_" ∨ n < f.offset + s ∨ s = 0 then none else some (l ++ r)
  | _,_,_,_=>none
 leafItems (go:TypeId->Nat->Option (List (Nat×Lf))) (s n:Option Nat) (elem:TypeId) (off:Nat):List Nat->Option (List (Nat×Lf))
 | []=>some []
 | i::is=>match s,n with
  | some s',some n'=>match go elem (off+i*s'),leafItems go s n elem off is with
   | some l,some r=>if n'<i*s'+s'∨s'=0 then none else some (l++r)
   | _,_=>none
  | _,_=>none
def cSh (P:Program)(t:TypeId):Option Sh:=
 match P.underlying t with
 | some .bool=>some (.leaf .bool)
 | some (.interface _)=>some .iface
 | some (.slice _)=>some .slice
 | some (.struct _) | some (.array _ _)=>if P.eqGuardType P.depth t then none else match Z0b P t with
  | some n=>(Z1p P 6 t 0).map (.flds n)
  | none=>none
 | _=>none
def Y69 (P:Program)(op:BinOp)(t:TypeId)(x y:Opd):Option OpF:=
 match op with
 | .eql | .neq=>match P.underlying t with
  | some (.int _) | some .string=>some (oB op x y)
  | some (.pointer e)=>if(P.info? e).isSome then some (Zvh (op==.neq) x y) else none
  | _=>(cSh P t).map fun sh=>oEq (op==.neq) sh x (Zuq sh y)
 | _=>some (oB op x y)
def Zik (P:Program)(c:Call):Option OpF:=
 match Z2o c.args.toList,c.argTypes.toList with
 | some [b, x], [t, u] => match P.underlying t, P.underlying u with
   | some (.slice e),some ud=>match P.info? e,Zln P e with
    | some i,some z=>if i.size=0∨z.length≠i.size∨okT e=false then none else match ud with
     | .slice _=>some (Z3c false i.size i.bytes b x)
     | .string=>if i.size=1 then some (Z3c true i.size i.bytes b x) else none
     | _=>none
    | _,_=>none
   | _,_=>none
 | _,_=>none
def Za0 (P:Program)(c:Call):Option OpF:=
 match c.callee with
 | .value f=>match Qu f,Z2o c.args.toList with
  | some f,some l=>some (oK f l)
  | _,_=>none
 | .builtin b=>
  match b,Z2o c.args.toList,c.argTypes.toList with
  | .len,some [x],t::_=>match P.underlying t with
   | some .string=>some (Zvg x)
   | some (.slice _)=>some (Z31 x)
   | some (.array n _)=>some (Zyb n)
   | _=>none
  | .min,some l,_=>some (oMM false l)
  | .max,some l,_=>some (oMM true l)
  | .append,_,_=>Zik P c
  | _,_,_=>none
 | _=>none
def Y6e (P:Program)(g:FuncId):Option Xt:=
 match P.funcs[g]? with
 | some fn=>
  if fn.body.isNone=true/\(Extern.findNext fn).isNone=true then
   (if fn.name = "internal/abi.NoEscape" then some .esc else if fn.name = "internal/bytealg.IndexByteString" then some .ixb else if fn.name = "internal/bytealg.CountString" then some .cnt else none)
  else none
 | none=>none
def Zbx (P:Program)(c:Call):Option OpF:=
 match c.callee with
 | .value (.func g)=>match Y6e P g,Z2o c.args.toList with
  | some k,some l=>some (oXt k l)
  | _,_=>none
 | _=>none
def cOp (P:Program):Op->Option OpF
 | .move x | .assign x=>(Qu x).map oV
 | .pick c a b=>match Qu c,Qu a,Qu b with
  | some c,some a,some b=>some (Y1 c a b)
  | _,_,_=>none
 | .build t parts=>match P.info? t,P.underlying t with
  | some it,some (.array _ e)=>match it.zero,P.info? e with
   | some z,some ie=>match Z6g z,Z42 (fun i=>some (i*ie.size,ie.size)) parts.toList with
    | some zs,some ps=>some (Yf zs ps)
    | _,_=>none
   | _,_=>none
  | some it,some (.struct fields)=>match it.zero,fields.toList.mapM (fun f=>(P.info? f.type).map fun i=>(f.offset,i.size)) with
   | some z,some places=>match Z6g z,Z42 (fun i=>places.toArray[i]?) parts.toList with
    | some zs,some ps=>some (Yf zs ps)
    | _,_=>none
   | _,_=>none
  | _,_=>none
 | .fieldAddr t x i=>match P.underlying t,Qu x with
  | some (.struct fields),some x=>match Zu7 P fields i with
   | some (o,s)=>if s=0 then none else some (oA x o)
   | none=>none
  | _,_=>none
 | .field t x i=>match P.underlying t,Qu x with
  | some (.struct fields),some x=>match fields[i]? with
   | some f=>match Zf4 P f.type,Z0b P f.type with
    | some ag,some s=>if ag=false/\s≠1 then none else some (Z8v x f.offset ag s)
    | _,_=>none
   | none=>none
  | _,_=>none
 | .indexAddr t x ix=>match P.underlying t,Qu x,Qu ix with
  | some (.array n e),some x,some ix=>(Z0b P e).map (Zis x ix n)
  | some (.slice e),some x,some ix=>(Z0b P e).map (Z00 x ix)
  | _,_,_=>none
 | .index t x ix=>match P.underlying t,Qu x,Qu ix with
  | some (.array n e),some x,some ix=>match Zf4 P e,Z0b P e with
   | some ag,some s=>if ag=false/\s≠1 then none else some (Y4w x ix n s ag s)
   | _,_=>none
  | some .string,some x,some ix=>some (Y4x x ix)
  | _,_,_=>none
 | .extract x i=>(Qu x).map fun x=>Y3c x i
 | .unOp op _ x=>(Qu x).map (oUn op)
 | .binOp op t x y _=>match Qu x,Qu y with
  | some x,some y=>Y69 P op t x y
  | _,_=>none
 | .convert s d x=>match P.underlying s,P.underlying d,Qu x with
  | some (.int _),some (.int k),some x=>some (Zcq k x)
  | some (.int _),some .string,some x | some .string,some .string,some x=>some (Zsp x)
  | some (.slice e),some .string,some x=>match P.underlying e with
   | some (.int .u8)=>some (Zjy false x)
   | some (.int .i32)=>some (Zjy true x)
   | _=>none
  | _,_,_=>none
 | .nilCheck x=>(Qu x).map Q6
 | .makeInterface t x=>match P.underlying t,Qu x with
  | some (.interface _),_=>none
  | some _,some x=>some (Y3b t x)
  | _,_=>none
 | .makeFunc f first captured=>if first.size=0 then(Z2o captured.toList).map (Zyc f) else none
 | .typeAssert x _ t ok=>match P.underlying t,Qu x,(P.info? t).bind (·.zero) with
  | some (.interface _),_,_=>none
  | some _,some x,some z=>if okV z then some (Y18 x t (ofV z) ok) else none
  | _,_,_=>none
 | .slice t x lo hi mx=>match P.underlying t,Qu x,Zgf lo,Zgf hi,Zgf mx with
  | some (.slice e),some x,some lo,some hi,some mx=>(Z0b P e).map (Zp2 x lo hi mx)
  | some .string,some x,some lo,some hi,some none=>some (Y4u x lo hi)
  | some (.array n e),some x,some lo,some hi,some mx=>(Z0b P e).map (Y4v x lo hi mx n)
  | _,_,_,_,_=>none
 | .load t a=>match Qu a,Zf4 P t,Z0b P t with
  | some a,some ag,some s=>some (oL a ag s)
  | _,_,_=>none
 | .store t a x=>match Qu a,Qu x,Z0b P t with
  | some a,some x,some s=>some (oS a x s)
  | _,_,_=>none
 | .alloc t=>if okT t=true then(Zln P t).map J8 else none
 | .box t x=>if okT t=true then(Qu x).map Q3 else none
 | .buildSlice t len parts=>match P.underlying t with
  | some (.slice e)=>match Z0b P e,Zln P e with
   | some s,some z=>if len*s<=4096/\z.length=s/\s≠0/\okT e=true then(Z42 (fun i=>some (i*s,s)) parts.toList).map (Z2g (rep z len) len s) else none
   | _,_=>none
  | _=>none
 | .makeSlice t l c=>match P.underlying t,Qu l,Qu c with
  | some (.slice e),some l,some c=>match P.info? e,Zln P e with
   | some i,some z=>if z.length=i.size/\i.size≠0/\okT e=true then some (Znk z i.size i.bytes l c) else none
   | _,_=>none
  | _,_,_=>none
 | .call c=>match Zbx P c with
  | some f=>some f
  | none=>Za0 P c
 | .range t x=>match P.underlying t,Qu x with
  | some .string,some x=>some (Zp3 x)
  | _,_=>none
 | .next x s=>if s then(Qu x).map Zvf else none
 | _=>none
def Zav (ops:Array Oper):Option (Nat×Bool)->Option (Option (Nat×Bool))
 | none=>some none
 | some (j,want)=>match(ops[j]?).bind (·.dst) with
  | some t=>some (some (t,want))
  | none=>none
def Zij (P:Program)(ops:Array Oper)(o:Oper):Option Stp:=
 match Zav ops o.guard with
 | some g=>some ⟨o.dst,g,(cOp P o.op).getD Zve⟩
 | none=>none
def Z1i (P:Program)(ops:Array Oper):List Oper->Option (List Stp)
 | []=>some []
 | o::l=>match Zij P ops o,Z1i P ops l with
  | some a,some b=>some (a::b)
  | _,_=>none
inductive Kd where
 | P | M | X
 | L (a:Operand)
 | S (a:Operand)
def Z06 (P:Program):Op->Kd
 | .convert s _ _=>match P.underlying s with
  | some (.slice _)=>.X
  | _=>.P
 | .slice t _ _ _ _=>match P.underlying t with
  | some (.array _ _)=>.X
  | _=>.P
 | .load _ a=>.L a
 | .store _ a _=>.S a
 | .alloc _ | .box _ _ | .buildSlice _ _ _ | .makeSlice _ _ _ | .range _ _=>.M
 | .next _ _=>.X
 | .binOp _ t _ _ _=>match P.underlying t with
  | some (.pointer _)=>.X
  | _=>.P
 | .call c=>match c.callee with
  | .builtin .append=>.X
  | .builtin _=>.P
  | _=>if(Zbx P c).isSome then .P else .X
 | _=>.P
def Z3z (as:List Nat):List Edge->Nat
 | []=>0
 | e::l=>bif Region.binds .any e then 2^e.on ||| (as.getD e.on 0 ||| Z3z as l) else Z3z as l
def Y0c:List Oper->List Nat->List Nat
 | [],done=>done
 | o::l,done=>Y0c l (done++[Z3z done o.after.toList])
def Zi8 (as:List Nat)(j:Nat)(o:Oper):Bool:=
 Nat.beq (as.getD j 0) (Z3z as o.after.toList)&&o.after.toList.all (fun e=> !Region.binds .any e || Nat.blt e.on j)
def Za4:List Operand->List Nat
 | []=>[]
 | .tmp t::l=>t::Za4 l
 | _::l=>Za4 l
def Z1v (ops:Array Oper)(o:Oper):List Nat:=
 Za4 o.op.operands.toList++(match o.guard with
  | some (j,_)=>match(ops[j]?).bind (·.dst) with
   | some t=>[t]
   | none=>[]
  | none=>[])
def Zy7:Option Nat->Option Nat->Bool
 | some t,some u=> !Nat.beq t u
 | _,_=>true
def Zyt (t:Option Nat)(l:List Nat):Bool:=
 match t with
 | some t=>Z1b t l
 | none=>false
def Zk4 (i j:Nat):List (Nat×Nat)->Bool
 | []=>false
 | p::l=>(Nat.beq p.1 i&&Nat.beq p.2 j) || Zk4 i j l
def Zvv (k:Nat)(ps:List (Nat×Nat)):Bool:=ps.any fun p=>Nat.beq p.1 k || Nat.beq p.2 k
def flM (fl i:Nat):Bool:=fl.testBit (2*i)&& !fl.testBit (2*i+1)
def flT (fl i:Nat):Bool:=fl.testBit (2*i+1)
def Zpd (fl:Nat)(ps:List (Nat×Nat))(i j:Nat):Kd->Kd->Bool
 | .P,_=>true
 | _,.P=>true
 | .S _,.S _=>false
 | .S _,.X=>false
 | .X,.S _=>false
 | .S _,.L _=>Zk4 i j ps
 | .L _,.S _=>Zk4 j i ps
 | .X,.X=>flM fl i&&flM fl j
 | .X,.M=>flM fl i || flT fl i
 | .X,.L _=>flM fl i || Zk4 i j ps
 | .L _,.X=>flM fl j || Zk4 j i ps
 | _,.X=>flM fl j
 | _,_=>true
def Za9 (P:Program)(ops:Array Oper)(as:List Nat)(fl:Nat)(ps:List (Nat×Nat))(i j:Nat)(x y:Oper):Bool:=
 Zy7 x.dst y.dst&&((as.getD j 0).testBit i || !Zyt x.dst (Z1v ops y))&&(!Zyt y.dst (Z1v ops x) || ((as.getD j 0).testBit i&& !Zvv i ps))&&
  ((as.getD j 0).testBit i || Zpd fl ps i j (Z06 P x.op) (Z06 P y.op))
def Zpq (P:Program)(ops:Array Oper)(as:List Nat)(fl:Nat)(ps:List (Nat×Nat)):Bool:=
 (List.range ops.size).all fun j => match ops[j]? with
  | some y=>Zi8 as j y&&(!Zyt y.dst (Z1v ops y) || !Zvv j ps)&&(List.range j).all fun i=>match ops[i]? with
   | some x=>Za9 P ops as fl ps i j x y
   | none=>false
  | none=>false
def Kd.isP:Kd->Bool
 | .P=>true
 | _=>false
def Kd.isX:Kd->Bool
 | .X=>true
 | _=>false
def Kd.isL:Kd->Bool
 | .L _=>true
 | _=>false
def Kd.isM:Kd->Bool
 | .M=>true
 | _=>false
def Y7u (ks:List Kd)(as:List Nat)(ys:List Bool):Nat:=
 (List.range ks.length).foldr (fun i r => if (ks.getD i .P).isX && (List.range ks.length).any (fun j => !Nat.beq i j && !(ks.getD j .P).isP && !((ks.getD j .P).isL && ys.getD i false) && !(as.getD (max i j) 0).testBit (min i j)) then
  (if(List.range ks.length).all (fun j=>Nat.beq i j || (ks.getD j .P).isP || ((ks.getD j .P).isL&&ys.getD i false) || (as.getD (max i j) 0).testBit (min i j) || (Nat.blt i j&&(ks.getD j .P).isM)) then 2^(2*i+1) else 2^(2*i)) ||| r else r) 0
def Y6s (ks:List Kd)(as:List Nat)(ys:List Bool):List (Nat×Nat):=
 (List.range ks.length).flatMap fun j => (List.range j).flatMap fun i => if (as.getD j 0).testBit i then [] else match ks.getD i .P, ks.getD j .P with
  | .S _,.L _=>[(i,j)]
  | .L _,.S _=>[(j,i)]
  | .X,.L _=>if ys.getD i false then[(i,j)] else[]
  | .L _,.X=>if ys.getD j false then[(j,i)] else[]
  | _,_=>[]
def Y0z (P:Program):Op->Bool
 | .call c=>match c.callee with
  | .value _=>c.argTypes.any fun t=>match P.underlying t with
   | some (.pointer _)=>true
   | _=>false
  | _=>false
 | _=>false
def addrOf (P:Program)(ops:Array Oper)(i:Nat):Option Opd:=
 match ops[i]? with
 | some o=>match Z06 P o.op with
  | .L a=>Qu a
  | .S a=>Qu a
  | _=>none
 | none=>none
def Zd1 (P:Program)(ops:Array Oper)(i:Nat):Bool:=
 match ops[i]? with
 | some o=>(Z06 P o.op).isX
 | none=>false
def Zlq (P:Program)(ops:Array Oper):List (Nat×Nat)->Option (List (Opd×Opd))
 | []=>some []
 | p::l=>bif Zd1 P ops p.1 then Zlq P ops l else match addrOf P ops p.1,addrOf P ops p.2,Zlq P ops l with
  | some a,some b,some r=>some ((a,b)::r)
  | _,_,_=>none
def Zlp (P:Program)(ops:Array Oper):List (Nat×Nat)->Option (List (Nat×Opd))
 | []=>some []
 | p::l=>bif Zd1 P ops p.1 then(match addrOf P ops p.2,Zlp P ops l with
  | some b,some r=>some ((p.1,b)::r)
  | _,_=>none) else Zlp P ops l
def Zml (fl i:Nat):Kd->Fl
 | .P=>.pure
 | .S _=>.any
 | .X=>if flT fl i then .tn else if flM fl i then .mk else .any
 | _=>.mk
def Z49 (P:Program)(fl:Nat):Nat->List Oper->List Stp->List (Fl×Stp)
 | i,o::os,s::l=>(Zml fl i (Z06 P o.op),s)::Z49 P fl (i+1) os l
 | _,_,_=>[]
def Zu8 (P:Program)(ops:Array Oper)(as:List Nat)(fl:Nat)(ps:List (Nat×Nat)):Option CT:=
 match Z1i P ops ops.toList,Zlq P ops ps,Zlp P ops ps with
 | some l,some qs,some ls=>if Zpq P ops as fl ps then some (match ls with
  | []=>Yg (Z49 P fl 0 ops.toList l) qs
  | _=>Zdy (Z49 P fl 0 ops.toList l) qs ls) else none
 | _,_,_=>none
def Y5f:Op->Bool
 | .call c=>match c.callee with
  | .builtin .append=>true
  | _=>false
 | _=>false
def Y6d (P:Program)(ops:Array Oper)(as:List Nat):List Bool:=
 (List.range ops.size).map fun i => match ops[i]? with
  | some o=>Y0z P o.op || (Y5f o.op&&(List.range ops.size).all fun j=> !Nat.blt i j || (as.getD j 0).testBit i || (match ops[j]? with
   | some y=> !(Z06 P y.op).isL
   | none=>true))
  | none=>false
def Zdz (P:Program)(ops:Array Oper):Option CT:=
 Zu8 P ops (Y0c ops.toList []) (Y7u (ops.toList.map fun o=>Z06 P o.op) (Y0c ops.toList []) (Y6d P ops (Y0c ops.toList []))) (Y6s (ops.toList.map fun o=>Z06 P o.op) (Y0c ops.toList []) (Y6d P ops (Y0c ops.toList [])))
def Z21:Code->Nat
 | .region id _ _=>id+1
 | .seq a b=>match Z21 a with
  | 0=>Z21 b
  | n=>n
 | .cond _ a b=>match Z21 a with
  | 0=>Z21 b
  | n=>n
 | .block _ c=>Z21 c
 | .loop c=>Z21 c
 | _=>0
def Z07 (P:Program):Bool->Code->Option CT
 | _,.skip=>some cK
 | _,.region _ ops false=>(Z1i P ops ops.toList).map cOz
 | _,.region _ ops true=>Zdz P ops
 | rg,.seq a b=>match Z07 P rg a,Z07 P rg b with
  | some a,some b=>some (cQ a b)
  | _,_=>none
 | rg,.cond c' x y=>match Qu c',Z07 P rg x,Z07 P rg y with
  | some c,some a,some b=>some (cJ (2*Z21 (.cond c' x y)+1) c a b)
  | _,_,_=>none
 | rg,.block id c=>(Z07 P rg c).map (Zp id)
 | rg,.loop c=>(Z07 P rg c).map (Z1l (2*Z21 c))
 | _,.exit id=>some (Z14 id)
 | _,.label _=>some cK
 | _,.ret=>some cZ
 | true,.rangeFunc f ps a b=>match Qu f,Z07 P false a,Z07 P false b with
  | some f,some a,some b=>if ps.size=2 then some (Zge f ps.toList a b) else none
  | _,_,_=>none
 | _,_=>none
abbrev Y68 (P:Program):Code->Option CT:=Z07 P true
def Zu5 (P:Program):List ResultVar->Option (List IRes)
 | []=>some []
 | .tmp t::l=>(Zu5 P l).map (.tmp t:: ·)
 | .cell a t::l=>match Zf4 P t,Z0b P t,Zu5 P l with
  | some ag,some n,some r=>some (.cell a ag n::r)
  | _,_,_=>none
def Z6h (P:Program)(f:FuncId):Option (Env->cT->cT):=
 match P.funcs[f]? with
 | some fn=>match fn.body with
  | some c => if fn.name = "runtime.NumGoroutine" then none else
   match Y68 P c,Zu5 P fn.results.toList with
   | some c,some r=>some (mkF fn.ntmps r c)
   | _,_=>none
  | none=>none
 | none=>none
end Go.Aug
