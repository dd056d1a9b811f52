import Derived.Test.YtmfdoekbjkgckaaGreatEvGt
import GoSem.Extern.Table
namespace Go.Aug
open Go
def ofV1:Value->DV
 | .slice none 0 0=>.lst [] 0 (some 0)
 | x=>.v x
def ofV:Value->DV
 | .agg cs=>.agg (cs.toList.map ofV1)
 | x=>ofV1 x
def H7:Sh->Opd->Opd
 | .slice,.c (.lst [] 0 (some 0))=>.c (.v (.slice none 0 0))
 | _,x=>x
def SS:Value->Bool
 | .agg cs=>cs.toList.all Value.oneCell'
 | .tuple _=>false
 | _=>true
def ZQ:Operand->Option Opd
 | .tmp t=>some (.t t)
 | .const v=>if SS v then some (.c (ofV v)) else none
 | .func f=>some (.f f)
 | .global g=>(Z12 g).map fun cs=>.c (.vptr cs)
def Jz:List Operand->Option (List Opd)
 | []=>some []
 | x::l=>match ZQ x,Jz l with
  | some a,some b=>some (a::b)
  | _,_=>none
def Cv:Option Operand->Option (Option Opd)
 | none=>some none
 | some x=>(ZQ x).map some
def N8 (z:Value):Option (List AV):=
 if z.cells.toList.all Value.oneCell' then some (z.cells.toList.map fun x=>.d (ofV1 x)) else none
def HW (P:Program)(t:TypeId):Option (List AV):=
 match P.info? t with
 | some i=>match i.zero with
  | some z=>N8 z
  | none=>none
 | none=>none
def QM (P:Program)(t:TypeId):Option Nat:=(P.info? t).map (·.size)
def BS (P:Program)(t:TypeId):Option Bool:=
 match P.underlying t with
 | some (.struct _) | some (.array _ _)=>some true
 | some _=>some false
 | none=>none
def EW (place:Nat->Option (Nat×Nat)):List (Nat×Operand)->Option (List (Nat×Nat×Opd))
 | []=>some []
 | (i,x)::l=>match place i,ZQ x,EW place l with
  | some (o,s),some x,some r=>some ((o,s,x)::r)
  | _,_,_=>none
def Z24 (P:Program)(fields:Array Field)(i:Nat):Option (Nat×Nat):=
 match fields[i]? with
 | some f=>(QM P f.type).map fun s=>(f.offset,s)
 | none=>none
def C9 (P:Program):Nat->TypeId->Nat->Option (List (Nat×Lf))
 | 0,_,_=>none
 | d+1,t,off=>
  match P.underlying t with
  | some .bool=>some [(off,.bool)]
  | some (.int _)=>some [(off,.int)]
  | some .string=>some [(off,.str)]
  | some (.struct fields)=>
   if P.stoodInHeld t then none else leafFields (C9 P d) (QM P) (QM P t) off fields.toList
  | some (.array len elem)=>if(QM P elem).isNone then none else leafItems (C9 P d) (QM P elem) (QM P t) elem off (List.range len)
  | _=>none
where
 leafFields (go:TypeId->Nat->Option (List (Nat×Lf))) (size:TypeId->Option Nat) (n:Option Nat) (off:Nat):List Field->Option (List (Nat×Lf))
 | []=>some []
 | f::fs=>match go f.type (off+f.offset),leafFields go size n off fs,size f.type,n with
  | some l, some r, some s, some n => if f.name = "_" ∨ n < f.offset + s ∨ s = 0 then none else some (l ++ r)
  | _,_,_,_=>none
 leafItems (go:TypeId->Nat->Option (List (Nat×Lf))) (s n:Option Nat) (elem:TypeId) (off:Nat):List Nat->Option (List (Nat×Lf))
 | []=>some []
 | i::is=>match s,n with
  | some s',some n'=>match go elem (off+i*s'),leafItems go s n elem off is with
   | some l,some r=>if n'<i*s'+s'∨s'=0 then none else some (l++r)
   | _,_=>none
  | _,_=>none
def TP (P:Program)(t:TypeId):Option Sh:=
 match P.underlying t with
 | some .bool=>some (.leaf .bool)
 | some (.interface _)=>some .iface
 | some (.slice _)=>some .slice
 | some (.struct _) | some (.array _ _)=>if P.eqGuardType P.depth t then none else match QM P t with
  | some n=>(C9 P 6 t 0).map (.flds n)
  | none=>none
 | _=>none
def Z27 (P:Program)(op:BinOp)(t:TypeId)(x y:Opd):Option ZV:=
 match op with
 | .eql | .neq=>match P.underlying t with
  | some (.int _) | some .string=>some (oB op x y)
  | some (.pointer e)=>if(P.info? e).isSome then some (K5 (op==.neq) x y) else none
  | _=>(TP P t).map fun sh=>F9 (op==.neq) sh x (H7 sh y)
 | _=>some (oB op x y)
def WD (P:Program)(c:Call):Option ZV:=
 match Jz c.args.toList,c.argTypes.toList with
 | some [b, x], [t, u] => match P.underlying t, P.underlying u with
   | some (.slice e),some ud=>match P.info? e,HW P e with
    | some i,some z=>if i.size=0∨z.length≠i.size∨F7 e=false then none else match ud with
     | .slice _=>some (YX false i.size i.bytes b x)
     | .string=>if i.size=1 then some (YX true i.size i.bytes b x) else none
     | _=>none
    | _,_=>none
   | _,_=>none
 | _,_=>none
def WC (P:Program)(c:Call):Option ZV:=
 match Jz c.args.toList,c.argTypes.toList with
 | some [x],[t]=>match P.underlying t with
  | some (.slice e)=>match HW P e with
   | some z=>if z.length=0 then none else some (Rq z x)
   | none=>none
  | _=>none
 | _,_=>none
def DE (P:Program)(c:Call):Option ZV:=
 match c.callee with
 | .value f=>match ZQ f,Jz c.args.toList with
  | some f,some l=>some (oK f l)
  | _,_=>none
 | .builtin b=>
  match b,Jz c.args.toList,c.argTypes.toList with
  | .len,some [x],t::_=>match P.underlying t with
   | some .string=>some (V8 x)
   | some (.slice _)=>some (AY x)
   | some (.array n _)=>some (XY n)
   | _=>none
  | .min,some l,_=>some (Bj false l)
  | .max,some l,_=>some (Bj true l)
  | .append,_,_=>WD P c
  | .clear,_,_=>WC P c
  | _,_,_=>none
 | _=>none
def Z2x (P:Program)(g:FuncId):Option Xt:=
 match P.funcs[g]? with
 | some fn=>
  if fn.body.isNone=true/\(Extern.findNext fn).isNone=true then
   (if fn.name = "internal/abi.NoEscape" then some .esc else if fn.name = "internal/bytealg.IndexByteString" then some .ixb else if fn.name = "internal/bytealg.CountString" then some .cnt else none)
  else none
 | none=>none
def NA (P:Program)(c:Call):Option ZV:=
 match c.callee with
 | .value (.func g)=>match Z2x P g,Jz c.args.toList with
  | some k,some l=>some (Z5b k l)
  | _,_=>none
 | _=>none
def Y7 (P:Program):Op->Option ZV
 | .move x | .assign x=>(ZQ x).map oV
 | .pick c a b=>match ZQ c,ZQ a,ZQ b with
  | some c,some a,some b=>some (YR c a b)
  | _,_,_=>none
 | .build t parts=>match P.info? t,P.underlying t with
  | some it,some (.array _ e)=>match it.zero,P.info? e with
   | some z,some ie=>match N8 z,EW (fun i=>some (i*ie.size,ie.size)) parts.toList with
    | some zs,some ps=>some (YS zs ps)
    | _,_=>none
   | _,_=>none
  | some it,some (.struct fields)=>match it.zero,fields.toList.mapM (fun f=>(P.info? f.type).map fun i=>(f.offset,i.size)) with
   | some z,some places=>match N8 z,EW (fun i=>places.toArray[i]?) parts.toList with
    | some zs,some ps=>some (YS zs ps)
    | _,_=>none
   | _,_=>none
  | _,_=>none
 | .fieldAddr t x i=>match P.underlying t,ZQ x with
  | some (.struct fields),some x=>match Z24 P fields i with
   | some (o,s)=>if s=0 then none else some (oA x o)
   | none=>none
  | _,_=>none
 | .field t x i=>match P.underlying t,ZQ x with
  | some (.struct fields),some x=>match fields[i]? with
   | some f=>match BS P f.type,QM P f.type with
    | some ag,some s=>if ag=false/\s≠1 then none else some (EK x f.offset ag s)
    | _,_=>none
   | none=>none
  | _,_=>none
 | .indexAddr t x ix=>match P.underlying t,ZQ x,ZQ ix with
  | some (.array n e),some x,some ix=>(QM P e).map (CY x ix n)
  | some (.slice e),some x,some ix=>(QM P e).map (F8 x ix)
  | _,_,_=>none
 | .index t x ix=>match P.underlying t,ZQ x,ZQ ix with
  | some (.array n e),some x,some ix=>match BS P e,QM P e with
   | some ag,some s=>if ag=false/\s≠1 then none else some (XZ x ix n s ag s)
   | _,_=>none
  | some .string,some x,some ix=>some (Z00 x ix)
  | _,_,_=>none
 | .extract x i=>(ZQ x).map fun x=>V9 x i
 | .unOp op _ x=>(ZQ x).map (Q9 op)
 | .binOp op t x y _=>match ZQ x,ZQ y with
  | some x,some y=>Z27 P op t x y
  | _,_=>none
 | .convert s d x=>match P.underlying s,P.underlying d,ZQ x with
  | some (.int _),some (.int k),some x=>some (GF k x)
  | some (.int _),some .string,some x | some .string,some .string,some x=>some (ST x)
  | some (.slice e),some .string,some x=>match P.underlying e with
   | some (.int .u8)=>some (Mz false x)
   | some (.int .i32)=>some (Mz true x)
   | _=>none
  | _,_,_=>none
 | .nilCheck x=>(ZQ x).map QJ
 | .makeInterface t x=>match P.underlying t,ZQ x with
  | some (.interface _),_=>none
  | some _,some x=>some (V7 t x)
  | _,_=>none
 | .makeFunc f first captured=>if first.size=0 then(Jz captured.toList).map (NP f) else none
 | .typeAssert x _ t ok=>match P.underlying t,ZQ x,(P.info? t).bind (·.zero) with
  | some (.interface _),_,_=>none
  | some _,some x,some z=>if SS z then some (Z5c x t (ofV z) ok) else none
  | _,_,_=>none
 | .slice t x lo hi mx=>match P.underlying t,ZQ x,Cv lo,Cv hi,Cv mx with
  | some (.slice e),some x,some lo,some hi,some mx=>(QM P e).map (CX x lo hi mx)
  | some .string,some x,some lo,some hi,some none=>some (XW x lo hi)
  | some (.array n e),some x,some lo,some hi,some mx=>(QM P e).map (XX x lo hi mx n)
  | _,_,_,_,_=>none
 | .load t a=>match ZQ a,BS P t,QM P t with
  | some a,some ag,some s=>some (oL a ag s)
  | _,_,_=>none
 | .store t a x=>match ZQ a,ZQ x,QM P t with
  | some a,some x,some s=>some (oS a x s)
  | _,_,_=>none
 | .alloc t=>if F7 t=true then(HW P t).map ZU else none
 | .box t x=>if F7 t=true then(ZQ x).map Zw else none
 | .buildSlice t len parts=>match P.underlying t with
  | some (.slice e)=>match QM P e,HW P e with
   | some s,some z=>if len*s<=4096/\z.length=s/\s≠0/\F7 e=true then(EW (fun i=>some (i*s,s)) parts.toList).map (YJ (rep z len) len s) else none
   | _,_=>none
  | _=>none
 | .makeSlice t l c=>match P.underlying t,ZQ l,ZQ c with
  | some (.slice e),some l,some c=>match P.info? e,HW P e with
   | some i,some z=>if z.length=i.size/\i.size≠0/\F7 e=true then some (NN z i.size i.bytes l c) else none
   | _,_=>none
  | _,_,_=>none
 | .call c=>match NA P c with
  | some f=>some f
  | none=>DE P c
 | .range t x=>match P.underlying t,ZQ x with
  | some .string,some x=>some (V4 x)
  | _,_=>none
 | .next x s=>if s then(ZQ x).map V6 else none
 | _=>none
def N9 (ops:Array Oper):Option (Nat×Bool)->Option (Option (Nat×Bool))
 | none=>some none
 | some (j,want)=>match(ops[j]?).bind (·.dst) with
  | some t=>some (some (t,want))
  | none=>none
def KE (P:Program)(ops:Array Oper)(o:Oper):Option Stp:=
 match N9 ops o.guard with
 | some g=>some ⟨o.dst,g,(Y7 P o.op).getD V5⟩
 | none=>none
def BR (P:Program)(ops:Array Oper):List Oper->Option (List Stp)
 | []=>some []
 | o::l=>match KE P ops o,BR P ops l with
  | some a,some b=>some (a::b)
  | _,_=>none
inductive Kd where
 | P | M | X
 | L (a:Operand)
 | S (a:Operand)
def Y0 (P:Program):Op->Kd
 | .convert s _ _=>match P.underlying s with
  | some (.slice _)=>.X
  | _=>.P
 | .slice t _ _ _ _=>match P.underlying t with
  | some (.array _ _)=>.X
  | _=>.P
 | .load _ a=>.L a
 | .store _ a _=>.S a
 | .alloc _ | .box _ _ | .buildSlice _ _ _ | .makeSlice _ _ _ | .range _ _=>.M
 | .next _ _=>.X
 | .binOp _ t _ _ _=>match P.underlying t with
  | some (.pointer _)=>.X
  | _=>.P
 | .call c=>match c.callee with
  | .builtin .append=>.X
  | .builtin .clear=>.X
  | .builtin _=>.P
  | _=>if(NA P c).isSome then .P else .X
 | _=>.P
def MX (as:List Nat):List Edge->Nat
 | []=>0
 | e::l=>bif Region.binds .any e then 2^e.on ||| (as.getD e.on 0 ||| MX as l) else MX as l
def Pv:List Oper->List Nat->List Nat
 | [],done=>done
 | o::l,done=>Pv l (done++[MX done o.after.toList])
def W4 (as:List Nat)(j:Nat)(o:Oper):Bool:=
 Nat.beq (as.getD j 0) (MX as o.after.toList)&&o.after.toList.all (fun e=> !Region.binds .any e || Nat.blt e.on j)
def M1:List Operand->List Nat
 | []=>[]
 | .tmp t::l=>t::M1 l
 | _::l=>M1 l
def EJ (ops:Array Oper)(o:Oper):List Nat:=
 M1 o.op.operands.toList++(match o.guard with
  | some (j,_)=>match(ops[j]?).bind (·.dst) with
   | some t=>[t]
   | none=>[]
  | none=>[])
def XU:Option Nat->Option Nat->Bool
 | some t,some u=> !Nat.beq t u
 | _,_=>true
def NZ (t:Option Nat)(l:List Nat):Bool:=
 match t with
 | some t=>Yj t l
 | none=>false
def Dx (i j:Nat):List (Nat×Nat)->Bool
 | []=>false
 | p::l=>(Nat.beq p.1 i&&Nat.beq p.2 j) || Dx i j l
def Kj (k:Nat)(ps:List (Nat×Nat)):Bool:=ps.any fun p=>Nat.beq p.1 k || Nat.beq p.2 k
def ER (fl i:Nat):Bool:=fl.testBit (2*i)&& !fl.testBit (2*i+1)
def GJ (fl i:Nat):Bool:=fl.testBit (2*i+1)
def VQ (fl:Nat)(ps:List (Nat×Nat))(i j:Nat):Kd->Kd->Bool
 | .P,_=>true
 | _,.P=>true
 | .S _,.S _=>false
 | .S _,.X=>false
 | .X,.S _=>false
 | .S _,.L _=>Dx i j ps
 | .L _,.S _=>Dx j i ps
 | .X,.X=>ER fl i&&ER fl j
 | .X,.M=>ER fl i || GJ fl i
 | .X,.L _=>ER fl i || Dx i j ps
 | .L _,.X=>ER fl j || Dx j i ps
 | _,.X=>ER fl j
 | _,_=>true
def Mk (P:Program)(ops:Array Oper)(as:List Nat)(fl:Nat)(ps:List (Nat×Nat))(i j:Nat)(x y:Oper):Bool:=
 XU x.dst y.dst&&((as.getD j 0).testBit i || !NZ x.dst (EJ ops y))&&(!NZ y.dst (EJ ops x) || ((as.getD j 0).testBit i&& !Kj i ps))&&
  ((as.getD j 0).testBit i || VQ fl ps i j (Y0 P x.op) (Y0 P y.op))
def Zb0 (P:Program)(ops:Array Oper)(as:List Nat)(fl:Nat)(ps:List (Nat×Nat)):Bool:=
 (List.range ops.size).all fun j => match ops[j]? with
  | some y=>W4 as j y&&(!NZ y.dst (EJ ops y) || !Kj j ps)&&(List.range j).all fun i=>match ops[i]? with
   | some x=>Mk P ops as fl ps i j x y
   | none=>false
  | none=>false
def Kd.isP:Kd->Bool
 | .P=>true
 | _=>false
def Kd.isX:Kd->Bool
 | .X=>true
 | _=>false
def Kd.isL:Kd->Bool
 | .L _=>true
 | _=>false
def Kd.isM:Kd->Bool
 | .M=>true
 | _=>false
def Z7i (ks:List Kd)(as:List Nat)(ys:List Bool):Nat:=
 (List.range ks.length).foldr (fun i r => if (ks.getD i .P).isX && (List.range ks.length).any (fun j => !Nat.beq i j && !(ks.getD j .P).isP && !((ks.getD j .P).isL && ys.getD i false) && !(as.getD (max i j) 0).testBit (min i j)) then
  (if(List.range ks.length).all (fun j=>Nat.beq i j || (ks.getD j .P).isP || ((ks.getD j .P).isL&&ys.getD i false) || (as.getD (max i j) 0).testBit (min i j) || (Nat.blt i j&&(ks.getD j .P).isM)) then 2^(2*i+1) else 2^(2*i)) ||| r else r) 0
def Z4t (ks:List Kd)(as:List Nat)(ys:List Bool):List (Nat×Nat):=
 (List.range ks.length).flatMap fun j => (List.range j).flatMap fun i => if (as.getD j 0).testBit i then [] else match ks.getD i .P, ks.getD j .P with
  | .S _,.L _=>[(i,j)]
  | .L _,.S _=>[(j,i)]
  | .X,.L _=>if ys.getD i false then[(i,j)] else[]
  | .L _,.X=>if ys.getD j false then[(j,i)] else[]
  | _,_=>[]
def Zks (P:Program):Op->Bool
 | .call c=>match c.callee with
  | .value _=>c.argTypes.any fun t=>match P.underlying t with
   | some (.pointer _)=>true
   | _=>false
  | _=>false
 | _=>false
def J7 (P:Program)(ops:Array Oper)(i:Nat):Option Opd:=
 match ops[i]? with
 | some o=>match Y0 P o.op with
  | .L a=>ZQ a
  | .S a=>ZQ a
  | _=>none
 | none=>none
def GH (P:Program)(ops:Array Oper)(i:Nat):Bool:=
 match ops[i]? with
 | some o=>(Y0 P o.op).isX
 | none=>false
def TT (P:Program)(ops:Array Oper):List (Nat×Nat)->Option (List (Opd×Opd))
 | []=>some []
 | p::l=>bif GH P ops p.1 then TT P ops l else match J7 P ops p.1,J7 P ops p.2,TT P ops l with
  | some a,some b,some r=>some ((a,b)::r)
  | _,_,_=>none
def TS (P:Program)(ops:Array Oper):List (Nat×Nat)->Option (List (Nat×Opd))
 | []=>some []
 | p::l=>bif GH P ops p.1 then(match J7 P ops p.2,TS P ops l with
  | some b,some r=>some ((p.1,b)::r)
  | _,_=>none) else TS P ops l
def DS (fl i:Nat):Kd->Fl
 | .P=>.pure
 | .S _=>.any
 | .X=>if GJ fl i then .tn else if ER fl i then .mk else .any
 | _=>.mk
def HF (P:Program)(fl:Nat):Nat->List Oper->List Stp->List (Fl×Stp)
 | i,o::os,s::l=>(DS fl i (Y0 P o.op),s)::HF P fl (i+1) os l
 | _,_,_=>[]
def Zc0 (P:Program)(ops:Array Oper)(as:List Nat)(fl:Nat)(ps:List (Nat×Nat)):Option CT:=
 match BR P ops ops.toList,TT P ops ps,TS P ops ps with
 | some l,some qs,some ls=>if Zb0 P ops as fl ps then some (match ls with
  | []=>YQ (HF P fl 0 ops.toList l) qs
  | _=>Zrf (HF P fl 0 ops.toList l) qs ls) else none
 | _,_,_=>none
def Zo7:Op->Bool
 | .call c=>match c.callee with
  | .builtin .append=>true
  | _=>false
 | _=>false
def Z2w (P:Program)(ops:Array Oper)(as:List Nat):List Bool:=
 (List.range ops.size).map fun i => match ops[i]? with
  | some o=>Zks P o.op || (Zo7 o.op&&(List.range ops.size).all fun j=> !Nat.blt i j || (as.getD j 0).testBit i || (match ops[j]? with
   | some y=> !(Y0 P y.op).isL
   | none=>true))
  | none=>false
def Z25 (P:Program)(ops:Array Oper):Option CT:=
 Zc0 P ops (Pv ops.toList []) (Z7i (ops.toList.map fun o=>Y0 P o.op) (Pv ops.toList []) (Z2w P ops (Pv ops.toList []))) (Z4t (ops.toList.map fun o=>Y0 P o.op) (Pv ops.toList []) (Z2w P ops (Pv ops.toList [])))
def GK:Code->Nat
 | .region id _ _=>id+1
 | .seq a b=>match GK a with
  | 0=>GK b
  | n=>n
 | .cond _ a b=>match GK a with
  | 0=>GK b
  | n=>n
 | .block _ c=>GK c
 | .loop c=>GK c
 | _=>0
def A6 (P:Program):Bool->Code->Option CT
 | _,.skip=>some cK
 | _,.region _ ops false=>(BR P ops ops.toList).map Z1
 | _,.region _ ops true=>Z25 P ops
 | rg,.seq a b=>match A6 P rg a,A6 P rg b with
  | some a,some b=>some (cQ a b)
  | _,_=>none
 | rg,.cond c' x y=>match ZQ c',A6 P rg x,A6 P rg y with
  | some c,some a,some b=>some (cJ (2*GK (.cond c' x y)+1) c a b)
  | _,_,_=>none
 | rg,.block id c=>(A6 P rg c).map (ZT id)
 | rg,.loop c=>(A6 P rg c).map (QR (2*GK c))
 | _,.exit id=>some (QC id)
 | _,.label _=>some cK
 | _,.ret=>some cZ
 | true,.rangeFunc f ps a b=>match ZQ f,A6 P false a,A6 P false b with
  | some f,some a,some b=>if ps.size=2 then some (RU f ps.toList a b) else none
  | _,_,_=>none
 | _,_=>none
abbrev Zrg (P:Program):Code->Option CT:=A6 P true
def GW (P:Program):List ResultVar->Option (List IRes)
 | []=>some []
 | .tmp t::l=>(GW P l).map (.tmp t:: ·)
 | .cell a t::l=>match BS P t,QM P t,GW P l with
  | some ag,some n,some r=>some (.cell a ag n::r)
  | _,_,_=>none
def HX (P:Program)(f:FuncId):Option (Env->cT->cT):=
 match P.funcs[f]? with
 | some fn=>match fn.body with
  | some c => if fn.name = "runtime.NumGoroutine" then none else
   match Zrg P c,GW P fn.results.toList with
   | some c,some r=>some (ZJ fn.ntmps r c)
   | _,_=>none
  | none=>none
 | none=>none
end Go.Aug
