import Derived.Test.YthnhboimcidhgaaGreatDoorEvY
namespace Go.Aug
open Go
theorem evC_succ (E:Env)(fn:FuncId->Option (Env->cT->cT))(n:Nat)(f:FuncId)(args:List AV)(A:List Blk):evC E fn (n+1) f args A=apF E (evC E fn n) f args A (fn f):=id rfl
theorem apF_some (E:Env)(call:cT)(f:FuncId)(args:List AV)(A:List Blk)(F:Env->cT->cT):apF E call f args A (some F)=F E call f args A:=id rfl
section
variable (E:Env) (call:cT) (kn:K) (kx:Nat->K) (kr:K) (tm:List AV) (A:List Blk)
@[go_sem] theorem d_drawn (l:List (Fl×Stp)) (ps:List (Opd×Opd)):cDrawn l ps E call kn kx kr tm A=dsteps E call l (endD ps kn) tm A:=id rfl
@[go_sem] theorem d_nil (k:K):dsteps E call [] k tm A=k tm A:=id rfl
@[go_sem] theorem d_end (k:K):endD [] k tm A=k tm A:=id rfl
@[go_sem] theorem d_cons (fg:Fl) (d:Option Nat) (op:OpF) (l:List (Fl×Stp)) (k:K):dsteps E call ((fg,⟨d,none,op⟩)::l) k tm A=goOnF fg d (dsteps E call l k) tm A (op E call tm A A.length):=id rfl
@[go_sem] theorem d_made0 (fg:Fl) (d:Option Nat) (k:K) (x:AV):goOnF fg d k tm A (some (.made x []))=k (setO tm d x) A:=by cases fg<;>rfl
@[go_sem] theorem d_madeM (d:Option Nat) (k:K) (x:AV) (b:Blk) (bs:List Blk):goOnF .mk d k tm A (some (.made x (b::bs)))=k (setO tm d x) (A++b::bs):=id rfl
@[go_sem] theorem d_madeA (d:Option Nat) (k:K) (x:AV) (b:Blk) (bs:List Blk):goOnF .any d k tm A (some (.made x (b::bs)))=k (setO tm d x) (A++b::bs):=id rfl
@[go_sem] theorem d_madeT (d:Option Nat) (k:K) (x:AV) (b:Blk) (bs:List Blk):goOnF .tn d k tm A (some (.made x (b::bs)))=k (setO tm d x) (A++b::bs):=id rfl
@[go_sem] theorem d_turnT (d:Option Nat) (k:K) (x:AV) (A1:List Blk) (h:A.length<=A1.length):goOnF .tn d k tm A (some (.turned x A1))=k (setO tm d x) A1:=by
 show(bif Nat.ble A.length A1.length then _ else _)=_
 rw[Nat.ble_eq_true_of_le h];rfl
@[go_sem] theorem d_turnA (d:Option Nat) (k:K) (x:AV) (A1:List Blk) (h:A.length<=A1.length):goOnF .any d k tm A (some (.turned x A1))=k (setO tm d x) A1:=by
 show(bif Nat.ble A.length A1.length then _ else _)=_
 rw[Nat.ble_eq_true_of_le h];rfl
end
@[go_sem] theorem m_at0 (cs:List AV) (v w:Nat) (ro:Bool) (A:List Blk) (o:Nat):cellsAt (.cells cs v ro::A) 0 w o=if v=w then some (cs.drop o) else none:=id rfl
@[go_sem] theorem m_atS (b:Blk) (A:List Blk) (i v o:Nat):cellsAt (b::A) (i+1) v o=cellsAt A i v o:=id rfl
@[go_sem] theorem m_var (n:Nat) (x:AV) (cs:List AV):takeVar false n (x::cs)=some x:=id rfl
@[go_sem] theorem m_varD (n:Nat) (x:DV) (cs:List DV):takeVarD false n (x::cs)=some x:=id rfl
def consD (a:DV):Option DV->Option DV
 | some (.agg l)=>some (.agg (a::l))
 | _=>none
def consA (a:AV):Option AV->Option AV
 | some (.agg l)=>some (.agg (a::l))
 | _=>none
@[go_sem] theorem m_varD0 (cs:List DV):takeVarD true 0 cs=some (.agg []):=by simp[takeVarD]
@[go_sem] theorem m_varA0 (cs:List AV):takeVar true 0 cs=some (.agg []):=by simp[takeVar]
@[go_sem] theorem m_consD (a:DV) (l:List DV):consD a (some (.agg l))=some (.agg (a::l)):=id rfl
@[go_sem] theorem m_consA (a:AV) (l:List AV):consA a (some (.agg l))=some (.agg (a::l)):=id rfl
@[go_sem] theorem m_varDS (n:Nat) (a:DV) (cs:List DV):takeVarD true (n+1) (a::cs)=consD a (takeVarD true n cs):=by
 show(if n+1<=(a::cs).length then some (DV.agg ((a::cs).take (n+1))) else none)=consD a (if n<=cs.length then some (.agg (cs.take n)) else none)
 by_cases h:n<=cs.length
 ·rw[if_pos h,if_pos (by simpa using h)];rfl
 ·rw[if_neg h,if_neg (by simpa using h)];rfl
@[go_sem] theorem m_varAS (n:Nat) (a:AV) (cs:List AV):takeVar true (n+1) (a::cs)=consA a (takeVar true n cs):=by
 show(if n+1<=(a::cs).length then some (AV.agg ((a::cs).take (n+1))) else none)=consA a (if n<=cs.length then some (.agg (cs.take n)) else none)
 by_cases h:n<=cs.length
 ·rw[if_pos h,if_pos (by simpa using h)];rfl
 ·rw[if_neg h,if_neg (by simpa using h)];rfl
@[go_sem] theorem m_load (A:List Blk) (i v o:Nat) (ag:Bool) (n:Nat):evLoad A (.ref i v o) ag n=(cellsAt A i v o).bind (takeVar ag n):=by
 show(match cellsAt A i v o with | some cs=>takeVar ag n cs | none=>none)=_
 cases cellsAt A i v o<;>rfl
@[go_sem] theorem m_loadD (A:List Blk) (cs:List DV) (ag:Bool) (n:Nat):evLoad A (.d (.vptr cs)) ag n=(takeVarD ag n cs).map .d:=id rfl
def storeAt (A:List Blk)(i v o:Nat)(cs:List AV)(n:Nat):Option Blk->Option (List Blk)
 | some (.cells c v' false)=>if v'=v/\cs.length=n/\o+n<=c.length/\cs.all AV.one=true then some (A.set i (.cells (splice c o cs) v' false)) else none
 | _=>none
@[go_sem] theorem m_storeA (A:List Blk) (i v o:Nat) (x:AV) (n:Nat):evStore A (.ref i v o) x n=storeAt A i v o x.cells n A[i]? :=by
 show(match A[i]? with
  | some (.cells cs v' false)=>if v'=v/\x.cells.length=n/\o+n<=cs.length/\x.cells.all AV.one=true then some (A.set i (.cells (splice cs o x.cells) v' false)) else none
  | _=>none)=_
 cases A[i]? with
 | none=>rfl
 | some b=>cases b with
  | cells cs v' ro=>cases ro<;>rfl
  | iter=>rfl
  | free=>rfl
@[go_sem] theorem m_storeB (A : List Blk) (i v o : Nat) (cs : List AV) (n : Nat) (c : List AV) (v' : Nat) : storeAt A i v o cs n (some (.cells c v' false)) =
  if v'=v/\cs.length=n/\o+n<=c.length/\cs.all AV.one=true then some (A.set i (.cells (splice c o cs) v' false)) else none:=id rfl
@[go_sem] theorem m_splice (c:List AV) (o:Nat) (cs:List AV):splice c o cs=c.take o++cs++c.drop (o+cs.length):=id rfl
@[go_sem] theorem m_oneI (k:IntKind) (n:Int):AV.one (.d (.v (.int k n)))=true:=id rfl
@[go_sem] theorem m_oneB (b:Bool):AV.one (.d (.v (.bool b)))=true:=id rfl
@[go_sem] theorem m_oneT (s:ByteArray):AV.one (.d (.v (.string s)))=true:=id rfl
@[go_sem] theorem m_oneL (cs:List DV) (n:Nat) (k:Option Nat):AV.one (.d (.lst cs n k))=true:=id rfl
@[go_sem] theorem m_oneS (i v o len sz:Nat) (k:Option Nat):AV.one (.sref i v o len sz k)=true:=id rfl
@[go_sem] theorem m_oneR (i v o:Nat):AV.one (.ref i v o)=true:=id rfl
@[go_sem] theorem m_cellsA (cs:List AV):AV.cells (.agg cs)=cs:=id rfl
@[go_sem] theorem m_cellsDA (cs:List DV):AV.cells (.d (.agg cs))=cs.map .d:=id rfl
@[go_sem] theorem m_cellsI (k:IntKind) (n:Int):AV.cells (.d (.v (.int k n)))=[.d (.v (.int k n))]:=id rfl
@[go_sem] theorem m_cellsB (b:Bool):AV.cells (.d (.v (.bool b)))=[.d (.v (.bool b))]:=id rfl
@[go_sem] theorem m_cellsT (s:ByteArray):AV.cells (.d (.v (.string s)))=[.d (.v (.string s))]:=id rfl
@[go_sem] theorem m_cellsL (cs:List DV) (n:Nat) (k:Option Nat):AV.cells (.d (.lst cs n k))=[.d (.lst cs n k)]:=id rfl
@[go_sem] theorem m_cellsS (i v o len sz:Nat) (k:Option Nat):AV.cells (.sref i v o len sz k)=[.sref i v o len sz k]:=id rfl
@[go_sem] theorem m_botA (cs:List AV):AV.isBot (.agg cs)=false:=id rfl
@[go_sem] theorem m_botD (x:DV):AV.isBot (.d x)=false:=id rfl
@[go_sem] theorem m_botS (i v o len sz:Nat) (k:Option Nat):AV.isBot (.sref i v o len sz k)=false:=id rfl
@[go_sem] theorem m_fill (tm cells : List AV) (off size : Nat) (x : Opd) (rest : List (Nat × Nat × Opd)) : fillA tm cells ((off, size, x) :: rest) =
  if(look tm x).isBot=false/\(look tm x).cells.length=size/\off+size<=cells.length then fillA tm (splice cells off (look tm x).cells) rest else none:=id rfl
attribute [go_sem] List.getElem?_cons_zero List.getElem?_cons_succ List.set_cons_zero List.set_cons_succ List.take_zero List.take_succ_cons List.drop_zero List.drop_succ_cons List.all_cons List.all_nil Bool.and_self and_self List.append_nil List.drop_nil List.take_nil
@[go_sem] theorem m_addR (i v o n:Nat):ptrAdd (.ref i v o) n=some (.ref i v (o+n)):=id rfl
@[go_sem] theorem m_addD (cs:List DV) (n:Nat):ptrAdd (.d (.vptr cs)) n=if n<=cs.length then some (.d (.vptr (cs.drop n))) else none:=id rfl
section
variable (E:Env) (call:cT) (tm:List AV) (A:List Blk) (nb:Nat)
@[go_sem] theorem o_un (op:UnOp) (x:Opd):oUn op x E call tm A nb=one? (evUn op (look tm x)):=id rfl
@[go_sem] theorem o_not (b:Bool):evUn .not (.d (.v (.bool b)))=some (abool !b):=id rfl
@[go_sem] theorem o_pick (c a b:Opd):oPick c a b E call tm A nb=pickA tm a b (look tm c):=id rfl
@[go_sem] theorem o_pickA (a b:Opd) (c:Bool):pickA tm a b (.d (.v (.bool c)))=some (.made (bif c then look tm a else look tm b) []):=by cases c<;>rfl
@[go_sem] theorem o_add (x:Opd) (off:Nat):oA x off E call tm A nb=one? (ptrAdd (look tm x) off):=id rfl
@[go_sem] theorem o_load (x:Opd) (ag:Bool) (n:Nat):oL x ag n E call tm A nb=one? (evLoad A (look tm x) ag n):=id rfl
@[go_sem] theorem o_store (a x:Opd) (n:Nat):oS a x n E call tm A nb=turnA (evStore A (look tm a) (look tm x) n):=id rfl
@[go_sem] theorem o_turnA (B:List Blk):turnA (some B)=some (.turned aundef B):=id rfl
@[go_sem] theorem o_new (z:List AV):oNew z E call tm A nb=some (.made (.ref nb 0 0) [.cells z 0 false]):=id rfl
@[go_sem] theorem o_box (x:Opd):oBox x E call tm A nb=boxA nb (look tm x):=id rfl
@[go_sem] theorem o_boxD (x:DV):boxA nb (.d x)=some (.made (.ref nb 0 0) [.cells (AV.d x).cells 0 false]):=id rfl
@[go_sem] theorem o_boxA (cs:List AV):boxA nb (.agg cs)=some (.made (.ref nb 0 0) [.cells cs 0 false]):=id rfl
@[go_sem] theorem o_lenS (x:Opd):oLenS x E call tm A nb=one? (evLenS (look tm x)):=id rfl
@[go_sem] theorem o_lenL (cs:List DV) (len:Nat) (k:Option Nat):evLenS (.d (.lst cs len k))=some (aI len):=id rfl
@[go_sem] theorem o_lenR (i v o len sz:Nat) (k:Option Nat):evLenS (.sref i v o len sz k)=some (aI len):=id rfl
@[go_sem] theorem o_mm (mx:Bool) (xs:List Opd):oMM mx xs E call tm A nb=one? (evMM mx (xs.map (look tm))):=id rfl
@[go_sem] theorem o_max (k:IntKind) (x y:Int):evMM true [.d (.v (.int k x)),.d (.v (.int k y))]=some (.d (.v (.int k (max x y)))):=by
 show some (AV.d (.v (.int k (if y>x then y else x))))=_
 congr 4;simp only[Int.max_def];split<;>split<;>omega
@[go_sem] theorem o_min (k:IntKind) (x y:Int):evMM false [.d (.v (.int k x)),.d (.v (.int k y))]=some (.d (.v (.int k (min x y)))):=by
 show some (AV.d (.v (.int k (if y<x then y else x))))=_
 congr 4;simp only[Int.min_def];split<;>split<;>omega
@[go_sem] theorem o_cint (k:IntKind) (x:Opd):oCint k x E call tm A nb=cintA k (look tm x):=id rfl
@[go_sem] theorem o_cintA (k k':IntKind) (n:Int):cintA k (.d (.v (.int k' n)))=some (.made (.d (.v (.int k (k.wrap n)))) []):=id rfl
@[go_sem] theorem o_ixS (x ix:Opd) (s:Nat):oIxS x ix s E call tm A nb=one? (evIxS (look tm x) (look tm ix) s):=id rfl
@[go_sem] theorem o_part (x:Opd) (off:Nat) (ag:Bool) (n:Nat):oPart x off ag n E call tm A nb=one? (evPart (look tm x) off ag n):=id rfl
@[go_sem] theorem o_ext (x:Opd) (i:Nat):oExt x i E call tm A nb=one? (evExt (look tm x) i):=id rfl
@[go_sem] theorem o_build (z:List AV) (ps:List (Nat×Nat×Opd)):oBuild z ps E call tm A nb=aggA (fillA tm z ps):=id rfl
@[go_sem] theorem o_aggA (cs:List AV):aggA (some cs)=some (.made (.agg cs) []):=id rfl
end
theorem b_int (op:BinOp)(k:IntKind)(x y:Int)(h1:op≠ .shl)(h2:op≠ .shr):evBin op (.d (.v (.int k x))) (.d (.v (.int k y)))=(evInt op k x y).map fun r=>.d (.v r):=by
 cases op<;>simp_all [evBin]
@[go_sem] theorem b_add (k:IntKind) (x y:Int):evBin .add (.d (.v (.int k x))) (.d (.v (.int k y)))=some (.d (.v (.int k (k.wrap (x+y))))):=by rw[b_int _ _ _ _ (by simp) (by simp)];rfl
@[go_sem] theorem b_sub (k:IntKind) (x y:Int):evBin .sub (.d (.v (.int k x))) (.d (.v (.int k y)))=some (.d (.v (.int k (k.wrap (x-y))))):=by rw[b_int _ _ _ _ (by simp) (by simp)];rfl
@[go_sem] theorem b_mul (k:IntKind) (x y:Int):evBin .mul (.d (.v (.int k x))) (.d (.v (.int k y)))=some (.d (.v (.int k (k.wrap (x*y))))):=by rw[b_int _ _ _ _ (by simp) (by simp)];rfl
@[go_sem] theorem b_lss (k:IntKind) (x y:Int):evBin .lss (.d (.v (.int k x))) (.d (.v (.int k y)))=some (abool (x<y)):=by rw[b_int _ _ _ _ (by simp) (by simp)];rfl
@[go_sem] theorem b_leq (k:IntKind) (x y:Int):evBin .leq (.d (.v (.int k x))) (.d (.v (.int k y)))=some (abool (x<=y)):=by rw[b_int _ _ _ _ (by simp) (by simp)];rfl
@[go_sem] theorem b_gtr (k:IntKind) (x y:Int):evBin .gtr (.d (.v (.int k x))) (.d (.v (.int k y)))=some (abool (x>y)):=by rw[b_int _ _ _ _ (by simp) (by simp)];rfl
@[go_sem] theorem b_geq (k:IntKind) (x y:Int):evBin .geq (.d (.v (.int k x))) (.d (.v (.int k y)))=some (abool (x>=y)):=by rw[b_int _ _ _ _ (by simp) (by simp)];rfl
@[go_sem] theorem b_eql (k:IntKind) (x y:Int):evBin .eql (.d (.v (.int k x))) (.d (.v (.int k y)))=some (abool (x==y)):=by rw[b_int _ _ _ _ (by simp) (by simp)];rfl
@[go_sem] theorem b_neq (k:IntKind) (x y:Int):evBin .neq (.d (.v (.int k x))) (.d (.v (.int k y)))=some (abool (x !=y)):=by rw[b_int _ _ _ _ (by simp) (by simp)];rfl
@[go_sem] theorem b_quo (k:IntKind) (x y:Int) (h:y≠0):evBin .quo (.d (.v (.int k x))) (.d (.v (.int k y)))=some (.d (.v (.int k (k.wrap (x.tdiv y))))):=by
 rw[b_int _ _ _ _ (by simp) (by simp)];simp[evInt,h]
@[go_sem] theorem b_rem (k:IntKind) (x y:Int) (h:y≠0):evBin .rem (.d (.v (.int k x))) (.d (.v (.int k y)))=some (.d (.v (.int k (x.tmod y)))):=by
 rw[b_int _ _ _ _ (by simp) (by simp)];simp[evInt,h]
@[go_sem] theorem b_shl (k k':IntKind) (x y:Int) (h:0<=y):evBin .shl (.d (.v (.int k x))) (.d (.v (.int k' y)))=some (.d (.v (.int k (k.wrap (x*2^(min y.toNat k.bits)))))):=by
 show(evShift true k x y).map _=_
 simp[evShift,show ¬y<0 by omega]
@[go_sem] theorem b_shr (k k':IntKind) (x y:Int) (h:0<=y):evBin .shr (.d (.v (.int k x))) (.d (.v (.int k' y)))=some (.d (.v (.int k (x.fdiv (2^(min y.toNat k.bits)))))):=by
 show(evShift false k x y).map _=_
 simp[evShift,show ¬y<0 by omega]
theorem wrap_i64 {n:Int}(h1: -9223372036854775808<=n)(h2:n<=9223372036854775807):IntKind.i64.wrap n=n:=by
 simp[IntKind.wrap,IntKind.bits,IntKind.signed];omega
theorem wrap_u64 {n:Int}(h1:0<=n)(h2:n<=18446744073709551615):IntKind.u64.wrap n=n:=by
 simp[IntKind.wrap,IntKind.bits,IntKind.signed];omega
def evAnsB (th:Bool)(A:List Blk)(nb:Nat)(used:List Nat):Option (AV×List Blk)->Option Done
 | some (x,Ac)=>bif th then thawed A used (thaw Ac nb 6 x [] []) else deeped A used (deep Ac 8 x)
 | none=>none
def thKey (g:Nat):Nat:=1000000+g
def evOwnK (th:Bool)(E:Env)(call:cT)(f:FuncId)(A:List Blk)(nb:Nat):Option (List DV×List Nat)->Option Done
 | some (ds,used)=>evAnsB th A nb used (evRaw E call f ds)
 | none=>none
def fkP:Option (List DV×List Nat)->Option (List DV×List Nat)
 | some (ds,used)=>some (ds.map (fk 4),used)
 | none=>none
@[go_sem] theorem o_mkS (E : Env) (l : Nat -> Option (List Nat)) (m : Nat) (call : cT) (tm : List AV) (A : List Blk) (nb : Nat) (cells : List AV) (len s : Nat) (parts : List (Nat × Nat × Opd)) :
  oMkS cells len s parts { br:=E.br,th:=E.th,prim:=E.prim,back:=E.back,lives:=E.lives,live:=l,nb0:=m } call tm A nb=mkSW (memN 1000000 E.th || isSomeL (l (thKey 1000000))) len s nb (fillA tm cells parts):=id rfl
@[go_sem] theorem o_callK (E : Env) (l : Nat -> Option (List Nat)) (m : Nat) (call : cT) (tm : List AV) (A : List Blk) (nb : Nat) (g : FuncId) (args : List Opd) (h : memN g E.br = false) :
  oK (.f g) args { br:=E.br,th:=E.th,prim:=E.prim,back:=E.back,lives:=E.lives,live:=l,nb0:=m } call tm A nb=evOwnK (memN g E.th || isSomeL (l (thKey g))) E call g A nb (fkP (mapD (deep A 8) (args.map (look tm)))):=by
 show callA { br:=E.br,th:=E.th,prim:=E.prim,back:=E.back,lives:=E.lives,live:=l,nb0:=m } call A nb (some (g,args.map (look tm)++[]))=_
 rw[List.append_nil]
 show evCall { br:=E.br,th:=E.th,prim:=E.prim,back:=E.back,lives:=E.lives,live:=l,nb0:=m } call g (args.map (look tm)) A nb=_
 unfold evCall
 show(bif memN g E.br then _ else _)=_
 rw[h,cond_false]
 cases mapD (deep A 8) (args.map (look tm)) with
 | none=>rfl
 | some p=>
  obtain⟨ds,used⟩:=p
  show evAnswer _ g A nb used _=evAnsB _ A nb used _
  show evAnswer _ g A nb used (evRaw E call g (ds.map (fk 4)))=_
  cases evRaw E call g (ds.map (fk 4))<;>rfl
def mapC {α:Type}:Option (DV×List α)->Option (List DV×List α)->Option (List DV×List α)
 | some (a,u),some (b,w)=>some (a::b,u++w)
 | _,_=>none
def aggP:Option (List DV×List Nat)->Option (DV×List Nat)
 | some (l,u)=>some (.agg l,u)
 | none=>none
@[go_sem] theorem mapC_some {α:Type} (a:DV) (b:List DV) (u w:List α):mapC (some (a,u)) (some (b,w))=some (a::b,u++w):=id rfl
@[go_sem] theorem aggP_some (l:List DV) (u:List Nat):aggP (some (l,u))=some (.agg l,u):=id rfl
@[go_sem] theorem fkP_some (ds:List DV) (u:List Nat):fkP (some (ds,u))=some (ds.map (fk 4),u):=id rfl
@[go_sem] theorem mapD_nil (f:AV->Option (DV×List Nat)):mapD f []=some ([],[]):=id rfl
@[go_sem] theorem mapD_cons (f:AV->Option (DV×List Nat)) (x:AV) (l:List AV):mapD f (x::l)=mapC (f x) (mapD f l):=by
 show(match f x,mapD f l with | some (a,u),some (b,w)=>some (a::b,u++w) | _,_=>none)=_
 cases f x<;>cases mapD f l<;>rfl
@[go_sem] theorem deep_d (A:List Blk) (n:Nat) (x:DV):deep A (n+1) (.d x)=some (x,[]):=id rfl
@[go_sem] theorem deep_agg (A:List Blk) (n:Nat) (cs:List AV):deep A (n+1) (.agg cs)=aggP (mapD (deep A n) cs):=by
 show(mapD (deep A n) cs).map (fun r=>(DV.agg r.1,r.2))=_
 cases mapD (deep A n) cs<;>rfl
@[go_sem] theorem fk_v (n:Nat) (x:Value):fk n (.v x)=.v x:=by cases n<;>rfl
@[go_sem] theorem fk_lst (n:Nat) (cs:List DV) (len:Nat) (k:Option Nat):fk (n+1) (.lst cs len k)=.lst cs len none:=id rfl
@[go_sem] theorem fk_agg (n:Nat) (cs:List DV):fk (n+1) (.agg cs)=.agg (cs.map (fk n)):=id rfl
@[go_sem] theorem fk_tup (n:Nat) (cs:List DV):fk (n+1) (.tup cs)=.tup (cs.map (fk n)):=id rfl
@[go_sem] theorem memN_nil (n:Nat):memN n []=false:=id rfl
@[go_sem] theorem memN_consN (n m:Nat) (l:List Nat):memN n (m::l)=if n=m then true else memN n l:=by
 show(if Nat.beq n m=true then true else memN n l)=_
 by_cases h:n=m
 ·subst h;simp
 ·have:Nat.beq n m=false:=by
   cases hb:Nat.beq n m with
   | false=>rfl
   | true=>exact absurd (Nat.eq_of_beq_eq_true hb) h
  rw[this,if_neg h];rfl
@[go_sem] theorem e_nrm (E : Env) (f : FuncId) (m key : Nat) (k : K) (tm : List AV) (A : List Blk) (h : E.lives f key = none) :
  nrmK { br:=E.br,th:=E.th,prim:=E.prim,back:=E.back,lives:=E.lives,live:=E.lives f,nb0:=m } key k tm A=k tm A:=e_nrm0 _ _ _ _ _ h
end Go.Aug
