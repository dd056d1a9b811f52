import Derived.Test.YthnhboimcidhgaaGreatDoorMc72
import Derived.Lib.TrimU
import Derived.Lib.Join
import Derived.Test.YthnhboimcidhgaaGreatDoorMk2
import Derived.Test.YthnhboimcidhgaaGreatDoorMc51
namespace Go.Aug.Mc
open Go Go.Aug
open Nat renaming reduceLT -> zN0, reduceEqDiff -> zN1, reduceAdd -> zN2, reduceMul -> zN3, reduceLeDiff -> zN4
open Int renaming reduceEq -> zI0, reduceLT -> zI1, reduceLE -> zI2, reduceNeg -> zI3
set_option linter.unusedSimpArgs false
set_option linter.unusedVariables false
set_option maxHeartbeats 40000000
set_option maxRecDepth 200000
structure Rn where
 n:Int
instance:Cl Rn:=⟨1,fun b=>[.v (.int .i32 b.n)],fun _=>rfl⟩
instance:Cl1 Rn:=⟨fun _=>rfl,fun _=>rfl⟩
def GR (s:ByteArray):Nat->Nat->List Rn
 | 0,_=>[]
 | f+1,p=>bif Nat.blt p s.size then⟨((Utf8.decode s p).1:Nat)⟩::GR s f (p+(Utf8.decode s p).2) else[]
theorem Z56 {s:ByteArray}{f p:Nat}(h:Nat.blt p s.size=true):GR s (f+1) p=⟨((Utf8.decode s p).1:Nat)⟩::GR s f (p+(Utf8.decode s p).2):=by
 show(bif Nat.blt p s.size then _ else _)=_
 rw[h];rfl
def runes (s:ByteArray):List Rn:=GR s s.size 0
theorem Z57 (s:ByteArray):∀ f p,(GR s f p).length<=f
 | 0,_=>Nat.le_refl _
 | f+1,p=>by
  have:=Z57 s f (p+(Utf8.decode s p).2)
  unfold GR
  cases Nat.blt p s.size
  ·simp
  ·simp only[cond_true,List.length_cons];omega
theorem Zi9 (s:ByteArray):(runes s).length<=s.size:=Z57 s _ _
theorem Ztc {A:List Blk}{bytes j v:Nat}{out:List Rn}{n:Int}(hA:A[j]? =some (.cells ((rC out).map .d) v false))(h1:(out.length+1)*bytes<=Z5)(h2:out.length+1<=Z5):
  YU A 1 bytes (.sref j v 0 out.length 1 none) [.d (.v (.int .i32 n))] 1=some (.turn j (.cells ((rC (out++[⟨n⟩])).map .d) (v+1) false) (.sref j (v+1) 0 (out.length+1) 1 none)):=M0 (x:=(⟨n⟩:Rn)) hA rfl (by decide) rfl h1 h2
theorem Rk (A:List Blk)(x:Opd)(E:Env)(call:cT)(tm:List AV)(nb:Nat):RN x E call tm A nb=W7 A (look tm x):=id rfl
theorem Rj (i ver off:Nat)(A:List Blk):W7 A (.ref i ver off)=W6 A i ver off A[i]? :=id rfl
theorem R9 (A:List Blk)(i ver off:Nat)(s:ByteArray)(p:Nat):W6 A i ver off (some (.iter s p))=bif Nat.beq ver 0&&Nat.beq off 0 then Pv A i s p else none:=id rfl
theorem Z3q {A:List Blk}{i p:Nat}{s:ByteArray}(h:Nat.blt p s.size=true):Pv A i s p=some (.turned (.d (.tup [.v (.bool true),.v (.int .i64 (p:Int)),.v (.int .i32 ((Utf8.decode s p).1:Int))])) (A.set i (.iter s (p+(Utf8.decode s p).2)))):=by unfold Pv;rw[h];rfl
theorem UK {A:List Blk}{i p:Nat}{s:ByteArray}(h:Nat.blt p s.size=false):Pv A i s p=some (.made (.d (.tup [.v (.bool false)])) []):=by unfold Pv;rw[h];rfl
theorem XK (x:Opd)(E:Env)(call:cT)(tm:List AV)(A:List Blk)(nb:Nat):RM x E call tm A nb=VB nb (look tm x):=id rfl
theorem XJ (nb:Nat)(s:ByteArray):VB nb (.d (.v (.string s)))=some (.made (.ref nb 0 0) [.iter s 0]):=id rfl
theorem JG:Cl.n Rn=1:=rfl
theorem D1 (r:Rn):Cl.cells r=[.v (.int .i32 r.n)]:=rfl
theorem Hx (s:ByteArray)(p:Nat):ET (some (.iter s p))=[]:=id rfl
theorem RX:1<=Z5:=by unfold Z5;decide
theorem Z7t:4<=Z5:=by unfold Z5;decide
variable {E:Env} {fn:FuncId->Option (Env->cT->cT)}
section
variable (S:Sur E fn)
include S
theorem G7:E.lives 50 1=none:=off S 50 1 (by decide) rfl
theorem Zia (dp:Nat)(s:ByteArray)(hs:s.size<1073741824)(kx:Nat->K)(R:List Rn)
  (hx:∀ T p,ZX .bot T 3=YN 0 R->Z7 (kx 0 (mk .bot 16 T) (Yz R++[.iter s p]))=some (rD R)):
  ∀(f g p:Nat) (o:List Rn),f<=g->s.size<=p+f->o.length<=p->o++GR s f p=R->
  Z7 (GF (Zj E 50) (Z4 E fn dp) (Z9 8 GF (Zj E 50) (Z4 E fn dp) kx (ZY 0 [.tmp 2]) g) kx (ZY 0 [.tmp 2]) (mk .bot 16 [(3,YN 0 o),(7,.ref (Yz o).length 0 0)]) (Yz o++[.iter s p]))=some (rD R):=by
 intro f
 induction f with
 | zero=>
  intro g p o _ hp _ hr
  have hb:Nat.blt p s.size=false:=by rw[<-Bool.not_eq_true,Nat.blt_eq];omega
  have hr:o=R:=by simpa [GR] using hr
  subst hr
  generalize Z9 8 GF _ _ kx _ g=KK
  first | (conv=>lhs;rw[GF]) | rw[GF]
  by_cases h0:o.length=0
  ·obtain rfl : o = [] := List.length_eq_zero_iff.1 h0
   rw[Yv,Yw] at *
   simp only[eG,go_sem,Z3 S,Z2 S,zN0,zN1,zN2,zN3,zN4,zI0,zI1,zI2,zI3,reduceCtorEq,G7 S,Rk,Rj,R9,UK hb,Nat.beq,JG,Hx]
   exact hx _ _ rfl
  ·rw [ZN h0, ZM h0] at *
   simp only[eG,go_sem,Z3 S,Z2 S,zN0,zN1,zN2,zN3,zN4,zI0,zI1,zI2,zI3,reduceCtorEq,G7 S,Rk,Rj,R9,UK hb,Nat.beq,JG,Hx]
   exact hx _ _ rfl
 | succ f ih=>
  intro g p o hg hp ho hr
  obtain⟨g,rfl⟩:∃ k,g=k+1:=⟨g-1,by omega⟩
  cases hb:Nat.blt p s.size with
  | false=>
   have hr:o=R:=by simpa [GR,hb] using hr
   subst hr
   generalize Z9 8 GF _ _ kx _ (g+1)=KK
   first | (conv=>lhs;rw[GF]) | rw[GF]
   by_cases h0:o.length=0
   ·obtain rfl : o = [] := List.length_eq_zero_iff.1 h0
    rw[Yv,Yw] at *
    simp only[eG,go_sem,Z3 S,Z2 S,zN0,zN1,zN2,zN3,zN4,zI0,zI1,zI2,zI3,reduceCtorEq,G7 S,Rk,Rj,R9,UK hb,Nat.beq,JG,Hx]
    exact hx _ _ rfl
   ·rw [ZN h0, ZM h0] at *
    simp only[eG,go_sem,Z3 S,Z2 S,zN0,zN1,zN2,zN3,zN4,zI0,zI1,zI2,zI3,reduceCtorEq,G7 S,Rk,Rj,R9,UK hb,Nat.beq,JG,Hx]
    exact hx _ _ rfl
  | true=>
   have hps:p<s.size:=by rw[<-Nat.blt_eq];exact hb
   have hw:=Lib.width_pos s p
   have hr:(o++[⟨((Utf8.decode s p).1:Nat)⟩])++GR s f (p+(Utf8.decode s p).2)=R:=by
    rw[<-hr,List.append_assoc,Z56 hb];rfl
   have next:=ih g (p+(Utf8.decode s p).2) (o++[⟨((Utf8.decode s p).1:Nat)⟩]) (by omega) (by omega) (by rw[List.length_append];simp;omega) hr
   rw[ZN (by simp),ZM (by simp),List.length_append,List.length_singleton] at next
   have k1:(o.length+1)*4<=Z5:=by unfold Z5;omega
   have k2:o.length+1<=Z5:=by unfold Z5;omega
   generalize hK:Z9 8 GF _ _ kx _ (g+1)=KK
   first | (conv=>lhs;rw[GF]) | rw[GF]
   by_cases h0:o.length=0
   ·obtain rfl : o = [] := List.length_eq_zero_iff.1 h0
    rw[Yv,Yw]
    simp only[eG,go_sem,Z3 S,Z2 S,zN0,zN1,zN2,zN3,zN4,zI0,zI1,zI2,zI3,reduceCtorEq,G7 S,Rk,Rj,R9,Z3q hb,XK,XJ,Zq,ZH,ZJ,ZE,ZF,Option.map_some,FG,Nat.beq,Z7t,RX,if_true,JG,Hx,and_self,true_and]
    rw[<-hK,Z8 (on S _ _ [3,7] (by decide) rfl) rfl _ _ _ _ _ _ _ _ _ rfl]
    simp only[eG,go_sem,Z3 S,Z2 S,zN0,zN1,zN2,zN3,zN4,zI0,zI1,zI2,zI3,reduceCtorEq,G7 S,JG,Hx]
    exact next
   ·rw [ZN h0, ZM h0]
    simp only[eG,go_sem,Z3 S,Z2 S,zN0,zN1,zN2,zN3,zN4,zI0,zI1,zI2,zI3,reduceCtorEq,G7 S,Rk,Rj,R9,Z3q hb,XK,XJ,Zq,ZH,ZJ,ZE,ZF,Option.map_some,FG,Nat.beq,Z7t,RX,if_true,JG,Hx,and_self,true_and,Ztc,k1,k2]
    rw[<-hK,Z8 (on S _ _ [3,7] (by decide) rfl) rfl _ _ _ _ _ _ _ _ _ rfl]
    simp only[eG,go_sem,Z3 S,Z2 S,zN0,zN1,zN2,zN3,zN4,zI0,zI1,zI2,zI3,reduceCtorEq,G7 S,JG,Hx]
    exact next
theorem Zks (dp:Nat)(s:ByteArray)(hs:s.size<1073741824):Z6 E fn (dp+2) 50 [vt s] (rD (runes s)):=by
 unfold Z6
 show Z7 (Z4 E fn (dp+1+1) 50 [.d (vt s)] [])=_
 rw[ZD,S.Zaw,ZG,Zg9,ZC _ _ _ _ _ _ _ _ rfl]
 simp only[eG,go_sem,Z3 S,Z2 S,zN0,zN1,zN2,zN3,zN4,zI0,zI1,zI2,zI3,reduceCtorEq,G7 S,XK,XJ]
 rw[Y7,Z8 (on S _ _ [3,7] (by decide) rfl) rfl _ _ _ _ _ _ _ _ _ rfl]
 simp only[eG,go_sem,Z3 S,Z2 S,zN0,zN1,zN2,zN3,zN4,zI0,zI1,zI2,zI3,reduceCtorEq,G7 S]
 have key:=fun(kx:Nat->K) hx=>Zia S (dp+1) s hs kx (runes s) hx s.size 999999999999999999999999999999 0 [] (by omega) (by omega) (Nat.le_refl _) rfl
 rw[Yv,Yw,List.nil_append,List.length_nil] at key
 refine key _ ?_
 intro T p t3
 generalize runes s=R at *
 by_cases h0:R.length=0
 ·obtain rfl : R = [] := List.length_eq_zero_iff.1 h0
  rw[Yv] at t3
  rw[Yw]
  simp only[eG,go_sem,Z3 S,Z2 S,zN0,zN1,zN2,zN3,zN4,zI0,zI1,zI2,zI3,reduceCtorEq,G7 S,t3,JG,Hx]
  try rfl
 ·rw [ZN h0] at t3
  rw[ZM h0]
  have hne:R≠[]:=fun e=>h0 (by rw[e];rfl)
  have hd:deep [.cells ((rC R).map .d) 0 false] 8 (.sref 0 0 0 R.length 1 none)=some (.lst (rC R) R.length none,[0]):=Ax R hne _ rfl 6 1 none rfl
  simp only[eG,go_sem,Z3 S,Z2 S,zN0,zN1,zN2,zN3,zN4,zI0,zI1,zI2,zI3,reduceCtorEq,G7 S,t3,JG,Hx,hd]
  try rfl
end
def CQ:List DV->List ByteArray
 | []=>[]
 | .v (.string s)::l=>s::CQ l
 | _::l=>CQ l
def PG:List DV->Option (AV×List Blk)
 | [.lst cs len _,.v (.string sep)]=>if cs.length=(CQ cs).length/\len=cs.length/\cs.length<=140737488355328/\(Lib.join ((CQ cs).map (·.data.toList)) sep.data.toList).length<=281474976710656 then some (.d (.v (.string ⟨(Lib.join ((CQ cs).map (·.data.toList)) sep.data.toList).toArray⟩)),[]) else none
 | _=>none
def tx (l:List UInt8):ByteArray:=⟨l.toArray⟩
theorem V0 (l:List UInt8):(tx l).data.toList=l:=rfl
theorem Zhe (l:List UInt8):(tx l).size=l.length:=rfl
theorem Zhf (a b:List UInt8):tx a++tx b=tx (a++b):=by
 apply ByteArray.ext
 rw[ByteArray.data_append]
 simp[tx]
def Aq (n:Nat):List UInt8:=if n<10 then[(48+n).toUInt8] else if n<100 then[(48+n/10).toUInt8,(48+n%10).toUInt8] else[(48+n/100).toUInt8,(48+n/10%10).toUInt8,(48+n%10).toUInt8]
def KJ (B:Int):List DV->Option (AV×List Blk)
 | [.v (.int .i64 n)]=>if 0<=n/\n<=B then some (.d (.v (.string (tx (Aq n.toNat)))),[]) else none
 | _=>none
structure Tx where
 s:ByteArray
instance:Cl Tx:=⟨1,fun b=>[vt b.s],fun _=>rfl⟩
instance:Cl1 Tx:=⟨fun _=>rfl,fun _=>rfl⟩
theorem Z4k:∀ ws:List Tx,CQ (rC ws)=ws.map (·.s)
 | []=>rfl
 | w::ws=>by
  have:rC (w::ws)=vt w.s::rC ws:=rfl
  rw[this]
  show w.s::CQ (rC ws)=_
  rw[Z4k ws];rfl
def TJ (ws:List Tx)(sep:List UInt8):ByteArray:=tx (Lib.join (ws.map (·.s.data.toList)) sep)
variable {E:Env}
theorem Z63 {g:FuncId}{G:List DV->Option (AV×List Blk)}(h:E.prim g=some G){ds:List DV}{D:DV}(e:G ds=some (.d D,[]))(hf:D.flat 8=true)(hk:fk 4 D=D)(call:cT)(A:List Blk)(nb:Nat)(us:List Nat):Zv false E call g A nb (some (ds,us))=some (.made (.d D) []):=by
 have hd:deep [] 8 (.d D)=some (D,[]):=rfl
 simp only[Zv,Jk,h,e,F5,cond_false,hd,H5,hf,Bool.or_true,cond_true,hk]
theorem Zsl {g:FuncId}(h:E.prim g=some PG)(ws:List Tx)(sep:List UInt8)(h1:ws.length<=140737488355328)(h2:(Lib.join (ws.map (·.s.data.toList)) sep).length<=281474976710656)(call:cT)(A:List Blk)(nb:Nat)(us:List Nat):Zv false E call g A nb (some ([rD ws,vt (tx sep)],us))=some (.made (.d (vt (TJ ws sep))) []):=by
 have hc:(rC ws).length=ws.length:=by rw[J4];exact Nat.mul_one _
 have e:PG [rD ws,vt (tx sep)]=some (.d (vt (TJ ws sep)),[]):=by
  show(if _ then _ else _)=_
  rw[Z4k,List.map_map]
  rw[if_pos ⟨by rw[hc,List.length_map],hc.symm,by rw[hc];exact h1,h2⟩]
  rfl
 exact Z63 h e rfl rfl call A nb us
theorem Zsm {g:FuncId}{B:Int}(h:E.prim g=some (KJ B)){n:Int}(h0:0<=n)(h1:n<=B)(call:cT)(A:List Blk)(nb:Nat)(us:List Nat):Zv false E call g A nb (some ([.v (.int .i64 n)],us))=some (.made (.d (vt (tx (Aq n.toNat)))) []):=by
 have e:KJ B [.v (.int .i64 n)]=some (.d (vt (tx (Aq n.toNat))),[]):=if_pos ⟨h0,h1⟩
 exact Z63 h e rfl rfl call A nb us
def EM (d:Dir):ByteArray×Bool:=
 bif decide (d.n<0) || decide (999<d.n) then(⟨#[]⟩,false) else
 bif decide (d.kind=1) then(tx (102::32::Aq d.n.toNat),true) else
 bif decide (d.kind=2) then(tx (120::32::Aq d.n.toNat),true) else
 bif decide (d.kind=3) then(tx (97::32::Aq d.n.toNat),true) else
 bif decide (d.kind=4) then(tx [99],decide (d.n=0)) else(⟨#[]⟩,false)
theorem Zcb (n:Nat):(Aq n).length<=3:=by
 unfold Aq
 split
 ·exact Nat.le_succ_of_le (Nat.le_succ_of_le (Nat.le_refl _))
 ·split
  ·exact Nat.le_succ _
  ·exact Nat.le_refl _
theorem Z3y (d:Dir):(EM d).1.data.toList.length<=5:=by
 have:=Zcb d.n.toNat
 unfold EM
 cases decide (d.n<0) || decide (999<d.n) with
 | true=>exact Nat.zero_le _
 | false=>
  cases decide (d.kind=1) with
  | true=>show(tx _).data.toList.length<=5;rw[V0];simp;omega
  | false=>
   cases decide (d.kind=2) with
   | true=>show(tx _).data.toList.length<=5;rw[V0];simp;omega
   | false=>
    cases decide (d.kind=3) with
    | true=>show(tx _).data.toList.length<=5;rw[V0];simp;omega
    | false=>
     cases decide (d.kind=4) with
     | true=>show(1:Nat)<=5;decide
     | false=>exact Nat.zero_le _
theorem Z4j (a b:List UInt8)(h:a.length+b.length<=1099511627776):YT .add (.d (vt (tx a))) (.d (vt (tx b)))=some (.d (vt (tx (a++b)))):=by
 rw[XZ (tx a) (tx b) h,Zhf]
def DZ:List Dir->List Tx->Option (List Tx)
 | [],o=>some o
 | d::l,o=>bif (EM d).2 then DZ l (o++[⟨(EM d).1⟩]) else none
theorem Z3w (d:Dir)(l:List Dir)(o:List Tx):DZ (d::l) o=bif (EM d).2 then DZ l (o++[⟨(EM d).1⟩]) else none:=rfl
def G4 (l:List Dir):ByteArray×Bool:=match DZ l [] with
 | some ws=>(TJ ws [59,32],true)
 | none=>(⟨#[]⟩,false)
theorem Z7w:∀(ws:List (List UInt8)) (sep:List UInt8) (m:Nat),(∀ w ∈ ws,w.length<=m)->(Lib.join ws sep).length<=(m+sep.length)*ws.length:=by
 intro ws sep m h
 cases ws with
 | nil=>exact Nat.zero_le _
 | cons w ws=>
  rw[Lib.join_cons]
  have h1:=h w List.mem_cons_self
  have:∀ l:List (List UInt8),(∀ w ∈ l,w.length<=m)->(Lib.joinTail sep l).length<=(m+sep.length)*l.length:=by
   intro l
   induction l with
   | nil=>intro _;exact Nat.zero_le _
   | cons a l ih=>
    intro hl
    have ha:=hl a List.mem_cons_self
    have hb:=ih fun w hw=>hl w (List.mem_cons_of_mem _ hw)
    show(List.flatten (List.map (sep++ ·) (a::l))).length<=_
    rw[List.map_cons,List.flatten_cons,List.length_append,List.length_append,List.length_cons,Nat.mul_succ]
    unfold Lib.joinTail at hb
    omega
  have h2:=this ws fun w hw=>h w (List.mem_cons_of_mem _ hw)
  rw[List.length_append,List.length_cons,Nat.mul_succ]
  omega
theorem Z3v:∀(l:List Dir) (o ws:List Tx),DZ l o=some ws->(∀ w ∈ o,w.s.data.toList.length<=5)->ws.length=o.length+l.length/\∀ w ∈ ws,w.s.data.toList.length<=5
 | [],o,ws,h,ho=>by
  obtain rfl:o=ws:=Option.some.inj h
  exact⟨rfl,ho⟩
 | d::l,o,ws,h,ho=>by
  unfold DZ at h
  cases hd:(EM d).2 with
  | false=>rw[hd] at h;cases h
  | true=>
   rw[hd,cond_true] at h
   have:=Z3v l (o++[⟨(EM d).1⟩]) ws h (fun w hw=>by
    rcases List.mem_append.1 hw with h1 | h1
    ·exact ho w h1
    ·rw[List.mem_singleton.1 h1];exact Z3y d)
   refine⟨?_,this.2⟩
   rw[this.1,List.length_append,List.length_cons];simp;omega
theorem Zt8 {A:List Blk}{bytes j v:Nat}{out:List Tx}{s:ByteArray}(hA:A[j]? =some (.cells ((rC out).map .d) v false))(h1:(out.length+1)*bytes<=Z5)(h2:out.length+1<=Z5):
  YU A 1 bytes (.sref j v 0 out.length 1 none) [.d (vt s)] 1=some (.turn j (.cells ((rC (out++[⟨s⟩])).map .d) (v+1) false) (.sref j (v+1) 0 (out.length+1) 1 none)):=M0 (x:=(⟨s⟩:Tx)) hA rfl (by decide) rfl h1 h2
theorem TC:Cl.n Tx=1:=rfl
theorem WB:16<=Z5:=by unfold Z5;decide
variable {E:Env} {fn:FuncId->Option (Env->cT->cT)}
section
variable (S:Sur E fn)
include S
theorem MN:E.lives 56 7=none/\E.lives 56 15=none/\E.lives 56 19=none/\E.lives 56 23=none/\E.lives 56 27=none:=⟨off S 56 7 (by decide) rfl,off S 56 15 (by decide) rfl,off S 56 19 (by decide) rfl,off S 56 23 (by decide) rfl,off S 56 27 (by decide) rfl⟩
theorem G8:E.lives 27 1=none/\E.lives 27 17=none:=⟨off S 27 1 (by decide) rfl,off S 27 17 (by decide) rfl⟩
theorem Zj8 (dp:Nat)(d:Dir)(B:Int)(hI:E.prim 98=some (KJ B))(hB:d.n<=B∨999<d.n):Z6 E fn (dp+2) 56 [.agg (Cl.cells d)] (.tup [vt (EM d).1,vb (EM d).2]):=by
 unfold Z6
 show Z7 (Z4 E fn (dp+1+1) 56 [.d (.agg (Cl.cells d))] [])=_
 rw[ZD,S.Z95,ZG,Zej,ZC _ _ _ _ _ _ _ _ rfl]
 obtain⟨k,n⟩:=d
 unfold EM
 simp only[]
 by_cases h0:n<0
 ·rw [decide_eq_true h0, Bool.true_or, cond_true]
  simp only[eG,go_sem,Z3 S,Z2 S,zN0,zN1,zN2,zN3,zN4,zI0,zI1,zI2,zI3,reduceCtorEq,MN S,gt_iff_lt,h0,Jx]
 ·by_cases h9 : 999 < n
  ·rw [decide_eq_true h9, Bool.or_true, cond_true]
   simp only[eG,go_sem,Z3 S,Z2 S,zN0,zN1,zN2,zN3,zN4,zI0,zI1,zI2,zI3,reduceCtorEq,MN S,gt_iff_lt,h0,h9,Jx]
  ·rw [decide_eq_false h0, decide_eq_false h9, Bool.or_false, cond_false]
   have cI:=fun(call:cT) (A:List Blk) (nb:Nat) (us:List Nat)=>Zsm hI (show 0<=n by omega) (show n<=B by simp only at hB;omega) call A nb us
   have hl:=Zcb n.toNat
   generalize Aq n.toNat=D at *
   have a0:YT .add (.d (vt ⟨#[32]⟩)) (.d (vt (tx D)))=some (.d (vt (tx (32::D)))):=Z4j [32] D (by simp;omega)
   have a1:∀ c:UInt8,YT .add (.d (vt ⟨#[c]⟩)) (.d (vt (tx (32::D))))=some (.d (vt (tx (c::32::D)))):=fun c=>Z4j [c] (32::D) (by simp;omega)
   by_cases k1:k=1
   ·rw [decide_eq_true k1, cond_true]
    simp only[eG,go_sem,Z3 S,Z2 S,zN0,zN1,zN2,zN3,zN4,zI0,zI1,zI2,zI3,reduceCtorEq,MN S,gt_iff_lt,h0,h9,Jx,cI,a0,a1,k1]
   ·rw [decide_eq_false k1, cond_false]
    by_cases k2:k=2
    ·rw [decide_eq_true k2, cond_true]
     simp only[eG,go_sem,Z3 S,Z2 S,zN0,zN1,zN2,zN3,zN4,zI0,zI1,zI2,zI3,reduceCtorEq,MN S,gt_iff_lt,h0,h9,Jx,cI,a0,a1,k1,k2]
    ·rw [decide_eq_false k2, cond_false]
     by_cases k3:k=3
     ·rw [decide_eq_true k3, cond_true]
      simp only[eG,go_sem,Z3 S,Z2 S,zN0,zN1,zN2,zN3,zN4,zI0,zI1,zI2,zI3,reduceCtorEq,MN S,gt_iff_lt,h0,h9,Jx,cI,a0,a1,k1,k2,k3]
     ·rw [decide_eq_false k3, cond_false]
      by_cases k4:k=4
      ·rw [decide_eq_true k4, cond_true]
       by_cases hz:n=0
       ·subst hz
        simp only[eG,go_sem,Z3 S,Z2 S,zN0,zN1,zN2,zN3,zN4,zI0,zI1,zI2,zI3,reduceCtorEq,MN S,gt_iff_lt,h0,h9,Jx,cI,a0,a1,k1,k2,k3,k4]
        try rfl
       ·simp only [eG, go_sem, Z3 S, Z2 S, zN0, zN1, zN2, zN3, zN4, zI0, zI1, zI2, zI3, reduceCtorEq, MN S, gt_iff_lt, h0, h9, Jx, cI, a0, a1, k1, k2, k3, k4, hz]
        try rfl
      ·rw [decide_eq_false k4, cond_false]
       simp only[eG,go_sem,Z3 S,Z2 S,zN0,zN1,zN2,zN3,zN4,zI0,zI1,zI2,zI3,reduceCtorEq,MN S,gt_iff_lt,h0,h9,Jx,cI,a0,a1,k1,k2,k3,k4]
theorem Zpn (B:Int)(hI:E.prim 98=some (KJ B))(dp:Nat)(l:List Dir)(hB:∀ d ∈ l,d.n<=B∨999<d.n)(hl:l.length<1000000)(kx:Nat->K)(D:Option DV)
  (h0:DZ l []=none->D=some (.tup [vt ⟨#[]⟩,vb false]))
  (hx:∀ T (R:List Tx),DZ l []=some R->ZX .bot T 4=YN 0 R->Z7 (kx 0 (mk .bot 29 T) (Yz R))=D):
  ∀(m g k:Nat) (o:List Tx),k+m=l.length->m<=g->o.length=k->DZ (l.drop k) o=DZ l []->
  Z7 (M4 (Zj E 27) (Z4 E fn (dp+2)) (Z9 8 M4 (Zj E 27) (Z4 E fn (dp+2)) kx (ZY 0 [.tmp 2,.tmp 3]) g) kx (ZY 0 [.tmp 2,.tmp 3]) (mk .bot 29 [(4,YN 0 o),(9,.d (rD l)),(10,aI l.length),(11,aI k)]) (Yz o))=D:=by
 intro m
 induction m with
 | zero=>
  intro g k o hk _ ho hr
  rw[List.drop_of_length_le (by omega)] at hr
  have hr:some o=DZ l []:=hr
  have hkl:¬(k:Int)<l.length:=by omega
  generalize Z9 8 M4 _ _ kx _ g=KK
  first | (conv=>lhs;rw[M4]) | rw[M4]
  by_cases hz:o.length=0
  ·obtain rfl : o = [] := List.length_eq_zero_iff.1 hz
   have:=fun T h=>hx T [] hr.symm h
   rw[Yv,Yw] at *
   simp only[eG,go_sem,Z3 S,Z2 S,zN0,zN1,zN2,zN3,zN4,zI0,zI1,zI2,zI3,reduceCtorEq,G8 S,hkl]
   exact this _ rfl
  ·have := fun T h => hx T o hr.symm h
   rw[ZN hz,ZM hz] at *
   simp only[eG,go_sem,Z3 S,Z2 S,zN0,zN1,zN2,zN3,zN4,zI0,zI1,zI2,zI3,reduceCtorEq,G8 S,hkl]
   exact this _ rfl
 | succ m ih=>
  intro g k o hk hg ho hr
  obtain⟨g,rfl⟩:∃ j,g=j+1:=⟨g-1,by omega⟩
  obtain⟨d,he⟩:=YK (show k<l.length by omega)
  have hkl:(k:Int)<l.length:=by omega
  have cW:=fun(A:List Blk) (nb:Nat)=>Z6.deep (Zj8 S dp d B hI (hB d (List.mem_of_getElem? he))) (np S 56 (by decide)) A nb
  simp only[Jx] at cW
  rw[Aj he,Z3w] at hr
  have k1:(o.length+1)*16<=Z5:=by unfold Z5;omega
  have k2:o.length+1<=Z5:=by unfold Z5;omega
  generalize hK:Z9 8 M4 _ _ kx _ (g+1)=KK
  first | (conv=>lhs;rw[M4]) | rw[M4]
  generalize EM d=w at *
  obtain⟨w,ok⟩:=w
  cases ok with
  | false=>
   have hr:none=DZ l []:=hr
   have hD:=h0 hr.symm
   by_cases hz:o.length=0
   ·obtain rfl : o = [] := List.length_eq_zero_iff.1 hz
    rw[Yv,Yw]
    simp only[eG,go_sem,Z3 S,Z2 S,zN0,zN1,zN2,zN3,zN4,zI0,zI1,zI2,zI3,reduceCtorEq,G8 S,hkl,Zx he,cW,Bool.not_false,ZH,ZJ,ZE,ZF,Zq,FG,Option.map_some,Nat.zero_add,Nat.one_mul,Nat.zero_mul,and_self,true_and,show(0:Nat)<1 by decide,Jx,WB,RX,TC,if_true]
    exact hD.symm
   ·rw [ZN hz, ZM hz]
    simp only[eG,go_sem,Z3 S,Z2 S,zN0,zN1,zN2,zN3,zN4,zI0,zI1,zI2,zI3,reduceCtorEq,G8 S,hkl,Zx he,cW,Bool.not_false,ZH,ZJ,ZE,ZF,Zq,FG,Option.map_some,Nat.zero_add,Nat.one_mul,Nat.zero_mul,and_self,true_and,show(0:Nat)<1 by decide,Jx,WB,RX,TC,if_true]
    exact hD.symm
  | true=>
   have hr:DZ (l.drop (k+1)) (o++[⟨w⟩])=DZ l []:=hr
   have next:=ih g (k+1) (o++[⟨w⟩]) (by omega) (by omega) (by rw[List.length_append];simp;omega) hr
   rw[ZN (by simp),ZM (by simp),List.length_append,List.length_singleton] at next
   by_cases hz:o.length=0
   ·obtain rfl : o = [] := List.length_eq_zero_iff.1 hz
    rw[Yv,Yw]
    simp only[eG,go_sem,Z3 S,Z2 S,zN0,zN1,zN2,zN3,zN4,zI0,zI1,zI2,zI3,reduceCtorEq,G8 S,hkl,Zx he,cW,Bool.not_true,ZH,ZJ,ZE,ZF,Zq,FG,Option.map_some,Nat.zero_add,Nat.one_mul,Nat.zero_mul,and_self,true_and,show(0:Nat)<1 by decide,Jx,WB,RX,TC,if_true,wi k (by omega)]
    rw[<-hK,Z8 (on S _ _ [4,9,10,11] (by decide) rfl) rfl _ _ _ _ _ _ _ _ _ rfl]
    simp only[eG,go_sem,Z3 S,Z2 S,zN0,zN1,zN2,zN3,zN4,zI0,zI1,zI2,zI3,reduceCtorEq,G8 S]
    exact next
   ·rw [ZN hz, ZM hz]
    simp only[eG,go_sem,Z3 S,Z2 S,zN0,zN1,zN2,zN3,zN4,zI0,zI1,zI2,zI3,reduceCtorEq,G8 S,hkl,Zx he,cW,Bool.not_true,ZH,ZJ,ZE,ZF,Zq,FG,Option.map_some,Nat.zero_add,Nat.one_mul,Nat.zero_mul,and_self,true_and,show(0:Nat)<1 by decide,Jx,WB,RX,TC,if_true,wi k (by omega),Zt8,k1,k2]
    rw[<-hK,Z8 (on S _ _ [4,9,10,11] (by decide) rfl) rfl _ _ _ _ _ _ _ _ _ rfl]
    simp only[eG,go_sem,Z3 S,Z2 S,zN0,zN1,zN2,zN3,zN4,zI0,zI1,zI2,zI3,reduceCtorEq,G8 S]
    exact next
theorem Zjb (dp:Nat)(l:List Dir)(B:Int)(hI:E.prim 98=some (KJ B))(hB:∀ d ∈ l,d.n<=B∨999<d.n)(hJ:E.prim 57=some PG)(hl:l.length<1000000):Z6 E fn (dp+3) 27 [rD l] (.tup [vt (G4 l).1,vb (G4 l).2]):=by
 unfold Z6
 show Z7 (Z4 E fn (dp+2+1) 27 [.d (rD l)] [])=_
 rw[ZD,S.Z99,ZG,Zen,ZC _ _ _ _ _ _ _ _ rfl]
 simp only[eG,go_sem,Z3 S,Z2 S,zN0,zN1,zN2,zN3,zN4,zI0,zI1,zI2,zI3,reduceCtorEq,G8 S]
 rw[Y7,Z8 (on S _ _ [4,9,10,11] (by decide) rfl) rfl _ _ _ _ _ _ _ _ _ rfl]
 simp only[eG,go_sem,Z3 S,Z2 S,zN0,zN1,zN2,zN3,zN4,zI0,zI1,zI2,zI3,reduceCtorEq,G8 S]
 have key:=fun(kx:Nat->K) D h0 hx=>Zpn S B hI dp l hB hl kx D h0 hx l.length 999999999999999999999999999999 0 [] (by omega) (by omega) rfl rfl
 rw[Yv,Yw] at key
 refine key _ _ (fun h=>by unfold G4;rw[h]) ?_
 intro T R hR t4
 have hlen:=Z3v l [] R hR (fun w hw=>by cases hw)
 have hj:=Z7w (R.map (·.s.data.toList)) [59,32] 5 (fun w hw=>by
  obtain⟨x,hx,rfl⟩:=List.mem_map.1 hw
  exact hlen.2 x hx)
 rw[List.length_map,hlen.1] at hj
 have hRl:R.length=l.length:=by rw[hlen.1];simp
 have cJ:=fun(call:cT) (A:List Blk) (nb:Nat) (us:List Nat)=>Zsl hJ R [59,32] (by omega) (Nat.le_trans hj (by simp;omega)) call A nb us
 have e:G4 l=(TJ R [59,32],true):=by unfold G4;rw[hR]
 rw[e]
 simp only[show tx [59,32]=⟨#[59,32]⟩ from rfl] at cJ
 by_cases h0:R.length=0
 ·obtain rfl : R = [] := List.length_eq_zero_iff.1 h0
  rw[Yv] at t4
  rw[Yw]
  simp only[D7] at cJ
  simp only[eG,go_sem,Z3 S,Z2 S,zN0,zN1,zN2,zN3,zN4,zI0,zI1,zI2,zI3,reduceCtorEq,G8 S,t4,cJ]
 ·rw [ZN h0] at t4
  rw[ZM h0]
  have hne:R≠[]:=fun e=>h0 (by rw[e];rfl)
  have hd:deep [.cells ((rC R).map .d) 0 false] 8 (.sref 0 0 0 R.length 1 none)=some (rD R,[0]):=Ax R hne _ rfl 6 1 none rfl
  simp only[eG,go_sem,Z3 S,Z2 S,zN0,zN1,zN2,zN3,zN4,zI0,zI1,zI2,zI3,reduceCtorEq,G8 S,t4,TC,hd,cJ]
end
def Ck (c:Int):Bool:=decide (48<=c)&&decide (c<=57)
def GB:List Rn->Nat
 | []=>0
 | r::t=>bif decide (r.n=32) then GB t+1 else 0
def blk (l:List Rn)(k:Nat):Nat:=k+GB (l.drop k)
theorem Zdg:∀ l:List Rn,GB l<=l.length
 | []=>Nat.le_refl _
 | r::t=>by
  have:=Zdg t
  unfold GB
  cases decide (r.n=32)
  ·simp
  ·simp only[cond_true,List.length_cons];omega
theorem Uw {l:List Rn}{k:Nat}(h:k<=l.length):blk l k<=l.length:=by
 have:=Zdg (l.drop k)
 rw[List.length_drop] at this
 unfold blk;omega
theorem Z3a (l:List Rn)(k:Nat):k<=blk l k:=by unfold blk;omega
theorem Xk {l:List Rn}{k:Nat}{r:Rn}(h:l[k]? =some r):blk l k=bif decide (r.n=32) then blk l (k+1) else k:=by
 unfold blk
 rw[Aj h]
 cases hc:decide (r.n=32)
 ·simp[GB,hc]
 ·simp only[GB,hc,cond_true];omega
theorem Zde {l:List Rn}{k:Nat}(h:l.length<=k):blk l k=k:=by
 unfold blk
 rw[List.drop_of_length_le h];rfl
variable {E:Env} {fn:FuncId->Option (Env->cT->cT)}
section
variable (S:Sur E fn)
include S
theorem P8:E.lives 51 1=none:=off S 51 1 (by decide) rfl
theorem Zku (dp:Nat)(c:Int):Z6 E fn (dp+1) 163 [.v (.int .i32 c)] (vb (Ck c)):=by
 unfold Z6
 show Z7 (Z4 E fn (dp+1) 163 [.d (.v (.int .i32 c))] [])=_
 rw[ZD,S.Zay,ZG,Zgb,ZC _ _ _ _ _ _ _ _ rfl]
 unfold Ck
 by_cases h1:(48:Int)<=c
 ·by_cases h2 : c <= 57
  ·simp only[eG,go_sem,Z3 S,Z2 S,zN0,zN1,zN2,zN3,zN4,zI0,zI1,zI2,zI3,reduceCtorEq,ge_iff_le,h1,h2]
  ·simp only[eG,go_sem,Z3 S,Z2 S,zN0,zN1,zN2,zN3,zN4,zI0,zI1,zI2,zI3,reduceCtorEq,ge_iff_le,h1,h2]
 ·simp only[eG,go_sem,Z3 S,Z2 S,zN0,zN1,zN2,zN3,zN4,zI0,zI1,zI2,zI3,reduceCtorEq,ge_iff_le,h1]
theorem PU (dp:Nat)(c:Int)(A:List Blk)(nb:Nat)(us:List Nat):Zv false E (Z4 E fn (dp+1)) 163 A nb (some ([.v (.int .i32 c)],us))=some (.made (.d (vb (Ck c))) []):=
 Z6.flat (Zku S dp c ) (np S 163 (by decide)) (rfl) A nb us
theorem Zpm (dp:Nat)(l:List Rn)(hl:l.length<1073741824)(kx:Nat->K)(D:Option DV)(R:Nat)
  (hx:∀ T,ZX .bot T 1=.d (vi (R:Nat))->Z7 (kx 0 (mk .bot 19 T) [])=D):
  ∀(m g k:Nat),k+m=l.length->m<=g->blk l k=R->
  Z7 (M8 (Zj E 51) (Z4 E fn dp) (Z9 4 M8 (Zj E 51) (Z4 E fn dp) kx (ZY 0 [.tmp 4]) g) kx (ZY 0 [.tmp 4]) (mk .bot 19 [(0,.d (rD l)),(1,.d (vi (k:Nat)))]) [])=D:=by
 intro m
 induction m with
 | zero=>
  intro g k hk _ hr
  rw[Zde (by omega)] at hr
  subst hr
  generalize Z9 4 M8 _ _ kx _ g=KK
  first | (conv=>lhs;rw[M8]) | rw[M8]
  have hkl:¬(k:Int)<l.length:=by omega
  simp only[eG,go_sem,Z3 S,Z2 S,zN0,zN1,zN2,zN3,zN4,zI0,zI1,zI2,zI3,reduceCtorEq,P8 S,hkl]
  exact hx _ rfl
 | succ m ih=>
  intro g k hk hg hr
  obtain⟨g,rfl⟩:∃ j,g=j+1:=⟨g-1,by omega⟩
  obtain⟨r,he⟩:=YK (show k<l.length by omega)
  have hkl:(k:Int)<l.length:=by omega
  rw[Xk he] at hr
  generalize hK:Z9 4 M8 _ _ kx _ (g+1)=KK
  first | (conv=>lhs;rw[M8]) | rw[M8]
  by_cases h:r.n=32
  ·have next := ih g (k + 1) (by omega) (by omega) (by rw [<- hr, decide_eq_true h]; rfl)
   simp only[eG,go_sem,Z3 S,Z2 S,zN0,zN1,zN2,zN3,zN4,zI0,zI1,zI2,zI3,reduceCtorEq,P8 S,hkl,Zx he .i64 1 rfl,D1,JG,h,wi k (by omega)]
   rw[<-hK,Z8 (on S _ _ [0,1] (by decide) rfl) rfl _ _ _ _ _ _ _ _ _ rfl]
   simp only[eG,go_sem,Z3 S,Z2 S,zN0,zN1,zN2,zN3,zN4,zI0,zI1,zI2,zI3,reduceCtorEq,P8 S]
   exact next
  ·rw [decide_eq_false h] at hr
   have hr:k=R:=hr
   subst hr
   simp only[eG,go_sem,Z3 S,Z2 S,zN0,zN1,zN2,zN3,zN4,zI0,zI1,zI2,zI3,reduceCtorEq,P8 S,hkl,Zx he .i64 1 rfl,D1,JG,h]
   exact hx _ rfl
theorem Zja (dp:Nat)(l:List Rn)(k:Nat)(hl:l.length<1073741824)(hk:k<=l.length):Z6 E fn (dp+2) 51 [rD l,vi (k:Nat)] (vi (blk l k:Nat)):=by
 unfold Z6
 show Z7 (Z4 E fn (dp+1+1) 51 [.d (rD l),.d (vi (k:Nat))] [])=_
 rw[ZD,S.Z97,ZG,Zel,ZC _ _ _ _ _ _ _ _ rfl]
 simp only[eG,go_sem,Z3 S,Z2 S,zN0,zN1,zN2,zN3,zN4,zI0,zI1,zI2,zI3,reduceCtorEq,P8 S]
 rw[Y7,Z8 (on S _ _ [0,1] (by decide) rfl) rfl _ _ _ _ _ _ _ _ _ rfl]
 simp only[eG,go_sem,Z3 S,Z2 S,zN0,zN1,zN2,zN3,zN4,zI0,zI1,zI2,zI3,reduceCtorEq,P8 S]
 refine Zpm S (dp+1) l hl _ _ (blk l k) ?_ (l.length-k) 999999999999999999999999999999 k (by omega) (by omega) rfl
 intro T t1
 simp only[eG,go_sem,Z3 S,Z2 S,zN0,zN1,zN2,zN3,zN4,zI0,zI1,zI2,zI3,reduceCtorEq,P8 S,t1]
theorem X1 (dp:Nat)(l:List Rn)(k:Nat)(hl:l.length<1073741824)(hk:k<=l.length)(A:List Blk)(nb:Nat)(us:List Nat):Zv false E (Z4 E fn (dp+2)) 51 A nb (some ([rD l,vi (k:Nat)],us))=some (.made (.d (vi (blk l k:Nat))) []):=
 Z6.flat (Zja S dp l k hl hk) (np S 51 (by decide)) (rfl) A nb us
end
def Ex (l:List Rn):Nat->Nat->Int->Int×Nat
 | 0,k,n=>(n,k)
 | m+1,k,n=>match l[k]? with
  | some r=>bif Ck r.n then Ex l m (k+1) (10*n+(r.n-48)) else(n,k)
  | none=>(n,k)
theorem Z2c {l:List Rn}{k:Nat}(h:l[k]? =none)(m:Nat)(n:Int):Ex l m k n=(n,k):=by
 cases m with
 | zero=>rfl
 | succ m=>unfold Ex;rw[h]
theorem Z2d {l:List Rn}{k:Nat}{r:Rn}(h:l[k]? =some r)(hd:Ck r.n=false)(m:Nat)(n:Int):Ex l m k n=(n,k):=by
 cases m with
 | zero=>rfl
 | succ m=>unfold Ex;rw[h];simp only[hd,cond_false]
theorem Nw {l:List Rn}{k:Nat}{r:Rn}(h:l[k]? =some r)(hd:Ck r.n=true)(m:Nat)(n:Int):Ex l (m+1) k n=Ex l m (k+1) (10*n+(r.n-48)):=by
 conv=>lhs;unfold Ex
 rw[h];simp only[hd,cond_true]
def Dk (l:List Rn)(k M:Nat):Int×Nat×Bool:=match l[k]? with
 | some r=>bif Ck r.n then(bif decide (r.n=48) then(0,k+1,true) else((Ex l M k 0).1,(Ex l M k 0).2,true)) else(0,k,false)
 | none=>(0,k,false)
theorem WS {c:Int}(h:Ck c=true):48<=c/\c<=57:=by
 simp only[Ck,Bool.and_eq_true,decide_eq_true_eq] at h;exact h
theorem Zr3 {c:Int}(h:Ck c=true):IntKind.i64.wrap (IntKind.i32.wrap (c-48))=c-48:=by
 obtain⟨h1,h2⟩:=WS h
 have e:IntKind.i32.wrap (c-48)=c-48:=by
  unfold IntKind.wrap
  simp only[IntKind.bits,IntKind.signed]
  simp
  omega
 rw[e,YH (by omega) (by omega)]
theorem Zr4 {c n:Int}(h:Ck c=true)(h0:0<=n)(h1:n<1000000000):IntKind.i64.wrap (IntKind.i64.wrap (10*n)+(c-48))=10*n+(c-48):=by
 obtain⟨h1,h2⟩:=WS h
 rw[YH (show -9223372036854775808<=10*n by omega) (by omega),YH (by omega) (by omega)]
theorem Zmf {n:Int}{m:Nat}(h0:0<=n)(h:(n+1)*10^m<=1000000):n<1000000:=by
 have h1:(1:Int)<=10^m:=by
  have:(0:Int)<10^m:=Int.pow_pos (by omega)
  omega
 have:(n+1)*1<=(n+1)*10^m:=Int.mul_le_mul_of_nonneg_left h1 (by omega)
 omega
theorem Zme {n c:Int}{m:Nat}(hc:Ck c=true)(h:(n+1)*10^(m+1)<=1000000):(10*n+(c-48)+1)*10^m<=1000000:=by
 obtain⟨h1,h2⟩:=WS hc
 have hp:(0:Int)<=10^m:=Int.le_of_lt (Int.pow_pos (by omega))
 have h3:(10*n+(c-48)+1)*10^m<=(10*(n+1))*10^m:=Int.mul_le_mul_of_nonneg_right (by omega) hp
 have h4:(n+1)*10^(m+1)=(10*(n+1))*10^m:=by
  rw[Int.pow_succ,Int.mul_comm 10 (n+1),Int.mul_assoc,Int.mul_comm (10^m) 10]
 omega
variable {E:Env} {fn:FuncId->Option (Env->cT->cT)}
section
variable (S:Sur E fn)
include S
theorem Fz:E.lives 95 1=none/\E.lives 95 7=none/\E.lives 95 11=none:=⟨off S 95 1 (by decide) rfl,off S 95 7 (by decide) rfl,off S 95 11 (by decide) rfl⟩
theorem Zpq (dp:Nat)(l:List Rn)(hl:l.length<1073741824)(fr M:Nat)(hM:M<1000)(hfr:fr<=l.length)(kx:Nat->K)(D:Option DV)(R:Int×Nat)
  (hx:∀ T,ZX .bot T 9=.d (vi R.1)->ZX .bot T 1=.d (vi (R.2:Nat))->Z7 (kx 0 (mk .bot 63 T) [])=D):
  ∀(m g k:Nat) (n:Int),k+m=fr+M->fr<=k->k<=l.length->m<g->0<=n->(n+1)*10^m<=1000000->Ex l m k n=R->
  Z7 (EK (Zj E 95) (Z4 E fn (dp+1)) (Z9 14 EK (Zj E 95) (Z4 E fn (dp+1)) kx (ZY 0 [.tmp 6,.tmp 7,.tmp 8]) g) kx (ZY 0 [.tmp 6,.tmp 7,.tmp 8]) (mk .bot 63 [(0,.d (rD l)),(1,.d (vi (k:Nat))),(2,.d (vi (M:Nat))),(9,.d (vi n)),(10,.d (vi (fr:Nat)))]) [])=D:=by
 intro m
 induction m with
 | zero=>
  intro g k n hk hfk hkl hg h0 hp hr
  have hr:(n,k)=R:=hr
  subst hr
  have hd:¬(k:Int)-fr<M:=by omega
  have hw:IntKind.i64.wrap ((k:Int)-fr)=(k:Int)-fr:=YH (by omega) (by omega)
  generalize Z9 14 EK _ _ kx _ g=KK
  first | (conv=>lhs;rw[EK]) | rw[EK]
  by_cases hin:k<l.length
  ·obtain ⟨r, he⟩ := YK hin
   have hi:(k:Int)<l.length:=by omega
   cases hdg:Ck r.n with
   | false=>
    simp only[eG,go_sem,Z3 S,Z2 S,zN0,zN1,zN2,zN3,zN4,zI0,zI1,zI2,zI3,reduceCtorEq,Fz S,hi,Zx he .i64 1 rfl,D1,JG,PU S,hdg]
    exact hx _ rfl rfl
   | true=>
    simp only[eG,go_sem,Z3 S,Z2 S,zN0,zN1,zN2,zN3,zN4,zI0,zI1,zI2,zI3,reduceCtorEq,Fz S,hi,Zx he .i64 1 rfl,D1,JG,PU S,hdg,hw,hd]
    exact hx _ rfl rfl
  ·have hi : ¬ (k : Int) < l.length := by omega
   simp only[eG,go_sem,Z3 S,Z2 S,zN0,zN1,zN2,zN3,zN4,zI0,zI1,zI2,zI3,reduceCtorEq,Fz S,hi]
   exact hx _ rfl rfl
 | succ m ih=>
  intro g k n hk hfk hkl hg h0 hp hr
  obtain⟨g,rfl⟩:∃ j,g=j+1:=⟨g-1,by omega⟩
  have hd:(k:Int)-fr<M:=by omega
  have hw:IntKind.i64.wrap ((k:Int)-fr)=(k:Int)-fr:=YH (by omega) (by omega)
  have hn:=Zmf h0 hp
  by_cases hin:k<l.length
  ·obtain ⟨r, he⟩ := YK hin
   have hi:(k:Int)<l.length:=by omega
   cases hdg:Ck r.n with
   | false=>
    rw[Z2d he hdg] at hr
    subst hr
    generalize Z9 14 EK _ _ kx _ (g+1)=KK
    first | (conv=>lhs;rw[EK]) | rw[EK]
    simp only[eG,go_sem,Z3 S,Z2 S,zN0,zN1,zN2,zN3,zN4,zI0,zI1,zI2,zI3,reduceCtorEq,Fz S,hi,Zx he .i64 1 rfl,D1,JG,PU S,hdg]
    exact hx _ rfl rfl
   | true=>
    rw[Nw he hdg] at hr
    have hdl:=WS hdg
    have next:=ih g (k+1) _ (by omega) (by omega) (by omega) (by omega) (by omega) (Zme hdg hp) hr
    have e1:=Zr3 hdg
    have e2:=Zr4 hdg h0 (by omega)
    generalize hK:Z9 14 EK _ _ kx _ (g+1)=KK
    first | (conv=>lhs;rw[EK]) | rw[EK]
    simp only[eG,go_sem,Z3 S,Z2 S,zN0,zN1,zN2,zN3,zN4,zI0,zI1,zI2,zI3,reduceCtorEq,Fz S,hi,Zx he .i64 1 rfl,D1,JG,PU S,hdg,hw,hd,e1,e2,wi k (by omega)]
    rw[<-hK,Z8 (on S _ _ [0,1,2,9,10] (by decide) rfl) rfl _ _ _ _ _ _ _ _ _ rfl]
    simp only[eG,go_sem,Z3 S,Z2 S,zN0,zN1,zN2,zN3,zN4,zI0,zI1,zI2,zI3,reduceCtorEq,Fz S]
    exact next
  ·have hi : ¬ (k : Int) < l.length := by omega
   rw[Z2c (List.getElem?_eq_none (by omega))] at hr
   subst hr
   generalize Z9 14 EK _ _ kx _ (g+1)=KK
   first | (conv=>lhs;rw[EK]) | rw[EK]
   simp only[eG,go_sem,Z3 S,Z2 S,zN0,zN1,zN2,zN3,zN4,zI0,zI1,zI2,zI3,reduceCtorEq,Fz S,hi]
   exact hx _ rfl rfl
theorem Zkt (dp:Nat)(l:List Rn)(k M:Nat)(hl:l.length<1073741824)(hk:k<=l.length)(hM:M<=6):Z6 E fn (dp+3) 95 [rD l,vi (k:Nat),vi (M:Nat)] (.tup [vi (Dk l k M).1,vi ((Dk l k M).2.1:Nat),vb (Dk l k M).2.2]):=by
 unfold Z6
 show Z7 (Z4 E fn (dp+2+1) 95 [.d (rD l),.d (vi (k:Nat)),.d (vi (M:Nat))] [])=_
 rw[ZD,S.Zax,ZG,Zga,ZC _ _ _ _ _ _ _ _ rfl]
 unfold Dk
 by_cases hin:k<l.length
 ·obtain ⟨r, he⟩ := YK hin
  have hi:(k:Int)<l.length:=by omega
  rw[he]
  simp only[]
  cases hdg:Ck r.n with
  | false=>simp only[eG,go_sem,Z3 S,Z2 S,zN0,zN1,zN2,zN3,zN4,zI0,zI1,zI2,zI3,reduceCtorEq,Fz S,hi,Zx he .i64 1 rfl,D1,JG,PU S,hdg,ge_iff_le,Int.not_le,cond_false,Bool.not_false,Bool.not_true,show ¬(l.length:Int)<=k by omega]
  | true=>
   by_cases hz:r.n=48
   ·simp only[eG,go_sem,Z3 S,Z2 S,zN0,zN1,zN2,zN3,zN4,zI0,zI1,zI2,zI3,reduceCtorEq,Fz S,hi,Zx he .i64 1 rfl,D1,JG,PU S,hdg,ge_iff_le,cond_true,Bool.not_false,Bool.not_true,show ¬(l.length:Int)<=k by omega,hz,decide_true,wi k (by omega),show Ck 48=true from rfl]
   ·rw [decide_eq_false hz, cond_true, cond_false]
    simp only[eG,go_sem,Z3 S,Z2 S,zN0,zN1,zN2,zN3,zN4,zI0,zI1,zI2,zI3,reduceCtorEq,Fz S,hi,Zx he .i64 1 rfl,D1,JG,PU S,hdg,ge_iff_le,cond_true,cond_false,Bool.not_false,Bool.not_true,show ¬(l.length:Int)<=k by omega,hz,decide_false]
    rw[Y7,Z8 (on S _ _ [0,1,2,9,10] (by decide) rfl) rfl _ _ _ _ _ _ _ _ _ rfl]
    simp only[eG,go_sem,Z3 S,Z2 S,zN0,zN1,zN2,zN3,zN4,zI0,zI1,zI2,zI3,reduceCtorEq,Fz S]
    have hp:((0:Int)+1)*10^M<=1000000:=by
     have h:M=0∨M=1∨M=2∨M=3∨M=4∨M=5∨M=6:=by omega
     rcases h with rfl | rfl | rfl | rfl | rfl | rfl | rfl<;>decide
    refine Zpq S (dp+1) l hl k M (by omega) hk _ _ (Ex l M k 0) ?_ M 999999999999999999999999999999 k 0 (by omega) (Nat.le_refl _) hk (by omega) (Int.le_refl _) hp rfl
    intro T t9 t1
    simp only[eG,go_sem,Z3 S,Z2 S,zN0,zN1,zN2,zN3,zN4,zI0,zI1,zI2,zI3,reduceCtorEq,Fz S,t9,t1]
 ·have hn : l[k]? = none := List.getElem?_eq_none (by omega)
  rw[hn]
  simp only[eG,go_sem,Z3 S,Z2 S,zN0,zN1,zN2,zN3,zN4,zI0,zI1,zI2,zI3,reduceCtorEq,Fz S,ge_iff_le,show(l.length:Int)<=k by omega]
theorem Zsk (dp:Nat)(l:List Rn)(k M:Nat)(hl:l.length<1073741824)(hk:k<=l.length)(hM:M<=6)(A:List Blk)(nb:Nat)(us:List Nat):Zv false E (Z4 E fn (dp+3)) 95 A nb (some ([rD l,vi (k:Nat),vi (M:Nat)],us))=some (.made (.d (.tup [vi (Dk l k M).1,vi ((Dk l k M).2.1:Nat),vb (Dk l k M).2.2])) []):=
 Z6.flat (Zkt S dp l k M hl hk hM) (np S 95 (by decide)) (rfl) A nb us
end
end Go.Aug.Mc
