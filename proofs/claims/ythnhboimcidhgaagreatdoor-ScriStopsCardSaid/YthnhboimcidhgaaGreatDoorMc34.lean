import Derived.Test.YthnhboimcidhgaaGreatDoorMc10
import Derived.Test.YthnhboimcidhgaaGreatDoorMc13
import Derived.Test.YthnhboimcidhgaaGreatDoorMc20
import Derived.Test.YthnhboimcidhgaaGreatDoorMc24
import Derived.Test.YthnhboimcidhgaaGreatDoorMc6
namespace Go.Aug.Mc
open Go Go.Aug
open Nat renaming reduceLT -> zN0, reduceEqDiff -> zN1, reduceAdd -> zN2, reduceMul -> zN3, reduceLeDiff -> zN4
open Int renaming reduceEq -> zI0, reduceLT -> zI1, reduceLE -> zI2, reduceNeg -> zI3
set_option linter.unusedSimpArgs false
set_option linter.unusedVariables false
set_option maxHeartbeats 40000000
set_option maxRecDepth 200000
theorem Y6 (ps:List (Opd×Opd))(k:K)(tm:List AV)(A:List Blk):Ztp ps k tm A=bif Z2y tm ps then k tm A else none:=id rfl
theorem Z09 (tm:List AV)(p:Opd×Opd)(l:List (Opd×Opd)):Z2y tm (p::l)=(Zej (look tm p.1) (look tm p.2)&&Z2y tm l):=id rfl
theorem Z0a (tm:List AV):Z2y tm []=true:=id rfl
theorem Z08 (i v o j w q:Nat):Zej (.ref i v o) (.ref j w q)= !Nat.beq i j:=id rfl
theorem Zie (l:List Ent)(i:Int)(e:Ent):Md.cut (l.set i.toNat e) i=Md.cut l i:=by
 unfold Md.cut;rw[List.take_set_of_le (Nat.le_refl _)]
theorem Z0d (p:Prog)(c:Conf)(i:Int)(e:Ent)(v:Val):Md.valM p ⟨c.state,c.buf.set i.toNat e,c.rsb,c.end_⟩ i v=Md.valM p c i v:=by
 unfold Md.valM Md.val Md.reg;simp only[Zie]
theorem Z0q (p:Prog)(c:Conf)(i:Int)(e:Ent)(r:Int):Md.regM p ⟨c.state,c.buf.set i.toNat e,c.rsb,c.end_⟩ i r=Md.regM p c i r:=by
 unfold Md.regM Md.reg;simp only[Zie]
theorem Jo (p:Prog)(mem:List Int)(l:List Ent)(i a:Int)(e:Ent):Md.load p mem (l.set i.toNat e) i a=Md.load p mem l i a:=by
 unfold Md.load;rw[Zie]
theorem J7 (p:Prog)(st:List Int)(l:List Ent)(i:Int)(e:Ent):Md.real p st (l.set i.toNat e) i=Md.real p st l i:=by
 unfold Md.real;rw[Zie]
theorem Ye (A:List Blk)(s bytes n:Nat)(new:List AV)(h0:n≠0)(h1:n*bytes<=Zf)(h2:n<=Zf):Qs A s bytes (.d (.lst [] 0 (some 0))) new n=some (.fresh new n):=by
 obtain⟨m,rfl⟩:∃ m,n=m+1:=⟨n-1,by omega⟩
 rw[Zpz,Nat.zero_add,if_pos ⟨by omega,by simp,h1,h2⟩];rfl
theorem Zio {l:List Ent}{k:Nat}{e:Ent}(he:l[k]? =some e)(i v:Nat)(A:List Blk)(b:Bool):storeAt A i v (k*8+5) [.d (vb b)] 1 (some (.cells ((rC l).map .d) v false))=some (A.set i (.cells ((rC (l.set k { e with done:=b })).map .d) v false)):=
 Zc7 (o:=5) (e':={ e with done:=b }) [vb b] he rfl rfl rfl rfl (by show 5+1<=8;decide) 8 rfl _ rfl
theorem ldI {r junk:List Int}(h:r.length≠0):Jw false 1 (((rC (r++junk)).map AV.d).drop (r.length-1))=some (.d (vi (Md.lastI r))):=by
 have e1:∀ l:List Int,rC l=l.map vi:=by
  intro l
  induction l with
  | nil=>rfl
  | cons a l ih=>show Cl.cells a++rC l=_;rw[ih];rfl
 have e2:(((rC (r++junk)).map AV.d).drop (r.length-1)).head? =some (.d (vi (Md.lastI r))):=by
  rw[List.head?_drop,List.getElem?_map,e1,List.getElem?_map,List.getElem?_append_left (by omega),Zi0 h];rfl
 exact e2
theorem Z1d {l:List Ent}(n:Nat)(h:n<=l.length):DV.lst (rC (l.take n)) n none=rD (l.take n):=by
 unfold rD;rw[List.length_take,Nat.min_eq_left h]
variable {E:Env} {fn:FuncId->Option (Env->cT->cT)}
section
variable (S:Sur E fn)
include S
theorem Z1x:E.lives 81 7=none/\E.lives 81 23=none/\E.lives 81 27=none/\E.lives 81 31=none/\E.lives 81 35=none/\E.lives 81 39=none/\E.lives 81 43=none/\E.lives 81 53=none/\E.lives 81 59=none/\E.lives 81 67=none/\E.lives 81 73=none/\E.lives 81 77=none:=⟨off S 81 7 (by decide) rfl,off S 81 23 (by decide) rfl,off S 81 27 (by decide) rfl,off S 81 31 (by decide) rfl,off S 81 35 (by decide) rfl,off S 81 39 (by decide) rfl,off S 81 43 (by decide) rfl,off S 81 53 (by decide) rfl,off S 81 59 (by decide) rfl,off S 81 67 (by decide) rfl,off S 81 73 (by decide) rfl,off S 81 77 (by decide) rfl⟩
theorem Zs6 (dp:Nat)(p:Prog)(c:Conf)(i:Int)(hl:c.buf.length<1073741824)(hs:c.state.stack.length<1073741824)(hg:(Zd4 (Md.real p c.state.stack c.buf i)).length<1073741824)(hz:Md.can (c.state.mem.length:Int) p c i=true->(Md.insM p c i).kind=2->(Md.entAt c.buf i).val=0/\(Md.entAt c.buf i).frm= -1):Zk E fn (dp+6) 81 [Zn p,Zv c,vi i] (.tup [Zv (doC (c.state.mem.length:Int) p c i).1,rD (doC (c.state.mem.length:Int) p c i).2,vb (Md.can (c.state.mem.length:Int) p c i)]):=by
 unfold Zk
 show Zh (evC E fn (dp+5+1) 81 [.d (Zn p),.d (Zv c),.d (vi i)] [])=_
 rw[Z2,S.Ztf,Z3,Zum,Z6 _ _ _ _ _ _ _ _ rfl]
 cases hcan:Md.can (c.state.mem.length:Int) p c i with
 | false=>simp only[eG,go_sem,thq S,nbr S,zN0,zN1,zN2,zN3,zN4,zI0,zI1,zI2,zI3,reduceCtorEq,Z1x S,Qa S,hl,hcan,Bool.not_false,doC,Md.conf0]
 | true=>
  have ho:=Zpt hcan
  obtain⟨h0,he,h1⟩:=Z51 ho
  replace hz:=hz hcan
  have hn:c.buf.length≠0:=by omega
  have hk:i.toNat<c.buf.length:=by omega
  have hk1:i.toNat+1<=c.buf.length:=hk
  have b1:c.buf.length*48<=Zf:=by unfold Zf;omega
  have b2:c.buf.length<=Zf:=by unfold Zf;omega
  have hx:Md.at_ p (Md.entAt c.buf i).pc=Md.insM p c i:=rfl
  generalize hxx:Md.insM p c i=x at *
  generalize hee:Md.entAt c.buf i=e at *
  have hv:∀ v:Val,(Md.val p c.state.regs (c.buf.set i.toNat { e with done:=true }) i v)=Md.valM p c i v:=fun v=>Z0d p c i _ v
  generalize hB:(Zp 0 _:CT)=BB
  simp only[eG,go_sem,thq S,nbr S,zN0,zN1,zN2,zN3,zN4,zI0,zI1,zI2,zI3,reduceCtorEq,Z1x S,Nat.add_zero,Qa S,hl,hcan,Bool.not_true,h0,h1,hn,Ye,b1,b2,ne_eq,not_false_eq_true,Jd,Je,Zj,Z7,J3,Zl,Nat.zero_add,Nat.zero_mul,Zio he,ld0 hk,cA7 S,hx,hk,Y6,Z09,Z0a,Z08,Zo,Z19,Jy,Qm,Jv,Z1d,List.length_set,Nat.le_refl,Option.bind_some,Option.map_some,Ya S,Z0d,Z0q]
  rw[<-hB]
  clear hB BB
  by_cases k1:x.kind=1
  ·simp only[eG,go_sem,thq S,nbr S,zN0,zN1,zN2,zN3,zN4,zI0,zI1,zI2,zI3,reduceCtorEq,Z1x S,Nat.add_zero,Qa S,hl,hcan,Bool.not_true,h0,h1,hn,Ye,b1,b2,ne_eq,not_false_eq_true,Jd,Je,Zj,Z7,J3,Zl,Nat.zero_add,Nat.zero_mul,Zio he,ld0 hk,cA7 S,hx,hk,Y6,Z09,Z0a,Z08,Zo,Z19,Jy,Qm,Jv,Z1d,List.length_set,Nat.le_refl,Option.bind_some,Option.map_some,Ya S,Z0d,Z0q,wr1 hk,wr2 hk,wr3 hk,wr6 hk,wr7 hk,ld2 hk,Z12 S,Y7 S,Q9 S,Jo,J7,Y5 S,Qq S,List.set_set,doC,Md.doM,Md.doK,Md.put,hxx,hee,Md.mask_wrap,k1]
  by_cases k4:x.kind=4
  ·by_cases ha : (Md.valM p c i x.a).1 = 0
   ·simp only[eG,go_sem,thq S,nbr S,zN0,zN1,zN2,zN3,zN4,zI0,zI1,zI2,zI3,reduceCtorEq,Z1x S,Nat.add_zero,Qa S,hl,hcan,Bool.not_true,h0,h1,hn,Ye,b1,b2,ne_eq,not_false_eq_true,Jd,Je,Zj,Z7,J3,Zl,Nat.zero_add,Nat.zero_mul,Zio he,ld0 hk,cA7 S,hx,hk,Y6,Z09,Z0a,Z08,Zo,Z19,Jy,Qm,Jv,Z1d,List.length_set,Nat.le_refl,Option.bind_some,Option.map_some,Ya S,Z0d,Z0q,wr1 hk,wr2 hk,wr3 hk,wr6 hk,wr7 hk,ld2 hk,Z12 S,Y7 S,Q9 S,Jo,J7,Y5 S,Qq S,List.set_set,doC,Md.doM,Md.doK,Md.put,hxx,hee,Md.mask_wrap,k4,ha,Bool.not_true,Bool.not_false]
   ·simp only[eG,go_sem,thq S,nbr S,zN0,zN1,zN2,zN3,zN4,zI0,zI1,zI2,zI3,reduceCtorEq,Z1x S,Nat.add_zero,Qa S,hl,hcan,Bool.not_true,h0,h1,hn,Ye,b1,b2,ne_eq,not_false_eq_true,Jd,Je,Zj,Z7,J3,Zl,Nat.zero_add,Nat.zero_mul,Zio he,ld0 hk,cA7 S,hx,hk,Y6,Z09,Z0a,Z08,Zo,Z19,Jy,Qm,Jv,Z1d,List.length_set,Nat.le_refl,Option.bind_some,Option.map_some,Ya S,Z0d,Z0q,wr1 hk,wr2 hk,wr3 hk,wr6 hk,wr7 hk,ld2 hk,Z12 S,Y7 S,Q9 S,Jo,J7,Y5 S,Qq S,List.set_set,doC,Md.doM,Md.doK,Md.put,hxx,hee,Md.mask_wrap,k4,ha,Bool.not_true,Bool.not_false]
  by_cases k3:x.kind=3
  ·simp only[eG,go_sem,thq S,nbr S,zN0,zN1,zN2,zN3,zN4,zI0,zI1,zI2,zI3,reduceCtorEq,Z1x S,Nat.add_zero,Qa S,hl,hcan,Bool.not_true,h0,h1,hn,Ye,b1,b2,ne_eq,not_false_eq_true,Jd,Je,Zj,Z7,J3,Zl,Nat.zero_add,Nat.zero_mul,Zio he,ld0 hk,cA7 S,hx,hk,Y6,Z09,Z0a,Z08,Zo,Z19,Jy,Qm,Jv,Z1d,List.length_set,Nat.le_refl,Option.bind_some,Option.map_some,Ya S,Z0d,Z0q,wr1 hk,wr2 hk,wr3 hk,wr6 hk,wr7 hk,ld2 hk,Z12 S,Y7 S,Q9 S,Jo,J7,Y5 S,Qq S,List.set_set,doC,Md.doM,Md.doK,Md.put,hxx,hee,Md.mask_wrap,k3]
  by_cases k2:x.kind=2
  ·obtain ⟨z1, z2⟩ := hz k2
   by_cases hin:Md.mask p.w ((Md.valM p c i x.a).1+(Md.valM p c i x.b).1)>=(c.state.mem.length:Int)
   ·simp only[eG,go_sem,thq S,nbr S,zN0,zN1,zN2,zN3,zN4,zI0,zI1,zI2,zI3,reduceCtorEq,Z1x S,Nat.add_zero,Qa S,hl,hcan,Bool.not_true,h0,h1,hn,Ye,b1,b2,ne_eq,not_false_eq_true,Jd,Je,Zj,Z7,J3,Zl,Nat.zero_add,Nat.zero_mul,Zio he,ld0 hk,cA7 S,hx,hk,Y6,Z09,Z0a,Z08,Zo,Z19,Jy,Qm,Jv,Z1d,List.length_set,Nat.le_refl,Option.bind_some,Option.map_some,Ya S,Z0d,Z0q,wr1 hk,wr2 hk,wr3 hk,wr6 hk,wr7 hk,ld2 hk,Z12 S,Y7 S,Q9 S,Jo,J7,Y5 S,Qq S,List.set_set,doC,Md.doM,Md.doK,Md.put,hxx,hee,Md.mask_wrap,k2,hin,z1,z2]
   ·simp only[eG,go_sem,thq S,nbr S,zN0,zN1,zN2,zN3,zN4,zI0,zI1,zI2,zI3,reduceCtorEq,Z1x S,Nat.add_zero,Qa S,hl,hcan,Bool.not_true,h0,h1,hn,Ye,b1,b2,ne_eq,not_false_eq_true,Jd,Je,Zj,Z7,J3,Zl,Nat.zero_add,Nat.zero_mul,Zio he,ld0 hk,cA7 S,hx,hk,Y6,Z09,Z0a,Z08,Zo,Z19,Jy,Qm,Jv,Z1d,List.length_set,Nat.le_refl,Option.bind_some,Option.map_some,Ya S,Z0d,Z0q,wr1 hk,wr2 hk,wr3 hk,wr6 hk,wr7 hk,ld2 hk,Z12 S,Y7 S,Q9 S,Jo,J7,Y5 S,Qq S,List.set_set,doC,Md.doM,Md.doK,Md.put,hxx,hee,Md.mask_wrap,k2,hin,z1,z2];rfl
  by_cases k5:x.kind=5
  ·by_cases hw : Md.wdo p.w x.op (Md.valM p c i x.a).1 (Md.valM p c i x.b).1 = 0
   ·by_cases ht : e.next = IntKind.i64.wrap (e.pc + 1)
    ·simp only[eG,go_sem,thq S,nbr S,zN0,zN1,zN2,zN3,zN4,zI0,zI1,zI2,zI3,reduceCtorEq,Z1x S,Nat.add_zero,Qa S,hl,hcan,Bool.not_true,h0,h1,hn,Ye,b1,b2,ne_eq,not_false_eq_true,Jd,Je,Zj,Z7,J3,Zl,Nat.zero_add,Nat.zero_mul,Zio he,ld0 hk,cA7 S,hx,hk,Y6,Z09,Z0a,Z08,Zo,Z19,Jy,Qm,Jv,Z1d,List.length_set,Nat.le_refl,Option.bind_some,Option.map_some,Ya S,Z0d,Z0q,wr1 hk,wr2 hk,wr3 hk,wr6 hk,wr7 hk,ld2 hk,Z12 S,Y7 S,Q9 S,Jo,J7,Y5 S,Qq S,List.set_set,doC,Md.doM,Md.doK,Md.put,hxx,hee,Md.mask_wrap,show Nat.ble 1 1=true from rfl,J1,Z38,J2,Yx,Qw,Yt,Yr,Z0p,J0,Zbd,Z0o,Z0m,Qx,Yu,Yv,Z3k,Z0n,Y9,Qz,Yw,List.getD_cons_zero,List.getD_cons_succ,List.drop_succ_cons,List.drop_zero,Nat.ble_eq,Nat.le_refl,List.length_cons,List.length_nil,Z48 S,Bool.not_true,Bool.not_false,Md.goesM,Md.w64,List.length_set,k5,hw,eq_true ht];rfl
    ·simp only[eG,go_sem,thq S,nbr S,zN0,zN1,zN2,zN3,zN4,zI0,zI1,zI2,zI3,reduceCtorEq,Z1x S,Nat.add_zero,Qa S,hl,hcan,Bool.not_true,h0,h1,hn,Ye,b1,b2,ne_eq,not_false_eq_true,Jd,Je,Zj,Z7,J3,Zl,Nat.zero_add,Nat.zero_mul,Zio he,ld0 hk,cA7 S,hx,hk,Y6,Z09,Z0a,Z08,Zo,Z19,Jy,Qm,Jv,Z1d,List.length_set,Nat.le_refl,Option.bind_some,Option.map_some,Ya S,Z0d,Z0q,wr1 hk,wr2 hk,wr3 hk,wr6 hk,wr7 hk,ld2 hk,Z12 S,Y7 S,Q9 S,Jo,J7,Y5 S,Qq S,List.set_set,doC,Md.doM,Md.doK,Md.put,hxx,hee,Md.mask_wrap,show Nat.ble 1 1=true from rfl,J1,Z38,J2,Yx,Qw,Yt,Yr,Z0p,J0,Zbd,Z0o,Z0m,Qx,Yu,Yv,Z3k,Z0n,Y9,Qz,Yw,List.getD_cons_zero,List.getD_cons_succ,List.drop_succ_cons,List.drop_zero,Nat.ble_eq,Nat.le_refl,List.length_cons,List.length_nil,Z48 S,Bool.not_true,Bool.not_false,Md.goesM,Md.w64,List.length_set,k5,hw,ht,hk1];rfl
   ·by_cases ht : e.next = x.target
    ·simp only[eG,go_sem,thq S,nbr S,zN0,zN1,zN2,zN3,zN4,zI0,zI1,zI2,zI3,reduceCtorEq,Z1x S,Nat.add_zero,Qa S,hl,hcan,Bool.not_true,h0,h1,hn,Ye,b1,b2,ne_eq,not_false_eq_true,Jd,Je,Zj,Z7,J3,Zl,Nat.zero_add,Nat.zero_mul,Zio he,ld0 hk,cA7 S,hx,hk,Y6,Z09,Z0a,Z08,Zo,Z19,Jy,Qm,Jv,Z1d,List.length_set,Nat.le_refl,Option.bind_some,Option.map_some,Ya S,Z0d,Z0q,wr1 hk,wr2 hk,wr3 hk,wr6 hk,wr7 hk,ld2 hk,Z12 S,Y7 S,Q9 S,Jo,J7,Y5 S,Qq S,List.set_set,doC,Md.doM,Md.doK,Md.put,hxx,hee,Md.mask_wrap,show Nat.ble 1 1=true from rfl,J1,Z38,J2,Yx,Qw,Yt,Yr,Z0p,J0,Zbd,Z0o,Z0m,Qx,Yu,Yv,Z3k,Z0n,Y9,Qz,Yw,List.getD_cons_zero,List.getD_cons_succ,List.drop_succ_cons,List.drop_zero,Nat.ble_eq,Nat.le_refl,List.length_cons,List.length_nil,Z48 S,Bool.not_true,Bool.not_false,Md.goesM,Md.w64,List.length_set,k5,hw,eq_true ht];rfl
    ·simp only[eG,go_sem,thq S,nbr S,zN0,zN1,zN2,zN3,zN4,zI0,zI1,zI2,zI3,reduceCtorEq,Z1x S,Nat.add_zero,Qa S,hl,hcan,Bool.not_true,h0,h1,hn,Ye,b1,b2,ne_eq,not_false_eq_true,Jd,Je,Zj,Z7,J3,Zl,Nat.zero_add,Nat.zero_mul,Zio he,ld0 hk,cA7 S,hx,hk,Y6,Z09,Z0a,Z08,Zo,Z19,Jy,Qm,Jv,Z1d,List.length_set,Nat.le_refl,Option.bind_some,Option.map_some,Ya S,Z0d,Z0q,wr1 hk,wr2 hk,wr3 hk,wr6 hk,wr7 hk,ld2 hk,Z12 S,Y7 S,Q9 S,Jo,J7,Y5 S,Qq S,List.set_set,doC,Md.doM,Md.doK,Md.put,hxx,hee,Md.mask_wrap,show Nat.ble 1 1=true from rfl,J1,Z38,J2,Yx,Qw,Yt,Yr,Z0p,J0,Zbd,Z0o,Z0m,Qx,Yu,Yv,Z3k,Z0n,Y9,Qz,Yw,List.getD_cons_zero,List.getD_cons_succ,List.drop_succ_cons,List.drop_zero,Nat.ble_eq,Nat.le_refl,List.length_cons,List.length_nil,Z48 S,Bool.not_true,Bool.not_false,Md.goesM,Md.w64,List.length_set,k5,hw,ht,hk1];rfl
  by_cases k7:x.kind=7
  ·by_cases ht : e.next = min (Md.valM p c i x.a).1 p.ins.length
   ·simp only[eG,go_sem,thq S,nbr S,zN0,zN1,zN2,zN3,zN4,zI0,zI1,zI2,zI3,reduceCtorEq,Z1x S,Nat.add_zero,Qa S,hl,hcan,Bool.not_true,h0,h1,hn,Ye,b1,b2,ne_eq,not_false_eq_true,Jd,Je,Zj,Z7,J3,Zl,Nat.zero_add,Nat.zero_mul,Zio he,ld0 hk,cA7 S,hx,hk,Y6,Z09,Z0a,Z08,Zo,Z19,Jy,Qm,Jv,Z1d,List.length_set,Nat.le_refl,Option.bind_some,Option.map_some,Ya S,Z0d,Z0q,wr1 hk,wr2 hk,wr3 hk,wr6 hk,wr7 hk,ld2 hk,Z12 S,Y7 S,Q9 S,Jo,J7,Y5 S,Qq S,List.set_set,doC,Md.doM,Md.doK,Md.put,hxx,hee,Md.mask_wrap,show Nat.ble 1 1=true from rfl,J1,Z38,J2,Yx,Qw,Yt,Yr,Z0p,J0,Zbd,Z0o,Z0m,Qx,Yu,Yv,Z3k,Z0n,Y9,Qz,Yw,List.getD_cons_zero,List.getD_cons_succ,List.drop_succ_cons,List.drop_zero,Nat.ble_eq,Nat.le_refl,List.length_cons,List.length_nil,Z48 S,Bool.not_true,Bool.not_false,Md.goesM,Md.w64,List.length_set,k7,eq_true ht];rfl
   ·simp only[eG,go_sem,thq S,nbr S,zN0,zN1,zN2,zN3,zN4,zI0,zI1,zI2,zI3,reduceCtorEq,Z1x S,Nat.add_zero,Qa S,hl,hcan,Bool.not_true,h0,h1,hn,Ye,b1,b2,ne_eq,not_false_eq_true,Jd,Je,Zj,Z7,J3,Zl,Nat.zero_add,Nat.zero_mul,Zio he,ld0 hk,cA7 S,hx,hk,Y6,Z09,Z0a,Z08,Zo,Z19,Jy,Qm,Jv,Z1d,List.length_set,Nat.le_refl,Option.bind_some,Option.map_some,Ya S,Z0d,Z0q,wr1 hk,wr2 hk,wr3 hk,wr6 hk,wr7 hk,ld2 hk,Z12 S,Y7 S,Q9 S,Jo,J7,Y5 S,Qq S,List.set_set,doC,Md.doM,Md.doK,Md.put,hxx,hee,Md.mask_wrap,show Nat.ble 1 1=true from rfl,J1,Z38,J2,Yx,Qw,Yt,Yr,Z0p,J0,Zbd,Z0o,Z0m,Qx,Yu,Yv,Z3k,Z0n,Y9,Qz,Yw,List.getD_cons_zero,List.getD_cons_succ,List.drop_succ_cons,List.drop_zero,Nat.ble_eq,Nat.le_refl,List.length_cons,List.length_nil,Z48 S,Bool.not_true,Bool.not_false,Md.goesM,Md.w64,List.length_set,k7,ht,hk1];rfl
  by_cases k9:x.kind=9
  ·have hl2 : (c.buf.set i.toNat { e with done := true }).length < 1073741824 := by rw [List.length_set]; exact hl
   cases hreal:Md.real p c.state.stack c.buf i with
   | none=>
    have ho:=fun A nb us=>Znj S (dp+3) p c.state.stack (c.buf.set i.toNat { e with done:=true }) i hl2 hs (by rw[J7];exact hreal) A nb us
    simp only[Zn,Yd,Nat.add_assoc,zN2] at ho
    simp only[eG,go_sem,thq S,nbr S,zN0,zN1,zN2,zN3,zN4,zI0,zI1,zI2,zI3,reduceCtorEq,Z1x S,Nat.add_zero,Qa S,hl,hcan,Bool.not_true,h0,h1,hn,Ye,b1,b2,ne_eq,not_false_eq_true,Jd,Je,Zj,Z7,J3,Zl,Nat.zero_add,Nat.zero_mul,Zio he,ld0 hk,cA7 S,hx,hk,Y6,Z09,Z0a,Z08,Zo,Z19,Jy,Qm,Jv,Z1d,List.length_set,Nat.le_refl,Option.bind_some,Option.map_some,Ya S,Z0d,Z0q,wr1 hk,wr2 hk,wr3 hk,wr6 hk,wr7 hk,ld2 hk,Z12 S,Y7 S,Q9 S,Jo,J7,Y5 S,Qq S,List.set_set,doC,Md.doM,Md.doK,Md.put,hxx,hee,Md.mask_wrap,show Nat.ble 1 1=true from rfl,J1,Z38,J2,Yx,Qw,Yt,Yr,Z0p,J0,Zbd,Z0o,Z0m,Qx,Yu,Yv,Z3k,Z0n,Y9,Qz,Yw,List.getD_cons_zero,List.getD_cons_succ,List.drop_succ_cons,List.drop_zero,Nat.ble_eq,Nat.le_refl,List.length_cons,List.length_nil,Z48 S,Bool.not_true,Bool.not_false,Md.goesM,Md.w64,List.length_set,k9,hreal,ho]
   | some r=>
    obtain⟨junk,q,ho⟩:=Zni S (dp+3) p c.state.stack (c.buf.set i.toNat { e with done:=true }) i hl2 hs r (by rw[J7];exact hreal)
    simp only[Zn,Yd,Nat.add_assoc,zN2] at ho
    rw[hreal] at hg
    have hg':r.length<1073741824:=hg
    by_cases hr:r.length=0
    ·simp only[eG,go_sem,thq S,nbr S,zN0,zN1,zN2,zN3,zN4,zI0,zI1,zI2,zI3,reduceCtorEq,Z1x S,Nat.add_zero,Qa S,hl,hcan,Bool.not_true,h0,h1,hn,Ye,b1,b2,ne_eq,not_false_eq_true,Jd,Je,Zj,Z7,J3,Zl,Nat.zero_add,Nat.zero_mul,Zio he,ld0 hk,cA7 S,hx,hk,Y6,Z09,Z0a,Z08,Zo,Z19,Jy,Qm,Jv,Z1d,List.length_set,Nat.le_refl,Option.bind_some,Option.map_some,Ya S,Z0d,Z0q,wr1 hk,wr2 hk,wr3 hk,wr6 hk,wr7 hk,ld2 hk,Z12 S,Y7 S,Q9 S,Jo,J7,Y5 S,Qq S,List.set_set,doC,Md.doM,Md.doK,Md.put,hxx,hee,Md.mask_wrap,show Nat.ble 1 1=true from rfl,J1,Z38,J2,Yx,Qw,Yt,Yr,Z0p,J0,Zbd,Z0o,Z0m,Qx,Yu,Yv,Z3k,Z0n,Y9,Qz,Yw,List.getD_cons_zero,List.getD_cons_succ,List.drop_succ_cons,List.drop_zero,Nat.ble_eq,Nat.le_refl,List.length_cons,List.length_nil,Z48 S,Bool.not_true,Bool.not_false,Md.goesM,Md.w64,List.length_set,k9,hreal,hr,ho,show((0:Nat):Int)=0 from rfl]
    ·have wl : IntKind.i64.wrap ((r.length : Int) - 1) = ((r.length - 1 : Nat) : Int) := by rw [Zt (by omega) (by omega)]; omega
     have hi1:r.length-1<r.length:=by omega
     by_cases ht:e.next=Md.lastI r
     ·simp only[eG,go_sem,thq S,nbr S,zN0,zN1,zN2,zN3,zN4,zI0,zI1,zI2,zI3,reduceCtorEq,Z1x S,Nat.add_zero,Qa S,hl,hcan,Bool.not_true,h0,h1,hn,Ye,b1,b2,ne_eq,not_false_eq_true,Jd,Je,Zj,Z7,J3,Zl,Nat.zero_add,Nat.zero_mul,Zio he,ld0 hk,cA7 S,hx,hk,Y6,Z09,Z0a,Z08,Zo,Z19,Jy,Qm,Jv,Z1d,List.length_set,Nat.le_refl,Option.bind_some,Option.map_some,Ya S,Z0d,Z0q,wr1 hk,wr2 hk,wr3 hk,wr6 hk,wr7 hk,ld2 hk,Z12 S,Y7 S,Q9 S,Jo,J7,Y5 S,Qq S,List.set_set,doC,Md.doM,Md.doK,Md.put,hxx,hee,Md.mask_wrap,show Nat.ble 1 1=true from rfl,J1,Z38,J2,Yx,Qw,Yt,Yr,Z0p,J0,Zbd,Z0o,Z0m,Qx,Yu,Yv,Z3k,Z0n,Y9,Qz,Yw,List.getD_cons_zero,List.getD_cons_succ,List.drop_succ_cons,List.drop_zero,Nat.ble_eq,Nat.le_refl,List.length_cons,List.length_nil,Z48 S,Bool.not_true,Bool.not_false,Md.goesM,Md.w64,List.length_set,k9,hreal,hr,ho,wl,hi1,ldI hr,eq_true ht,Int.natCast_eq_zero,Int.toNat_natCast,Int.natCast_nonneg,Int.ofNat_lt,Nat.mul_one,true_and,and_true,if_true];rfl
     ·simp only[eG,go_sem,thq S,nbr S,zN0,zN1,zN2,zN3,zN4,zI0,zI1,zI2,zI3,reduceCtorEq,Z1x S,Nat.add_zero,Qa S,hl,hcan,Bool.not_true,h0,h1,hn,Ye,b1,b2,ne_eq,not_false_eq_true,Jd,Je,Zj,Z7,J3,Zl,Nat.zero_add,Nat.zero_mul,Zio he,ld0 hk,cA7 S,hx,hk,Y6,Z09,Z0a,Z08,Zo,Z19,Jy,Qm,Jv,Z1d,List.length_set,Nat.le_refl,Option.bind_some,Option.map_some,Ya S,Z0d,Z0q,wr1 hk,wr2 hk,wr3 hk,wr6 hk,wr7 hk,ld2 hk,Z12 S,Y7 S,Q9 S,Jo,J7,Y5 S,Qq S,List.set_set,doC,Md.doM,Md.doK,Md.put,hxx,hee,Md.mask_wrap,show Nat.ble 1 1=true from rfl,J1,Z38,J2,Yx,Qw,Yt,Yr,Z0p,J0,Zbd,Z0o,Z0m,Qx,Yu,Yv,Z3k,Z0n,Y9,Qz,Yw,List.getD_cons_zero,List.getD_cons_succ,List.drop_succ_cons,List.drop_zero,Nat.ble_eq,Nat.le_refl,List.length_cons,List.length_nil,Z48 S,Bool.not_true,Bool.not_false,Md.goesM,Md.w64,List.length_set,k9,hreal,hr,ho,wl,hi1,ldI hr,ht,Int.natCast_eq_zero,Int.toNat_natCast,Int.natCast_nonneg,Int.ofNat_lt,Nat.mul_one,true_and,and_true,if_true,hk1];rfl
  simp only[eG,go_sem,thq S,nbr S,zN0,zN1,zN2,zN3,zN4,zI0,zI1,zI2,zI3,reduceCtorEq,Z1x S,Nat.add_zero,Qa S,hl,hcan,Bool.not_true,h0,h1,hn,Ye,b1,b2,ne_eq,not_false_eq_true,Jd,Je,Zj,Z7,J3,Zl,Nat.zero_add,Nat.zero_mul,Zio he,ld0 hk,cA7 S,hx,hk,Y6,Z09,Z0a,Z08,Zo,Z19,Jy,Qm,Jv,Z1d,List.length_set,Nat.le_refl,Option.bind_some,Option.map_some,Ya S,Z0d,Z0q,wr1 hk,wr2 hk,wr3 hk,wr6 hk,wr7 hk,ld2 hk,Z12 S,Y7 S,Q9 S,Jo,J7,Y5 S,Qq S,List.set_set,doC,Md.doM,Md.doK,Md.put,hxx,hee,Md.mask_wrap,k1,k2,k3,k4,k5,k7,k9]
end
theorem Zcb (rs:List IRes)(c:CT)(E:Env)(call:cT)(f:FuncId)(x y z:AV)(A:List Blk):mkF 80 rs c E call f [x,y,z] A=c { E with live:=E.lives f,nb0:=A.length } call (Z0u A.length rs) (fun _ _ _=>none) (Z0u A.length rs) (mk Z26 80 (Zxa 0 [x,y,z])) A:=Z6 _ _ _ _ _ _ _ _ rfl
variable {E:Env} {fn:FuncId->Option (Env->cT->cT)}
section
variable (S:Sur E fn)
include S
theorem Z3d:E.lives 90 7=none/\E.lives 90 21=none:=⟨off S 90 7 (by decide) rfl,off S 90 21 (by decide) rfl⟩
theorem Yj (dp:Nat)(r0 r1 r2 r3:Int)(mm sk:List Int)(pc:Int)(bf:List Ent)(rb:List Int)(en:Int)(hm:mm.length<1073741824)(hs:sk.length<1073741824)(hb:bf.length<1073741824)(hr:rb.length<1073741824)(A:List Blk)(nb:Nat):
  Zb true E (evC E fn (dp+2)) 45 A nb (some ([.agg [vi r0,vi r1,vi r2,vi r3,rD mm,rD sk,vi pc,rD bf,rD rb,vi en]],[]))=some (.made (.agg [aI r0,aI r1,aI r2,aI r3,Z3m nb mm,Z3m (nb+(Z30 mm).length) sk,aI pc,.d (rD bf),.d (rD rb),aI en]) (Z30 mm++Z30 sk)):=by
 have h:=Zoz S dp r0 r1 r2 r3 mm sk pc bf rb en hm hs hb hr
 have hr:Z2c E (evC E fn (dp+2)) 45 [.agg [vi r0,vi r1,vi r2,vi r3,rD mm,rD sk,vi pc,rD bf,rD rb,vi en]]=some (.agg [aI r0,aI r1,aI r2,aI r3,Z3m 0 mm,Z3m (Z30 mm).length sk,aI pc,.d (rD bf),.d (rD rb),aI en],Z30 mm++Z30 sk):=by
  unfold Z2c
  rw[np S 45 (by decide)]
  exact h
 simp only[Zb,hr,Z4r,cond_true]
 by_cases h1:mm.length=0<;>by_cases h2:sk.length=0
 ·have e1 : mm = [] := List.length_eq_zero_iff.1 h1
  have e2:sk=[]:=List.length_eq_zero_iff.1 h2
  subst e1 e2
  rfl
 ·have e1 : mm = [] := List.length_eq_zero_iff.1 h1
  subst e1
  simp[Zz,Zy,Za h2,Z9 h2,Zc3,Zmk,Z3l,Qg,Z1b,Cl.n]
 ·have e2 : sk = [] := List.length_eq_zero_iff.1 h2
  subst e2
  simp[Zz,Zy,Za h1,Z9 h1,Zc3,Zmk,Z3l,Qg,Z1b,Cl.n]
 ·simp[Za h1,Z9 h1,Za h2,Z9 h2,Zc3,Zmk,Z3l,Qg,Z1b,Cl.n]
theorem Zn0 (dp:Nat)(p:Prog)(c:Conf)(hl:c.buf.length<1073741823)(hm:c.state.mem.length<1073741824)(hs:c.state.stack.length<1073741823)(hr:c.rsb.length<1073741824)(hd:0<=(Md.at_ p (Md.entAt c.buf 0).pc).d/\(Md.at_ p (Md.entAt c.buf 0).pc).d<=3):Zk E fn (dp+5) 90 [Zn p,Zv c] (.tup [Zv (Z6s p c),vb (Md.canRetire p c)]):=by
 unfold Zk
 show Zh (evC E fn (dp+4+1) 90 [.d (Zn p),.d (Zv c)] [])=_
 rw[Z2,S.Zkl,Z3,Zm1,Z6 _ _ _ _ _ _ _ _ rfl]
 cases hcan:Md.canRetire p c with
 | false=>simp only[eG,go_sem,thq S,nbr S,zN0,zN1,zN2,zN3,zN4,zI0,zI1,zI2,zI3,reduceCtorEq,Z3d S,Q0 S,hcan,Bool.not_false,Z6s,Md.conf0]
 | true=>
  obtain⟨e,he,he0,hend⟩:=Z50 hcan
  have hl1:c.buf.length<1073741824:=by omega
  have hs1:c.state.stack.length<1073741824:=by omega
  have hlen:0<c.buf.length:=(List.getElem?_eq_some_iff.1 he).1
  rw[he0] at hd
  generalize hxx:Md.at_ p e.pc=x at *
  have run:=fun a b d A=>(show evC E fn (dp+4) 160 [a,b,d] A=Yo E (evC E fn (dp+3)) 160 [a,b,d] A by rw[Z2,S.Z90,Z3])
  have e1:c.state.mem.length=0->c.state.mem=[]:=List.length_eq_zero_iff.1
  have e2:c.state.stack.length=0->c.state.stack=[]:=List.length_eq_zero_iff.1
  have d4:x.d=0∨x.d=1∨x.d=2∨x.d=3:=by omega
  have d0:=hd.1
  have d1:x.d<4:=by omega
  have hst:∀(A:List Blk) (m s q b r n:AV),storeAt A 0 0 (x.d.toNat*1) [.d (vi e.val)] 1 (some (.cells [.d (vi c.state.regs.r0),.d (vi c.state.regs.r1),.d (vi c.state.regs.r2),.d (vi c.state.regs.r3),m,s,q,b,r,n] 0 false))=some (A.set 0 (.cells [.d (vi (Md.setR c.state.regs x.d e.val).r0),.d (vi (Md.setR c.state.regs x.d e.val).r1),.d (vi (Md.setR c.state.regs x.d e.val).r2),.d (vi (Md.setR c.state.regs x.d e.val).r3),m,s,q,b,r,n] 0 false)):=fun A m s q b r n=>by
   rcases d4 with d | d | d | d<;>rw[d]<;>rfl
  have n1:c.state.mem.length*8<=Zf:=by unfold Zf;omega
  have n2:c.state.mem.length<=Zf:=by unfold Zf;omega
  have n5:(c.state.stack.length+1)*8<=Zf:=by unfold Zf;omega
  have n6:c.state.stack.length+1<=Zf:=by unfold Zf;omega
  have hdl:∀ b,deep [b,.cells ((rC (c.state.stack++[IntKind.i64.wrap (e.pc+1)])).map .d) 0 false] 6 (.sref 1 0 0 (c.state.stack.length+1) 1 none)=some (.lst (rC (c.state.stack++[IntKind.i64.wrap (e.pc+1)])) (c.state.stack++[IntKind.i64.wrap (e.pc+1)]).length none,[1]):=fun b=>by
   rw[show c.state.stack.length+1=(c.state.stack++[IntKind.i64.wrap (e.pc+1)]).length by simp]
   exact Q8 rfl (by simp) 4 _ 1 none rfl rfl
  have cp0:∀(A:List Blk) (nb:Nat),Zb false E (evC E fn (dp+3)) 206 A nb (some ([.lst [] 0 none],[]))=some (.made (.d (.tup [vi 0,.lst [] 0 none,vb false])) []):=fun A nb=>Z3i S (dp+2) [] (by decide) A nb
  have cpF:c.state.stack.dropLast.length=0->∀(A:List Blk) (nb:Nat) (us:List Nat),Zb false E (evC E fn (dp+3)) 206 A nb (some ([rD c.state.stack],us))=some (.made (.d (.tup [vi (Md.lastI c.state.stack),rD c.state.stack.dropLast,vb (decide (c.state.stack.length≠0))])) []):=fun h A nb us=>
   Zk.flat (Z61 S (dp+2) c.state.stack hs1) (np S 206 (by decide)) (by rw[List.length_eq_zero_iff.1 h];rfl) A nb us
  have cpU:¬c.state.stack.dropLast.length=0->∀(A:List Blk) (nb ui:Nat) (us:List Nat),Zb false E (evC E fn (dp+3)) 206 A nb (some ([rD c.state.stack],ui::us))=some (.turned (.d (.tup [vi (Md.lastI c.state.stack),rD c.state.stack.dropLast,vb (decide (c.state.stack.length≠0))])) (Qn A (ui::us))):=fun h A nb ui us=>
   Zqd S (dp+2) c.state.stack hs1 (by
    cases hq:c.state.stack.dropLast with
    | nil=>rw[hq] at h;exact absurd rfl h
    | cons a l=>rfl) A nb ui us
  have hap1:(c.state.stack.length+1)*1<=(List.map AV.d (rC (c.state.stack++[IntKind.i64.wrap (e.pc+1)]))).length:=Qj _ _ (by simp)
  have hap2:(c.state.stack++[IntKind.i64.wrap (e.pc+1)]).take (c.state.stack.length+1)=c.state.stack++[IntKind.i64.wrap (e.pc+1)]:=List.take_of_length_le (by simp)
  have hap3:DV.lst (rC (c.state.stack++[IntKind.i64.wrap (e.pc+1)])) (c.state.stack.length+1) none=rD (c.state.stack++[IntKind.i64.wrap (e.pc+1)]):=by unfold rD;rw[List.length_append];rfl
  have hmem:(c.state.mem.length=0/\(∀ i,Z3m i c.state.mem=.d (.lst [] 0 (some 0)))/\Z30 c.state.mem=[])∨(¬c.state.mem.length=0/\(∀ i,Z3m i c.state.mem=.sref i 0 0 c.state.mem.length 1 none)/\Z30 c.state.mem=[.cells ((rC c.state.mem).map .d) 0 false]):=by
   by_cases h:c.state.mem.length=0
   ·exact .inl ⟨h,Zcp h,Zco h⟩
   ·exact .inr ⟨h,fun i=>Za h i,Z9 h⟩
  have hsk:(c.state.stack.length=0/\(∀ i,Z3m i c.state.stack=.d (.lst [] 0 (some 0)))/\Z30 c.state.stack=[])∨(¬c.state.stack.length=0/\(∀ i,Z3m i c.state.stack=.sref i 0 0 c.state.stack.length 1 none)/\Z30 c.state.stack=[.cells ((rC c.state.stack).map .d) 0 false]):=by
   by_cases h:c.state.stack.length=0
   ·exact .inl ⟨h,Zcp h,Zco h⟩
   ·exact .inr ⟨h,fun i=>Za h i,Z9 h⟩
  rcases hmem with⟨m0,mA,mB⟩ | ⟨m0,mA,mB⟩<;>rcases hsk with⟨s0,sA,sB⟩ | ⟨s0,sA,sB⟩
  all_goals
   generalize hB:(cQ (cOz [st 44 (oA (.t 3) 0),st 45 (oL (.t 6) true 8),st 46 (oL (.t 9) true 9),st 47 (oK (.f 160) [(.t 44),(.t 45),(.t 46)])]) _:CT)=BB
   simp only[eG,go_sem,thq S,nbr S,zN0,zN1,zN2,zN3,zN4,zI0,zI1,zI2,zI3,reduceCtorEq,Z3d S,Q0 S,hcan,Bool.not_true,Bool.not_false,Yj S,hm,hs,hs1,hr,hl,hl1,hlen,Qk S,he0,Z8 S,hxx,Yk S,Z6s,Md.retire,Md.endedM,Y6,Z09,Z0a,Z08,eq_true hend,mA,mB,sA,sB,m0,s0]
   rw[<-hB]
   clear hB BB
   cases hf:e.fault with
   | true=>simp only[eG,go_sem,thq S,nbr S,zN0,zN1,zN2,zN3,zN4,zI0,zI1,zI2,zI3,reduceCtorEq,Z3d S,Q0 S,hcan,Bool.not_true,Bool.not_false,Yj S,hm,hs,hs1,hr,hl,hl1,hlen,Qk S,he0,Z8 S,hxx,Yk S,Z6s,Md.retire,Md.endedM,Y6,Z09,Z0a,Z08,eq_true hend,Zo,Qj,Yq,Nat.le_refl,Option.bind_some,Option.map_none,Z32,Z2x,Z33,List.take_length,Jc,List.length_set,nc1,Qp,Zw,n1,n2,n5,n6,ne_eq,not_false_eq_true,not_true_eq_false,Nat.zero_mul,Nat.one_mul,m0,s0,hf];((try rw[hend]);(first | done | rfl | (rw[e1 m0];rfl) | (rw[e2 s0];rfl) | (rw[e1 m0,e2 s0];rfl)))
   | false=>
    by_cases k12:x.kind=12
    ·simp only[eG,go_sem,thq S,nbr S,zN0,zN1,zN2,zN3,zN4,zI0,zI1,zI2,zI3,reduceCtorEq,Z3d S,Q0 S,hcan,Bool.not_true,Bool.not_false,Yj S,hm,hs,hs1,hr,hl,hl1,hlen,Qk S,he0,Z8 S,hxx,Yk S,Z6s,Md.retire,Md.endedM,Y6,Z09,Z0a,Z08,eq_true hend,Zo,Qj,Yq,Nat.le_refl,Option.bind_some,Option.map_none,Z32,Z2x,Z33,List.take_length,Jc,List.length_set,nc1,Qp,Zw,n1,n2,n5,n6,ne_eq,not_false_eq_true,not_true_eq_false,Nat.zero_mul,Nat.one_mul,m0,s0,hf,k12];((try rw[hend]);(first | done | rfl | (rw[e1 m0];rfl) | (rw[e2 s0];rfl) | (rw[e1 m0,e2 s0];rfl)))
    by_cases k11:x.kind=11
    ·simp only[eG,go_sem,thq S,nbr S,zN0,zN1,zN2,zN3,zN4,zI0,zI1,zI2,zI3,reduceCtorEq,Z3d S,Q0 S,hcan,Bool.not_true,Bool.not_false,Yj S,hm,hs,hs1,hr,hl,hl1,hlen,Qk S,he0,Z8 S,hxx,Yk S,Z6s,Md.retire,Md.endedM,Y6,Z09,Z0a,Z08,eq_true hend,Zo,Qj,Yq,Nat.le_refl,Option.bind_some,Option.map_none,Z32,Z2x,Z33,List.take_length,Jc,List.length_set,nc1,Qp,Zw,n1,n2,n5,n6,ne_eq,not_false_eq_true,not_true_eq_false,Nat.zero_mul,Nat.one_mul,m0,s0,hf,k11];((try rw[hend]);(first | done | rfl | (rw[e1 m0];rfl) | (rw[e2 s0];rfl) | (rw[e1 m0,e2 s0];rfl)))
    by_cases k1:x.kind=1
    ·simp only[eG,go_sem,thq S,nbr S,zN0,zN1,zN2,zN3,zN4,zI0,zI1,zI2,zI3,reduceCtorEq,Z3d S,Q0 S,hcan,Bool.not_true,Bool.not_false,Yj S,hm,hs,hs1,hr,hl,hl1,hlen,Qk S,he0,Z8 S,hxx,Yk S,Z6s,Md.retire,Md.endedM,Y6,Z09,Z0a,Z08,eq_true hend,show Nat.ble 1 1=true from rfl,show Nat.ble 2 2=true from rfl,show Nat.ble 3 3=true from rfl,show Nat.ble 1 2=true from rfl,show Nat.ble 2 3=true from rfl,List.getElem?_nil,List.getD_nil,Nat.reduceSub,Nat.sub_self,run,Yo,Zcb,off S 160 9 (by decide) rfl,off S 160 11 (by decide) rfl,off S 160 13 (by decide) rfl,off S 160 15 (by decide) rfl,off S 160 19 (by decide) rfl,off S 160 21 (by decide) rfl,off S 160 25 (by decide) rfl,off S 160 29 (by decide) rfl,J1,Z38,J2,Yx,Z0i,Yr,Qw,Yt,Z0p,J0,Zbd,Z0o,Z0m,Qx,Yu,Yv,Z0n,Y9,Qz,Yw,Z0h,Z2d,Z2b,Yh,Z9j,Yi,List.take_succ_cons,List.take_zero,List.drop_succ_cons,List.drop_zero,List.getD_cons_zero,List.getD_cons_succ,Jd,Je,Zj,Z7,Zl,Option.map_some,Nat.zero_add,Nat.add_zero,hst,d0,d1,nbr S,Zo,Qj,Yq,Nat.le_refl,Option.bind_some,Option.map_none,Z32,Z2x,Z33,List.take_length,Jc,List.length_set,nc1,Qp,Zw,n1,n2,n5,n6,ne_eq,not_false_eq_true,not_true_eq_false,Nat.zero_mul,Nat.one_mul,Int.cast_ofNat_Int,true_and,Md.commitM,Md.w64,m0,s0,hf,k1];((try rw[hend]);(first | done | rfl | (rw[e1 m0];rfl) | (rw[e2 s0];rfl) | (rw[e1 m0,e2 s0];rfl)))
    by_cases k2:x.kind=2
    ·simp only[eG,go_sem,thq S,nbr S,zN0,zN1,zN2,zN3,zN4,zI0,zI1,zI2,zI3,reduceCtorEq,Z3d S,Q0 S,hcan,Bool.not_true,Bool.not_false,Yj S,hm,hs,hs1,hr,hl,hl1,hlen,Qk S,he0,Z8 S,hxx,Yk S,Z6s,Md.retire,Md.endedM,Y6,Z09,Z0a,Z08,eq_true hend,show Nat.ble 1 1=true from rfl,show Nat.ble 2 2=true from rfl,show Nat.ble 3 3=true from rfl,show Nat.ble 1 2=true from rfl,show Nat.ble 2 3=true from rfl,List.getElem?_nil,List.getD_nil,Nat.reduceSub,Nat.sub_self,run,Yo,Zcb,off S 160 9 (by decide) rfl,off S 160 11 (by decide) rfl,off S 160 13 (by decide) rfl,off S 160 15 (by decide) rfl,off S 160 19 (by decide) rfl,off S 160 21 (by decide) rfl,off S 160 25 (by decide) rfl,off S 160 29 (by decide) rfl,J1,Z38,J2,Yx,Z0i,Yr,Qw,Yt,Z0p,J0,Zbd,Z0o,Z0m,Qx,Yu,Yv,Z0n,Y9,Qz,Yw,Z0h,Z2d,Z2b,Yh,Z9j,Yi,List.take_succ_cons,List.take_zero,List.drop_succ_cons,List.drop_zero,List.getD_cons_zero,List.getD_cons_succ,Jd,Je,Zj,Z7,Zl,Option.map_some,Nat.zero_add,Nat.add_zero,hst,d0,d1,nbr S,Zo,Qj,Yq,Nat.le_refl,Option.bind_some,Option.map_none,Z32,Z2x,Z33,List.take_length,Jc,List.length_set,nc1,Qp,Zw,n1,n2,n5,n6,ne_eq,not_false_eq_true,not_true_eq_false,Nat.zero_mul,Nat.one_mul,Int.cast_ofNat_Int,true_and,Md.commitM,Md.w64,m0,s0,hf,k2];((try rw[hend]);(first | done | rfl | (rw[e1 m0];rfl) | (rw[e2 s0];rfl) | (rw[e1 m0,e2 s0];rfl)))
    by_cases k4:x.kind=4
    ·simp only[eG,go_sem,thq S,nbr S,zN0,zN1,zN2,zN3,zN4,zI0,zI1,zI2,zI3,reduceCtorEq,Z3d S,Q0 S,hcan,Bool.not_true,Bool.not_false,Yj S,hm,hs,hs1,hr,hl,hl1,hlen,Qk S,he0,Z8 S,hxx,Yk S,Z6s,Md.retire,Md.endedM,Y6,Z09,Z0a,Z08,eq_true hend,show Nat.ble 1 1=true from rfl,show Nat.ble 2 2=true from rfl,show Nat.ble 3 3=true from rfl,show Nat.ble 1 2=true from rfl,show Nat.ble 2 3=true from rfl,List.getElem?_nil,List.getD_nil,Nat.reduceSub,Nat.sub_self,run,Yo,Zcb,off S 160 9 (by decide) rfl,off S 160 11 (by decide) rfl,off S 160 13 (by decide) rfl,off S 160 15 (by decide) rfl,off S 160 19 (by decide) rfl,off S 160 21 (by decide) rfl,off S 160 25 (by decide) rfl,off S 160 29 (by decide) rfl,J1,Z38,J2,Yx,Z0i,Yr,Qw,Yt,Z0p,J0,Zbd,Z0o,Z0m,Qx,Yu,Yv,Z0n,Y9,Qz,Yw,Z0h,Z2d,Z2b,Yh,Z9j,Yi,List.take_succ_cons,List.take_zero,List.drop_succ_cons,List.drop_zero,List.getD_cons_zero,List.getD_cons_succ,Jd,Je,Zj,Z7,Zl,Option.map_some,Nat.zero_add,Nat.add_zero,hst,d0,d1,nbr S,Zo,Qj,Yq,Nat.le_refl,Option.bind_some,Option.map_none,Z32,Z2x,Z33,List.take_length,Jc,List.length_set,nc1,Qp,Zw,n1,n2,n5,n6,ne_eq,not_false_eq_true,not_true_eq_false,Nat.zero_mul,Nat.one_mul,Int.cast_ofNat_Int,true_and,Md.commitM,Md.w64,m0,s0,hf,k4];((try rw[hend]);(first | done | rfl | (rw[e1 m0];rfl) | (rw[e2 s0];rfl) | (rw[e1 m0,e2 s0];rfl)))
    by_cases k3:x.kind=3
    ·by_cases a : 0 <= e.addr /\ e.addr < c.state.mem.length
     ·obtain ⟨a0, a1⟩ := a
      have a2:e.addr.toNat<c.state.mem.length:=by omega
      first
       | (exfalso;omega)
       | (simp only[eG,go_sem,thq S,nbr S,zN0,zN1,zN2,zN3,zN4,zI0,zI1,zI2,zI3,reduceCtorEq,Z3d S,Q0 S,hcan,Bool.not_true,Bool.not_false,Yj S,hm,hs,hs1,hr,hl,hl1,hlen,Qk S,he0,Z8 S,hxx,Yk S,Z6s,Md.retire,Md.endedM,Y6,Z09,Z0a,Z08,eq_true hend,show Nat.ble 1 1=true from rfl,show Nat.ble 2 2=true from rfl,show Nat.ble 3 3=true from rfl,show Nat.ble 1 2=true from rfl,show Nat.ble 2 3=true from rfl,List.getElem?_nil,List.getD_nil,Nat.reduceSub,Nat.sub_self,run,Yo,Zcb,off S 160 9 (by decide) rfl,off S 160 11 (by decide) rfl,off S 160 13 (by decide) rfl,off S 160 15 (by decide) rfl,off S 160 19 (by decide) rfl,off S 160 21 (by decide) rfl,off S 160 25 (by decide) rfl,off S 160 29 (by decide) rfl,J1,Z38,J2,Yx,Z0i,Yr,Qw,Yt,Z0p,J0,Zbd,Z0o,Z0m,Qx,Yu,Yv,Z0n,Y9,Qz,Yw,Z0h,Z2d,Z2b,Yh,Z9j,Yi,List.take_succ_cons,List.take_zero,List.drop_succ_cons,List.drop_zero,List.getD_cons_zero,List.getD_cons_succ,Jd,Je,Zj,Z7,Zl,Option.map_some,Nat.zero_add,Nat.add_zero,hst,d0,d1,nbr S,Zo,Qj,Yq,Nat.le_refl,Option.bind_some,Option.map_none,Z32,Z2x,Z33,List.take_length,Jc,List.length_set,nc1,Qp,Zw,n1,n2,n5,n6,ne_eq,not_false_eq_true,not_true_eq_false,Nat.zero_mul,Nat.one_mul,Int.cast_ofNat_Int,true_and,Md.commitM,Md.w64,m0,s0,hf,k3,a0,a1,wrI a2,and_self];((try rw[hend]);(first | done | rfl | (rw[e1 m0];rfl) | (rw[e2 s0];rfl) | (rw[e1 m0,e2 s0];rfl))))
     ·by_cases a0 : 0 <= e.addr
      ·have a1 : ¬ e.addr < c.state.mem.length := fun h => a ⟨a0, h⟩
       have a1':c.state.mem.length=0->¬e.addr<((0:Nat):Int):=fun h=>by omega
       have a1'':c.state.mem.length=0->¬e.addr<0:=fun h=>by omega
       simp only[eG,go_sem,thq S,nbr S,zN0,zN1,zN2,zN3,zN4,zI0,zI1,zI2,zI3,reduceCtorEq,Z3d S,Q0 S,hcan,Bool.not_true,Bool.not_false,Yj S,hm,hs,hs1,hr,hl,hl1,hlen,Qk S,he0,Z8 S,hxx,Yk S,Z6s,Md.retire,Md.endedM,Y6,Z09,Z0a,Z08,eq_true hend,show Nat.ble 1 1=true from rfl,show Nat.ble 2 2=true from rfl,show Nat.ble 3 3=true from rfl,show Nat.ble 1 2=true from rfl,show Nat.ble 2 3=true from rfl,List.getElem?_nil,List.getD_nil,Nat.reduceSub,Nat.sub_self,run,Yo,Zcb,off S 160 9 (by decide) rfl,off S 160 11 (by decide) rfl,off S 160 13 (by decide) rfl,off S 160 15 (by decide) rfl,off S 160 19 (by decide) rfl,off S 160 21 (by decide) rfl,off S 160 25 (by decide) rfl,off S 160 29 (by decide) rfl,J1,Z38,J2,Yx,Z0i,Yr,Qw,Yt,Z0p,J0,Zbd,Z0o,Z0m,Qx,Yu,Yv,Z0n,Y9,Qz,Yw,Z0h,Z2d,Z2b,Yh,Z9j,Yi,List.take_succ_cons,List.take_zero,List.drop_succ_cons,List.drop_zero,List.getD_cons_zero,List.getD_cons_succ,Jd,Je,Zj,Z7,Zl,Option.map_some,Nat.zero_add,Nat.add_zero,hst,d0,d1,nbr S,Zo,Qj,Yq,Nat.le_refl,Option.bind_some,Option.map_none,Z32,Z2x,Z33,List.take_length,Jc,List.length_set,nc1,Qp,Zw,n1,n2,n5,n6,ne_eq,not_false_eq_true,not_true_eq_false,Nat.zero_mul,Nat.one_mul,Int.cast_ofNat_Int,true_and,Md.commitM,Md.w64,m0,s0,hf,k3,a0,a1,a1' ,a1'',and_false];((try rw[hend]);(first | done | rfl | (rw[e1 m0];rfl) | (rw[e2 s0];rfl) | (rw[e1 m0,e2 s0];rfl)))
      ·simp only[eG,go_sem,thq S,nbr S,zN0,zN1,zN2,zN3,zN4,zI0,zI1,zI2,zI3,reduceCtorEq,Z3d S,Q0 S,hcan,Bool.not_true,Bool.not_false,Yj S,hm,hs,hs1,hr,hl,hl1,hlen,Qk S,he0,Z8 S,hxx,Yk S,Z6s,Md.retire,Md.endedM,Y6,Z09,Z0a,Z08,eq_true hend,show Nat.ble 1 1=true from rfl,show Nat.ble 2 2=true from rfl,show Nat.ble 3 3=true from rfl,show Nat.ble 1 2=true from rfl,show Nat.ble 2 3=true from rfl,List.getElem?_nil,List.getD_nil,Nat.reduceSub,Nat.sub_self,run,Yo,Zcb,off S 160 9 (by decide) rfl,off S 160 11 (by decide) rfl,off S 160 13 (by decide) rfl,off S 160 15 (by decide) rfl,off S 160 19 (by decide) rfl,off S 160 21 (by decide) rfl,off S 160 25 (by decide) rfl,off S 160 29 (by decide) rfl,J1,Z38,J2,Yx,Z0i,Yr,Qw,Yt,Z0p,J0,Zbd,Z0o,Z0m,Qx,Yu,Yv,Z0n,Y9,Qz,Yw,Z0h,Z2d,Z2b,Yh,Z9j,Yi,List.take_succ_cons,List.take_zero,List.drop_succ_cons,List.drop_zero,List.getD_cons_zero,List.getD_cons_succ,Jd,Je,Zj,Z7,Zl,Option.map_some,Nat.zero_add,Nat.add_zero,hst,d0,d1,nbr S,Zo,Qj,Yq,Nat.le_refl,Option.bind_some,Option.map_none,Z32,Z2x,Z33,List.take_length,Jc,List.length_set,nc1,Qp,Zw,n1,n2,n5,n6,ne_eq,not_false_eq_true,not_true_eq_false,Nat.zero_mul,Nat.one_mul,Int.cast_ofNat_Int,true_and,Md.commitM,Md.w64,m0,s0,hf,k3,a0,false_and];((try rw[hend]);(first | done | rfl | (rw[e1 m0];rfl) | (rw[e2 s0];rfl) | (rw[e1 m0,e2 s0];rfl)))
    by_cases k8:x.kind=8
    ·simp only[eG,go_sem,thq S,nbr S,zN0,zN1,zN2,zN3,zN4,zI0,zI1,zI2,zI3,reduceCtorEq,Z3d S,Q0 S,hcan,Bool.not_true,Bool.not_false,Yj S,hm,hs,hs1,hr,hl,hl1,hlen,Qk S,he0,Z8 S,hxx,Yk S,Z6s,Md.retire,Md.endedM,Y6,Z09,Z0a,Z08,eq_true hend,show Nat.ble 1 1=true from rfl,show Nat.ble 2 2=true from rfl,show Nat.ble 3 3=true from rfl,show Nat.ble 1 2=true from rfl,show Nat.ble 2 3=true from rfl,List.getElem?_nil,List.getD_nil,Nat.reduceSub,Nat.sub_self,run,Yo,Zcb,off S 160 9 (by decide) rfl,off S 160 11 (by decide) rfl,off S 160 13 (by decide) rfl,off S 160 15 (by decide) rfl,off S 160 19 (by decide) rfl,off S 160 21 (by decide) rfl,off S 160 25 (by decide) rfl,off S 160 29 (by decide) rfl,J1,Z38,J2,Yx,Z0i,Yr,Qw,Yt,Z0p,J0,Zbd,Z0o,Z0m,Qx,Yu,Yv,Z0n,Y9,Qz,Yw,Z0h,Z2d,Z2b,Yh,Z9j,Yi,List.take_succ_cons,List.take_zero,List.drop_succ_cons,List.drop_zero,List.getD_cons_zero,List.getD_cons_succ,Jd,Je,Zj,Z7,Zl,Option.map_some,Nat.zero_add,Nat.add_zero,hst,d0,d1,nbr S,Zo,Qj,Yq,Nat.le_refl,Option.bind_some,Option.map_none,Z32,Z2x,Z33,List.take_length,Jc,List.length_set,nc1,Qp,Zw,n1,n2,n5,n6,ne_eq,not_false_eq_true,not_true_eq_false,Nat.zero_mul,Nat.one_mul,Int.cast_ofNat_Int,true_and,Md.commitM,Md.w64,m0,s0,hf,k8,show(1:Nat)*8<=Zf by decide,show(8:Nat)<=Zf by decide,show(1:Nat)<=Zf by decide,show(1:Nat)*1<=1 by decide,Nat.lt_add_one,Nat.one_ne_zero,show(0:Nat)<1 by decide,hdl,hap1,hap2,hap3];((try rw[hend]);(first | done | rfl | (rw[e1 m0];rfl) | (rw[e2 s0];rfl) | (rw[e1 m0,e2 s0];rfl)))
    by_cases k9:x.kind=9
    ·by_cases sz : c.state.stack.length = 0
     ·first
       | (exfalso;exact s0 sz)
       | (simp only[eG,go_sem,thq S,nbr S,zN0,zN1,zN2,zN3,zN4,zI0,zI1,zI2,zI3,reduceCtorEq,Z3d S,Q0 S,hcan,Bool.not_true,Bool.not_false,Yj S,hm,hs,hs1,hr,hl,hl1,hlen,Qk S,he0,Z8 S,hxx,Yk S,Z6s,Md.retire,Md.endedM,Y6,Z09,Z0a,Z08,eq_true hend,show Nat.ble 1 1=true from rfl,show Nat.ble 2 2=true from rfl,show Nat.ble 3 3=true from rfl,show Nat.ble 1 2=true from rfl,show Nat.ble 2 3=true from rfl,List.getElem?_nil,List.getD_nil,Nat.reduceSub,Nat.sub_self,run,Yo,Zcb,off S 160 9 (by decide) rfl,off S 160 11 (by decide) rfl,off S 160 13 (by decide) rfl,off S 160 15 (by decide) rfl,off S 160 19 (by decide) rfl,off S 160 21 (by decide) rfl,off S 160 25 (by decide) rfl,off S 160 29 (by decide) rfl,J1,Z38,J2,Yx,Z0i,Yr,Qw,Yt,Z0p,J0,Zbd,Z0o,Z0m,Qx,Yu,Yv,Z0n,Y9,Qz,Yw,Z0h,Z2d,Z2b,Yh,Z9j,Yi,List.take_succ_cons,List.take_zero,List.drop_succ_cons,List.drop_zero,List.getD_cons_zero,List.getD_cons_succ,Jd,Je,Zj,Z7,Zl,Option.map_some,Nat.zero_add,Nat.add_zero,hst,d0,d1,nbr S,Zo,Qj,Yq,Nat.le_refl,Option.bind_some,Option.map_none,Z32,Z2x,Z33,List.take_length,Jc,List.length_set,nc1,Qp,Zw,n1,n2,n5,n6,ne_eq,not_false_eq_true,not_true_eq_false,Nat.zero_mul,Nat.one_mul,Int.cast_ofNat_Int,true_and,Md.commitM,Md.w64,m0,s0,hf,k9,cp0];((try rw[hend]);(first | done | rfl | (rw[e1 m0];rfl) | (rw[e2 s0];rfl) | (rw[e1 m0,e2 s0];rfl))))
     ·by_cases sd : c.state.stack.dropLast.length = 0
      ·first
        | (exfalso;exact sz s0)
        | (simp only[eG,go_sem,thq S,nbr S,zN0,zN1,zN2,zN3,zN4,zI0,zI1,zI2,zI3,reduceCtorEq,Z3d S,Q0 S,hcan,Bool.not_true,Bool.not_false,Yj S,hm,hs,hs1,hr,hl,hl1,hlen,Qk S,he0,Z8 S,hxx,Yk S,Z6s,Md.retire,Md.endedM,Y6,Z09,Z0a,Z08,eq_true hend,show Nat.ble 1 1=true from rfl,show Nat.ble 2 2=true from rfl,show Nat.ble 3 3=true from rfl,show Nat.ble 1 2=true from rfl,show Nat.ble 2 3=true from rfl,List.getElem?_nil,List.getD_nil,Nat.reduceSub,Nat.sub_self,run,Yo,Zcb,off S 160 9 (by decide) rfl,off S 160 11 (by decide) rfl,off S 160 13 (by decide) rfl,off S 160 15 (by decide) rfl,off S 160 19 (by decide) rfl,off S 160 21 (by decide) rfl,off S 160 25 (by decide) rfl,off S 160 29 (by decide) rfl,J1,Z38,J2,Yx,Z0i,Yr,Qw,Yt,Z0p,J0,Zbd,Z0o,Z0m,Qx,Yu,Yv,Z0n,Y9,Qz,Yw,Z0h,Z2d,Z2b,Yh,Z9j,Yi,List.take_succ_cons,List.take_zero,List.drop_succ_cons,List.drop_zero,List.getD_cons_zero,List.getD_cons_succ,Jd,Je,Zj,Z7,Zl,Option.map_some,Nat.zero_add,Nat.add_zero,hst,d0,d1,nbr S,Zo,Qj,Yq,Nat.le_refl,Option.bind_some,Option.map_none,Z32,Z2x,Z33,List.take_length,Jc,List.length_set,nc1,Qp,Zw,n1,n2,n5,n6,ne_eq,not_false_eq_true,not_true_eq_false,Nat.zero_mul,Nat.one_mul,Int.cast_ofNat_Int,true_and,Md.commitM,Md.w64,m0,s0,hf,k9,cpF sd];((try rw[hend]);(first | done | rfl | (rw[e1 m0];rfl) | (rw[e2 s0];rfl) | (rw[e1 m0,e2 s0];rfl))))
      ·first
        | (exfalso;exact sz s0)
        | (simp only[eG,go_sem,thq S,nbr S,zN0,zN1,zN2,zN3,zN4,zI0,zI1,zI2,zI3,reduceCtorEq,Z3d S,Q0 S,hcan,Bool.not_true,Bool.not_false,Yj S,hm,hs,hs1,hr,hl,hl1,hlen,Qk S,he0,Z8 S,hxx,Yk S,Z6s,Md.retire,Md.endedM,Y6,Z09,Z0a,Z08,eq_true hend,show Nat.ble 1 1=true from rfl,show Nat.ble 2 2=true from rfl,show Nat.ble 3 3=true from rfl,show Nat.ble 1 2=true from rfl,show Nat.ble 2 3=true from rfl,List.getElem?_nil,List.getD_nil,Nat.reduceSub,Nat.sub_self,run,Yo,Zcb,off S 160 9 (by decide) rfl,off S 160 11 (by decide) rfl,off S 160 13 (by decide) rfl,off S 160 15 (by decide) rfl,off S 160 19 (by decide) rfl,off S 160 21 (by decide) rfl,off S 160 25 (by decide) rfl,off S 160 29 (by decide) rfl,J1,Z38,J2,Yx,Z0i,Yr,Qw,Yt,Z0p,J0,Zbd,Z0o,Z0m,Qx,Yu,Yv,Z0n,Y9,Qz,Yw,Z0h,Z2d,Z2b,Yh,Z9j,Yi,List.take_succ_cons,List.take_zero,List.drop_succ_cons,List.drop_zero,List.getD_cons_zero,List.getD_cons_succ,Jd,Je,Zj,Z7,Zl,Option.map_some,Nat.zero_add,Nat.add_zero,hst,d0,d1,nbr S,Zo,Qj,Yq,Nat.le_refl,Option.bind_some,Option.map_none,Z32,Z2x,Z33,List.take_length,Jc,List.length_set,nc1,Qp,Zw,n1,n2,n5,n6,ne_eq,not_false_eq_true,not_true_eq_false,Nat.zero_mul,Nat.one_mul,Int.cast_ofNat_Int,true_and,Md.commitM,Md.w64,m0,s0,hf,k9,cpU sd];((try rw[hend]);(first | done | rfl | (rw[e1 m0];rfl) | (rw[e2 s0];rfl) | (rw[e1 m0,e2 s0];rfl))))
    simp only[eG,go_sem,thq S,nbr S,zN0,zN1,zN2,zN3,zN4,zI0,zI1,zI2,zI3,reduceCtorEq,Z3d S,Q0 S,hcan,Bool.not_true,Bool.not_false,Yj S,hm,hs,hs1,hr,hl,hl1,hlen,Qk S,he0,Z8 S,hxx,Yk S,Z6s,Md.retire,Md.endedM,Y6,Z09,Z0a,Z08,eq_true hend,show Nat.ble 1 1=true from rfl,show Nat.ble 2 2=true from rfl,show Nat.ble 3 3=true from rfl,show Nat.ble 1 2=true from rfl,show Nat.ble 2 3=true from rfl,List.getElem?_nil,List.getD_nil,Nat.reduceSub,Nat.sub_self,run,Yo,Zcb,off S 160 9 (by decide) rfl,off S 160 11 (by decide) rfl,off S 160 13 (by decide) rfl,off S 160 15 (by decide) rfl,off S 160 19 (by decide) rfl,off S 160 21 (by decide) rfl,off S 160 25 (by decide) rfl,off S 160 29 (by decide) rfl,J1,Z38,J2,Yx,Z0i,Yr,Qw,Yt,Z0p,J0,Zbd,Z0o,Z0m,Qx,Yu,Yv,Z0n,Y9,Qz,Yw,Z0h,Z2d,Z2b,Yh,Z9j,Yi,List.take_succ_cons,List.take_zero,List.drop_succ_cons,List.drop_zero,List.getD_cons_zero,List.getD_cons_succ,Jd,Je,Zj,Z7,Zl,Option.map_some,Nat.zero_add,Nat.add_zero,hst,d0,d1,nbr S,Zo,Qj,Yq,Nat.le_refl,Option.bind_some,Option.map_none,Z32,Z2x,Z33,List.take_length,Jc,List.length_set,nc1,Qp,Zw,n1,n2,n5,n6,ne_eq,not_false_eq_true,not_true_eq_false,Nat.zero_mul,Nat.one_mul,Int.cast_ofNat_Int,true_and,Md.commitM,Md.w64,m0,s0,hf,k1,k2,k3,k4,k8,k9,k11,k12];((try rw[hend]);(first | done | rfl | (rw[e1 m0];rfl) | (rw[e2 s0];rfl) | (rw[e1 m0,e2 s0];rfl)))
end
theorem Qv {A:List Blk}{bytes j v:Nat}{out:List Dir}{a b:Int}(hA:A[j]? =some (.cells ((rC out).map .d) v false))(h1:(out.length+1)*bytes<=Zf)(h2:out.length+1<=Zf):
  Qs A 2 bytes (.sref j v 0 out.length 2 none) [.d (vi a),.d (vi b)] 1=some (.turn j (.cells ((rC (out++[⟨a,b⟩])).map .d) (v+1) false) (.sref j (v+1) 0 (out.length+1) 2 none)):=
 Z89 (x:=(⟨a,b⟩:Dir)) hA rfl (by decide) rfl h1 h2
theorem nc2 (A:List Blk)(x y:DV)(k:Option Nat):Z0g A false 2 (.d (.lst [x,y] 1 k))=some ([.d x,.d y],1):=rfl
theorem l16:(1:Nat)*16<=Zf:=by decide
theorem Zfo:(16:Nat)<=Zf:=by decide
theorem l1n:(1:Nat)<=Zf:=by decide
theorem Z7a {α:Type}(o:List α)(x:α):(o++[x]).length≠0:=by simp
theorem Z62 (n:Int):(List.range' 0 n.toNat)=List.range n.toNat:=by rw[List.range_eq_range']
variable {E:Env} {fn:FuncId->Option (Env->cT->cT)}
section
variable (S:Sur E fn)
include S
theorem Y4:E.lives 43 1=none/\E.lives 43 23=none/\E.lives 43 33=none/\E.lives 43 37=none:=⟨off S 43 1 (by decide) rfl,off S 43 23 (by decide) rfl,off S 43 33 (by decide) rfl,off S 43 37 (by decide) rfl⟩
theorem Yaz (dp:Nat)(p:Prog)(c:Conf)(hi:p.ins.length<1073741824)(hg:Md.guesses p c<2147483648)(kx:Nat->K)(D:DV)(r:List Dir)
  (hx:∀ T,Z01 .bot T 2=.ref 0 0 0->Z01 .bot T 3=.ref 1 0 0->Z01 .bot T 5=Z3m 2 r->Zh (kx 0 (mk .bot 61 T) ([.cells ((Yd p).map .d) 0 false,.cells ((Z22 c).map .d) 0 false]++Z30 r))=some D):
  ∀(m k f:Nat) (o:List Dir),((k+m:Nat):Int)=max (Md.guesses p c) k->m<=f->o.length<8589934592->o.length+m<8589934592->o++(List.range' k m).map (fun n:Nat=>(⟨1,(n:Int)⟩:Dir))=r->
  Zh (Z29 (inn E 43) (evC E fn (dp+2)) (Zi 8 Z29 (inn E 43) (evC E fn (dp+2)) kx (Z0u 0 [.tmp 4]) f) kx (Z0u 0 [.tmp 4]) (mk .bot 61 [(2,.ref 0 0 0),(3,.ref 1 0 0),(5,Z3m 2 o),(6,aI k)]) ([.cells ((Yd p).map .d) 0 false,.cells ((Z22 c).map .d) 0 false]++Z30 o))=some D:=by
 intro m
 induction m with
 | zero=>
  intro k f o hk _ _ _ hr
  have hr:o=r:=by simpa using hr
  subst hr
  generalize Zi 8 Z29 _ _ kx _ f=KK
  first | (conv=>lhs;rw[Z29]) | rw[Z29]
  by_cases h0:o.length=0
  ·have : o = [] := List.length_eq_zero_iff.1 h0
   subst this
   simp only[eG,go_sem,thq S,nbr S,zN0,zN1,zN2,zN3,zN4,zI0,zI1,zI2,zI3,reduceCtorEq,Y4 S,Zz,Zy,Yl S,hi,show ¬(k:Int)<Md.guesses p c by omega]
   exact hx _ rfl rfl rfl
  ·rw [Za h0, Z9 h0] at *
   simp only[eG,go_sem,thq S,nbr S,zN0,zN1,zN2,zN3,zN4,zI0,zI1,zI2,zI3,reduceCtorEq,Y4 S,Yl S,hi,show ¬(k:Int)<Md.guesses p c by omega]
   exact hx _ rfl rfl rfl
 | succ m ih=>
  intro k f o hk hf ho ho2 hr
  obtain⟨f,rfl⟩:∃ g,f=g+1:=⟨f-1,by omega⟩
  have hkg:(k:Int)<Md.guesses p c:=by omega
  have hr':(o++[(⟨1,(k:Int)⟩:Dir)])++(List.range' (k+1) m).map (fun n:Nat=>(⟨1,(n:Int)⟩:Dir))=r:=by
   rw[<-hr,List.range'_succ,List.map_cons,List.append_assoc];rfl
  have:=ih (k+1) f (o++[⟨1,(k:Int)⟩]) (by omega) (by omega) (by simp;omega) (by simp;omega) hr'
  rw[Za (Z7a _ _),Z9 (Z7a _ _)] at this
  generalize hK:Zi 8 Z29 _ _ kx _ (f+1)=KK
  first | (conv=>lhs;rw[Z29]) | rw[Z29]
  by_cases h0:o.length=0
  ·have : o = [] := List.length_eq_zero_iff.1 h0
   subst this
   simp only[eG,go_sem,thq S,nbr S,zN0,zN1,zN2,zN3,zN4,zI0,zI1,zI2,zI3,reduceCtorEq,Y4 S,Jd,Je,Zj,Z7,Zl,nc2,Qv,l16,Zfo,l1n,Option.map_some,Nat.zero_add,Nat.one_mul,Nat.zero_mul,and_self,true_and,wi k (by omega),show(0:Nat)<1 by decide,Zz,Zy,Yl S,hi,hkg]
   rw[<-hK,Z1 (on S _ _ [2,3,5,6] (by decide) rfl) rfl _ _ _ _ _ _ _ _ _ rfl]
   simp only[eG,go_sem,thq S,nbr S,zN0,zN1,zN2,zN3,zN4,zI0,zI1,zI2,zI3,reduceCtorEq,Y4 S]
   exact this
  ·rw [Za h0, Z9 h0]
   have k1:(o.length+1)*16<=Zf:=by unfold Zf;omega
   have k2:o.length+1<=Zf:=by unfold Zf;omega
   simp only[eG,go_sem,thq S,nbr S,zN0,zN1,zN2,zN3,zN4,zI0,zI1,zI2,zI3,reduceCtorEq,Y4 S,Jd,Je,Zj,Z7,Zl,nc2,Qv,l16,Zfo,l1n,Option.map_some,Nat.zero_add,Nat.one_mul,Nat.zero_mul,and_self,true_and,wi k (by omega),show(0:Nat)<1 by decide,Yl S,hi,hkg,k1,k2]
   rw[<-hK,Z1 (on S _ _ [2,3,5,6] (by decide) rfl) rfl _ _ _ _ _ _ _ _ _ rfl]
   simp only[eG,go_sem,thq S,nbr S,zN0,zN1,zN2,zN3,zN4,zI0,zI1,zI2,zI3,reduceCtorEq,Y4 S]
   rw[List.length_append,List.length_singleton] at this
   exact this
theorem Yay (dp:Nat)(p:Prog)(c:Conf)(hb:c.buf.length<1073741824)(kx:Nat->K)(D:DV)(r:List Dir)
  (hx:∀ T,Z01 .bot T 2=.ref 0 0 0->Z01 .bot T 3=.ref 1 0 0->Z01 .bot T 5=Z3m 2 r->Zh (kx 2 (mk .bot 61 T) ([.cells ((Yd p).map .d) 0 false,.cells ((Z22 c).map .d) 0 false]++Z30 r))=some D):
  ∀(m k f:Nat) (o:List Dir),k+m=c.buf.length->m<=f->o.length<8589934592->o.length+m<8589934592->o++((List.range' k m).filter fun n:Nat=>Md.can (c.state.mem.length:Int) p c (n:Int)).map (fun n:Nat=>(⟨2,(n:Int)⟩:Dir))=r->
  Zh (Jn (inn E 43) (evC E fn (dp+5)) (Zi 16 Jn (inn E 43) (evC E fn (dp+5)) kx (Z0u 0 [.tmp 4]) f) kx (Z0u 0 [.tmp 4]) (mk .bot 61 [(2,.ref 0 0 0),(3,.ref 1 0 0),(5,Z3m 2 o),(7,aI k)]) ([.cells ((Yd p).map .d) 0 false,.cells ((Z22 c).map .d) 0 false]++Z30 o))=some D:=by
 intro m
 induction m with
 | zero=>
  intro k f o hk _ _ _ hr
  have hr:o=r:=by simpa using hr
  subst hr
  generalize Zi 16 Jn _ _ kx _ f=KK
  first | (conv=>lhs;rw[Jn]) | rw[Jn]
  by_cases h0:o.length=0
  ·have : o = [] := List.length_eq_zero_iff.1 h0
   subst this
   simp only[eG,go_sem,thq S,nbr S,zN0,zN1,zN2,zN3,zN4,zI0,zI1,zI2,zI3,reduceCtorEq,Y4 S,Zz,Zy,show ¬(k:Int)<c.buf.length by omega]
   exact hx _ rfl rfl rfl
  ·rw [Za h0, Z9 h0] at *
   simp only[eG,go_sem,thq S,nbr S,zN0,zN1,zN2,zN3,zN4,zI0,zI1,zI2,zI3,reduceCtorEq,Y4 S,show ¬(k:Int)<c.buf.length by omega]
   exact hx _ rfl rfl rfl
 | succ m ih=>
  intro k f o hk hf ho ho2 hr
  obtain⟨f,rfl⟩:∃ g,f=g+1:=⟨f-1,by omega⟩
  have hkg:(k:Int)<c.buf.length:=by omega
  cases hcan:Md.can (c.state.mem.length:Int) p c (k:Int) with
  | false=>
   have hr':o++((List.range' (k+1) m).filter fun n:Nat=>Md.can (c.state.mem.length:Int) p c (n:Int)).map (fun n:Nat=>(⟨2,(n:Int)⟩:Dir))=r:=by
    rw[<-hr,List.range'_succ,List.filter_cons,hcan];rfl
   have:=ih (k+1) f o (by omega) (by omega) ho (by omega) hr'
   generalize hK:Zi 16 Jn _ _ kx _ (f+1)=KK
   first | (conv=>lhs;rw[Jn]) | rw[Jn]
   by_cases h0:o.length=0
   ·have : o = [] := List.length_eq_zero_iff.1 h0
    subst this
    simp only[eG,go_sem,thq S,nbr S,zN0,zN1,zN2,zN3,zN4,zI0,zI1,zI2,zI3,reduceCtorEq,Y4 S,Jd,Je,Zj,Z7,Zl,nc2,Qv,l16,Zfo,l1n,Option.map_some,Nat.zero_add,Nat.one_mul,Nat.zero_mul,and_self,true_and,wi k (by omega),show(0:Nat)<1 by decide,Zz,Zy,Qa S,hb,hkg,hcan]
    rw[<-hK,Z1 (on S _ _ [2,3,5,7] (by decide) rfl) rfl _ _ _ _ _ _ _ _ _ rfl]
    simp only[eG,go_sem,thq S,nbr S,zN0,zN1,zN2,zN3,zN4,zI0,zI1,zI2,zI3,reduceCtorEq,Y4 S]
    assumption
   ·rw [Za h0, Z9 h0] at *
    simp only[eG,go_sem,thq S,nbr S,zN0,zN1,zN2,zN3,zN4,zI0,zI1,zI2,zI3,reduceCtorEq,Y4 S,Jd,Je,Zj,Z7,Zl,nc2,Qv,l16,Zfo,l1n,Option.map_some,Nat.zero_add,Nat.one_mul,Nat.zero_mul,and_self,true_and,wi k (by omega),show(0:Nat)<1 by decide,Qa S,hb,hkg,hcan]
    rw[<-hK,Z1 (on S _ _ [2,3,5,7] (by decide) rfl) rfl _ _ _ _ _ _ _ _ _ rfl]
    simp only[eG,go_sem,thq S,nbr S,zN0,zN1,zN2,zN3,zN4,zI0,zI1,zI2,zI3,reduceCtorEq,Y4 S]
    exact this
  | true=>
   have hr':(o++[(⟨2,(k:Int)⟩:Dir)])++((List.range' (k+1) m).filter fun n:Nat=>Md.can (c.state.mem.length:Int) p c (n:Int)).map (fun n:Nat=>(⟨2,(n:Int)⟩:Dir))=r:=by
    rw[<-hr,List.range'_succ,List.filter_cons,hcan,if_pos rfl,List.map_cons,List.append_assoc];rfl
   have:=ih (k+1) f (o++[⟨2,(k:Int)⟩]) (by omega) (by omega) (by simp;omega) (by simp;omega) hr'
   rw[Za (Z7a _ _),Z9 (Z7a _ _)] at this
   generalize hK:Zi 16 Jn _ _ kx _ (f+1)=KK
   first | (conv=>lhs;rw[Jn]) | rw[Jn]
   by_cases h0:o.length=0
   ·have : o = [] := List.length_eq_zero_iff.1 h0
    subst this
    simp only[eG,go_sem,thq S,nbr S,zN0,zN1,zN2,zN3,zN4,zI0,zI1,zI2,zI3,reduceCtorEq,Y4 S,Jd,Je,Zj,Z7,Zl,nc2,Qv,l16,Zfo,l1n,Option.map_some,Nat.zero_add,Nat.one_mul,Nat.zero_mul,and_self,true_and,wi k (by omega),show(0:Nat)<1 by decide,Zz,Zy,Qa S,hb,hkg,hcan]
    rw[<-hK,Z1 (on S _ _ [2,3,5,7] (by decide) rfl) rfl _ _ _ _ _ _ _ _ _ rfl]
    simp only[eG,go_sem,thq S,nbr S,zN0,zN1,zN2,zN3,zN4,zI0,zI1,zI2,zI3,reduceCtorEq,Y4 S]
    assumption
   ·rw [Za h0, Z9 h0]
    have k1:(o.length+1)*16<=Zf:=by unfold Zf;omega
    have k2:o.length+1<=Zf:=by unfold Zf;omega
    simp only[eG,go_sem,thq S,nbr S,zN0,zN1,zN2,zN3,zN4,zI0,zI1,zI2,zI3,reduceCtorEq,Y4 S,Jd,Je,Zj,Z7,Zl,nc2,Qv,l16,Zfo,l1n,Option.map_some,Nat.zero_add,Nat.one_mul,Nat.zero_mul,and_self,true_and,wi k (by omega),show(0:Nat)<1 by decide,Qa S,hb,hkg,hcan,k1,k2]
    rw[<-hK,Z1 (on S _ _ [2,3,5,7] (by decide) rfl) rfl _ _ _ _ _ _ _ _ _ rfl]
    simp only[eG,go_sem,thq S,nbr S,zN0,zN1,zN2,zN3,zN4,zI0,zI1,zI2,zI3,reduceCtorEq,Y4 S]
    rw[List.length_append,List.length_singleton] at this
    exact this
theorem Yax (dp:Nat)(p:Prog)(c:Conf)(hb:c.buf.length<1073741824)(kx:Nat->K)(D:DV)(r:List Dir)
  (hx:∀ T,Z01 .bot T 2=.ref 0 0 0->Z01 .bot T 3=.ref 1 0 0->Z01 .bot T 5=Z3m 2 r->Zh (kx 4 (mk .bot 61 T) ([.cells ((Yd p).map .d) 0 false,.cells ((Z22 c).map .d) 0 false]++Z30 r))=some D):
  ∀(m k f:Nat) (o:List Dir),k+m=c.buf.length->m<=f->o.length<8589934592->o.length+m<8589934592->o++((List.range' k m).filter fun n:Nat=>Md.canAddr p c (n:Int)).map (fun n:Nat=>(⟨3,(n:Int)⟩:Dir))=r->
  Zh (Jm (inn E 43) (evC E fn (dp+5)) (Zi 26 Jm (inn E 43) (evC E fn (dp+5)) kx (Z0u 0 [.tmp 4]) f) kx (Z0u 0 [.tmp 4]) (mk .bot 61 [(2,.ref 0 0 0),(3,.ref 1 0 0),(5,Z3m 2 o),(8,aI k)]) ([.cells ((Yd p).map .d) 0 false,.cells ((Z22 c).map .d) 0 false]++Z30 o))=some D:=by
 intro m
 induction m with
 | zero=>
  intro k f o hk _ _ _ hr
  have hr:o=r:=by simpa using hr
  subst hr
  generalize Zi 26 Jm _ _ kx _ f=KK
  first | (conv=>lhs;rw[Jm]) | rw[Jm]
  by_cases h0:o.length=0
  ·have : o = [] := List.length_eq_zero_iff.1 h0
   subst this
   simp only[eG,go_sem,thq S,nbr S,zN0,zN1,zN2,zN3,zN4,zI0,zI1,zI2,zI3,reduceCtorEq,Y4 S,Zz,Zy,show ¬(k:Int)<c.buf.length by omega]
   exact hx _ rfl rfl rfl
  ·rw [Za h0, Z9 h0] at *
   simp only[eG,go_sem,thq S,nbr S,zN0,zN1,zN2,zN3,zN4,zI0,zI1,zI2,zI3,reduceCtorEq,Y4 S,show ¬(k:Int)<c.buf.length by omega]
   exact hx _ rfl rfl rfl
 | succ m ih=>
  intro k f o hk hf ho ho2 hr
  obtain⟨f,rfl⟩:∃ g,f=g+1:=⟨f-1,by omega⟩
  have hkg:(k:Int)<c.buf.length:=by omega
  cases hcan:Md.canAddr p c (k:Int) with
  | false=>
   have hr':o++((List.range' (k+1) m).filter fun n:Nat=>Md.canAddr p c (n:Int)).map (fun n:Nat=>(⟨3,(n:Int)⟩:Dir))=r:=by
    rw[<-hr,List.range'_succ,List.filter_cons,hcan];rfl
   have:=ih (k+1) f o (by omega) (by omega) ho (by omega) hr'
   generalize hK:Zi 26 Jm _ _ kx _ (f+1)=KK
   first | (conv=>lhs;rw[Jm]) | rw[Jm]
   by_cases h0:o.length=0
   ·have : o = [] := List.length_eq_zero_iff.1 h0
    subst this
    simp only[eG,go_sem,thq S,nbr S,zN0,zN1,zN2,zN3,zN4,zI0,zI1,zI2,zI3,reduceCtorEq,Y4 S,Jd,Je,Zj,Z7,Zl,nc2,Qv,l16,Zfo,l1n,Option.map_some,Nat.zero_add,Nat.one_mul,Nat.zero_mul,and_self,true_and,wi k (by omega),show(0:Nat)<1 by decide,Zz,Zy,Z0c S,hb,hkg,hcan]
    rw[<-hK,Z1 (on S _ _ [2,3,5,8] (by decide) rfl) rfl _ _ _ _ _ _ _ _ _ rfl]
    simp only[eG,go_sem,thq S,nbr S,zN0,zN1,zN2,zN3,zN4,zI0,zI1,zI2,zI3,reduceCtorEq,Y4 S]
    assumption
   ·rw [Za h0, Z9 h0] at *
    simp only[eG,go_sem,thq S,nbr S,zN0,zN1,zN2,zN3,zN4,zI0,zI1,zI2,zI3,reduceCtorEq,Y4 S,Jd,Je,Zj,Z7,Zl,nc2,Qv,l16,Zfo,l1n,Option.map_some,Nat.zero_add,Nat.one_mul,Nat.zero_mul,and_self,true_and,wi k (by omega),show(0:Nat)<1 by decide,Z0c S,hb,hkg,hcan]
    rw[<-hK,Z1 (on S _ _ [2,3,5,8] (by decide) rfl) rfl _ _ _ _ _ _ _ _ _ rfl]
    simp only[eG,go_sem,thq S,nbr S,zN0,zN1,zN2,zN3,zN4,zI0,zI1,zI2,zI3,reduceCtorEq,Y4 S]
    exact this
  | true=>
   have hr':(o++[(⟨3,(k:Int)⟩:Dir)])++((List.range' (k+1) m).filter fun n:Nat=>Md.canAddr p c (n:Int)).map (fun n:Nat=>(⟨3,(n:Int)⟩:Dir))=r:=by
    rw[<-hr,List.range'_succ,List.filter_cons,hcan,if_pos rfl,List.map_cons,List.append_assoc];rfl
   have:=ih (k+1) f (o++[⟨3,(k:Int)⟩]) (by omega) (by omega) (by simp;omega) (by simp;omega) hr'
   rw[Za (Z7a _ _),Z9 (Z7a _ _)] at this
   generalize hK:Zi 26 Jm _ _ kx _ (f+1)=KK
   first | (conv=>lhs;rw[Jm]) | rw[Jm]
   by_cases h0:o.length=0
   ·have : o = [] := List.length_eq_zero_iff.1 h0
    subst this
    simp only[eG,go_sem,thq S,nbr S,zN0,zN1,zN2,zN3,zN4,zI0,zI1,zI2,zI3,reduceCtorEq,Y4 S,Jd,Je,Zj,Z7,Zl,nc2,Qv,l16,Zfo,l1n,Option.map_some,Nat.zero_add,Nat.one_mul,Nat.zero_mul,and_self,true_and,wi k (by omega),show(0:Nat)<1 by decide,Zz,Zy,Z0c S,hb,hkg,hcan]
    rw[<-hK,Z1 (on S _ _ [2,3,5,8] (by decide) rfl) rfl _ _ _ _ _ _ _ _ _ rfl]
    simp only[eG,go_sem,thq S,nbr S,zN0,zN1,zN2,zN3,zN4,zI0,zI1,zI2,zI3,reduceCtorEq,Y4 S]
    assumption
   ·rw [Za h0, Z9 h0]
    have k1:(o.length+1)*16<=Zf:=by unfold Zf;omega
    have k2:o.length+1<=Zf:=by unfold Zf;omega
    simp only[eG,go_sem,thq S,nbr S,zN0,zN1,zN2,zN3,zN4,zI0,zI1,zI2,zI3,reduceCtorEq,Y4 S,Jd,Je,Zj,Z7,Zl,nc2,Qv,l16,Zfo,l1n,Option.map_some,Nat.zero_add,Nat.one_mul,Nat.zero_mul,and_self,true_and,wi k (by omega),show(0:Nat)<1 by decide,Z0c S,hb,hkg,hcan,k1,k2]
    rw[<-hK,Z1 (on S _ _ [2,3,5,8] (by decide) rfl) rfl _ _ _ _ _ _ _ _ _ rfl]
    simp only[eG,go_sem,thq S,nbr S,zN0,zN1,zN2,zN3,zN4,zI0,zI1,zI2,zI3,reduceCtorEq,Y4 S]
    rw[List.length_append,List.length_singleton] at this
    exact this
theorem Zqw (dp:Nat)(p:Prog)(c:Conf)(hi:p.ins.length<1073741824)(hb:c.buf.length<1073741824):Zk E fn (dp+6) 43 [Zn p,Zv c] (rD (Md.all (c.state.mem.length:Int) p c)):=by
 unfold Zk
 show Zh (evC E fn (dp+5+1) 43 [.d (Zn p),.d (Zv c)] [])=_
 rw[Z2,S.Zpo,Z3,Zq8,Z6 _ _ _ _ _ _ _ _ rfl]
 have hg:Md.guesses p c<2147483648:=by
  unfold Md.guesses;split
  ·decide
  ·split
   ·decide
   ·split
    ·omega
    ·decide
 simp only[eG,go_sem,thq S,nbr S,zN0,zN1,zN2,zN3,zN4,zI0,zI1,zI2,zI3,reduceCtorEq,Y4 S]
 rw[Y2,Z1 (on S _ _ [2,3,5,6] (by decide) rfl) rfl _ _ _ _ _ _ _ _ _ rfl]
 simp only[eG,go_sem,thq S,nbr S,zN0,zN1,zN2,zN3,zN4,zI0,zI1,zI2,zI3,reduceCtorEq,Y4 S]
 generalize h1:(List.range (Md.guesses p c).toNat).map (fun n:Nat=>(⟨1,(n:Int)⟩:Dir))=r1
 generalize h2:r1++((List.range c.buf.length).filter fun n:Nat=>Md.can (c.state.mem.length:Int) p c (n:Int)).map (fun n:Nat=>(⟨2,(n:Int)⟩:Dir))=r2
 generalize h3:r2++((List.range c.buf.length).filter fun n:Nat=>Md.canAddr p c (n:Int)).map (fun n:Nat=>(⟨3,(n:Int)⟩:Dir))=r3
 have hall:Md.all (c.state.mem.length:Int) p c=r3++(bif Md.canRetire p c then[⟨4,0⟩] else[]):=by
  unfold Md.all;rw[h1,h2,h3]
 have L1:r1.length<2147483648:=by rw[<-h1,List.length_map,List.length_range];omega
 have L2:r2.length<3221225472:=by
  have:=List.length_filter_le (fun n:Nat=>Md.can (c.state.mem.length:Int) p c (n:Int)) (List.range c.buf.length)
  rw[List.length_range] at this
  rw[<-h2,List.length_append,List.length_map];omega
 have L3:r3.length<4294967296:=by
  have:=List.length_filter_le (fun n:Nat=>Md.canAddr p c (n:Int)) (List.range c.buf.length)
  rw[List.length_range] at this
  rw[<-h3,List.length_append,List.length_map];omega
 rw[hall]
 have start:=fun(kx:Nat->K) (D:DV) hx=>Yaz S (dp+3) p c hi hg kx D r1 hx (Md.guesses p c).toNat 0 999999999999999999999999999999 [] (by omega) (by omega) (by simp) (by simp;omega) (by rw[List.nil_append,Z62];exact h1)
 refine start _ _ ?_
 intro T t2 t3 t5
 have next2:=fun(kx:Nat->K) (D:DV) hx=>Yay S dp p c hb kx D r2 hx c.buf.length 0 999999999999999999999999999999 r1 (by omega) (by omega) (by omega) (by omega) (by rw[<-List.range_eq_range'];exact h2)
 have next3:=fun(kx:Nat->K) (D:DV) hx=>Yax S dp p c hb kx D r3 hx c.buf.length 0 999999999999999999999999999999 r2 (by omega) (by omega) (by omega) (by omega) (by rw[<-List.range_eq_range'];exact h3)
 have stop:∀ T,Z01 .bot T 2=.ref 0 0 0->Z01 .bot T 3=.ref 1 0 0->True:=fun _ _ _=>trivial
 by_cases z1:r1.length=0
 ·have e1 : r1 = [] := List.length_eq_zero_iff.1 z1
  rw[e1,Zz] at t5
  rw[e1,Zy,List.append_nil]
  simp only[e1,Zz,Zy,List.append_nil] at next2
  simp only[eG,go_sem,thq S,nbr S,zN0,zN1,zN2,zN3,zN4,zI0,zI1,zI2,zI3,reduceCtorEq,Y4 S,t2,t3,t5]
  rw[Y2,Z1 (on S _ _ [2,3,5,7] (by decide) rfl) rfl _ _ _ _ _ _ _ _ _ rfl]
  simp only[eG,go_sem,thq S,nbr S,zN0,zN1,zN2,zN3,zN4,zI0,zI1,zI2,zI3,reduceCtorEq,Y4 S,t2,t3,t5]
  refine next2 _ _ ?_
  clear t2 t3 t5 T
  intro T t2 t3 t5
  by_cases z2:r2.length=0
  ·have e2 : r2 = [] := List.length_eq_zero_iff.1 z2
   rw[e2,Zz] at t5
   rw[e2,Zy,List.append_nil]
   simp only[e2,Zz,Zy,List.append_nil] at next3
   simp only[eG,go_sem,thq S,nbr S,zN0,zN1,zN2,zN3,zN4,zI0,zI1,zI2,zI3,reduceCtorEq,Y4 S,t2,t3,t5]
   rw[Y2,Z1 (on S _ _ [2,3,5,8] (by decide) rfl) rfl _ _ _ _ _ _ _ _ _ rfl]
   simp only[eG,go_sem,thq S,nbr S,zN0,zN1,zN2,zN3,zN4,zI0,zI1,zI2,zI3,reduceCtorEq,Y4 S,t2,t3,t5]
   refine next3 _ _ ?_
   clear t2 t3 t5 T
   intro T t2 t3 t5
   cases hret:Md.canRetire p c with
   | false=>
    by_cases z3:r3.length=0
    ·have e3 : r3 = [] := List.length_eq_zero_iff.1 z3
     rw[e3,Zz] at t5
     rw[e3,Zy,List.append_nil]
     simp only[eG,go_sem,thq S,nbr S,zN0,zN1,zN2,zN3,zN4,zI0,zI1,zI2,zI3,reduceCtorEq,Y4 S,t2,t3,t5,Zg S,hret]
    ·rw [Za z3] at t5
     rw[Z9 z3]
     have hne:r3≠[]:=fun e=>z3 (by rw[e];rfl)
     have hd:deep [.cells ((rC r3).map .d) 0 false] 8 (.sref 0 0 0 r3.length 2 none)=some (.lst (rC r3) r3.length none,[0]):=Y8 r3 hne _ rfl 6 2 none rfl
     simp only[eG,go_sem,thq S,nbr S,zN0,zN1,zN2,zN3,zN4,zI0,zI1,zI2,zI3,reduceCtorEq,Y4 S,t2,t3,t5,Zg S,hret,hd]
     rfl
   | true=>
    by_cases z3:r3.length=0
    ·have e3 : r3 = [] := List.length_eq_zero_iff.1 z3
     rw[e3,Zz] at t5
     rw[e3,Zy,List.append_nil]
     simp only[eG,go_sem,thq S,nbr S,zN0,zN1,zN2,zN3,zN4,zI0,zI1,zI2,zI3,reduceCtorEq,Y4 S,Jd,Je,Zj,Z7,Zl,nc2,Qv,l16,Zfo,l1n,Option.map_some,Nat.zero_add,Nat.one_mul,Nat.zero_mul,and_self,true_and,show(0:Nat)<1 by decide,t2,t3,t5,Zg S,hret,Zo,Nat.one_ne_zero,Nat.le_refl]
     rfl
    ·rw [Za z3] at t5
     rw[Z9 z3]
     have k1:(r3.length+1)*16<=Zf:=by unfold Zf;omega
     have k2:r3.length+1<=Zf:=by unfold Zf;omega
     have hd:deep [.cells ((rC (r3++[(⟨4,0⟩:Dir)])).map .d) 0 false] 8 (.sref 0 0 0 (r3.length+1) 2 none)=some (.lst (rC (r3++[(⟨4,0⟩:Dir)])) (r3++[(⟨4,0⟩:Dir)]).length none,[0]):=Y8 _ (by simp) _ (by simp) 6 2 none rfl
     simp only[eG,go_sem,thq S,nbr S,zN0,zN1,zN2,zN3,zN4,zI0,zI1,zI2,zI3,reduceCtorEq,Y4 S,Jd,Je,Zj,Z7,Zl,nc2,Qv,l16,Zfo,l1n,Option.map_some,Nat.zero_add,Nat.one_mul,Nat.zero_mul,and_self,true_and,show(0:Nat)<1 by decide,t2,t3,t5,Zg S,hret,k1,k2,hd]
     rfl
  ·rw [Za z2] at t5
   rw[Z9 z2]
   simp only[Za z2,Z9 z2] at next3
   simp only[eG,go_sem,thq S,nbr S,zN0,zN1,zN2,zN3,zN4,zI0,zI1,zI2,zI3,reduceCtorEq,Y4 S,t2,t3,t5]
   rw[Y2,Z1 (on S _ _ [2,3,5,8] (by decide) rfl) rfl _ _ _ _ _ _ _ _ _ rfl]
   simp only[eG,go_sem,thq S,nbr S,zN0,zN1,zN2,zN3,zN4,zI0,zI1,zI2,zI3,reduceCtorEq,Y4 S,t2,t3,t5]
   refine next3 _ _ ?_
   clear t2 t3 t5 T
   intro T t2 t3 t5
   cases hret:Md.canRetire p c with
   | false=>
    by_cases z3:r3.length=0
    ·have e3 : r3 = [] := List.length_eq_zero_iff.1 z3
     rw[e3,Zz] at t5
     rw[e3,Zy,List.append_nil]
     simp only[eG,go_sem,thq S,nbr S,zN0,zN1,zN2,zN3,zN4,zI0,zI1,zI2,zI3,reduceCtorEq,Y4 S,t2,t3,t5,Zg S,hret]
    ·rw [Za z3] at t5
     rw[Z9 z3]
     have hne:r3≠[]:=fun e=>z3 (by rw[e];rfl)
     have hd:deep [.cells ((rC r3).map .d) 0 false] 8 (.sref 0 0 0 r3.length 2 none)=some (.lst (rC r3) r3.length none,[0]):=Y8 r3 hne _ rfl 6 2 none rfl
     simp only[eG,go_sem,thq S,nbr S,zN0,zN1,zN2,zN3,zN4,zI0,zI1,zI2,zI3,reduceCtorEq,Y4 S,t2,t3,t5,Zg S,hret,hd]
     rfl
   | true=>
    by_cases z3:r3.length=0
    ·have e3 : r3 = [] := List.length_eq_zero_iff.1 z3
     rw[e3,Zz] at t5
     rw[e3,Zy,List.append_nil]
     simp only[eG,go_sem,thq S,nbr S,zN0,zN1,zN2,zN3,zN4,zI0,zI1,zI2,zI3,reduceCtorEq,Y4 S,Jd,Je,Zj,Z7,Zl,nc2,Qv,l16,Zfo,l1n,Option.map_some,Nat.zero_add,Nat.one_mul,Nat.zero_mul,and_self,true_and,show(0:Nat)<1 by decide,t2,t3,t5,Zg S,hret,Zo,Nat.one_ne_zero,Nat.le_refl]
     rfl
    ·rw [Za z3] at t5
     rw[Z9 z3]
     have k1:(r3.length+1)*16<=Zf:=by unfold Zf;omega
     have k2:r3.length+1<=Zf:=by unfold Zf;omega
     have hd:deep [.cells ((rC (r3++[(⟨4,0⟩:Dir)])).map .d) 0 false] 8 (.sref 0 0 0 (r3.length+1) 2 none)=some (.lst (rC (r3++[(⟨4,0⟩:Dir)])) (r3++[(⟨4,0⟩:Dir)]).length none,[0]):=Y8 _ (by simp) _ (by simp) 6 2 none rfl
     simp only[eG,go_sem,thq S,nbr S,zN0,zN1,zN2,zN3,zN4,zI0,zI1,zI2,zI3,reduceCtorEq,Y4 S,Jd,Je,Zj,Z7,Zl,nc2,Qv,l16,Zfo,l1n,Option.map_some,Nat.zero_add,Nat.one_mul,Nat.zero_mul,and_self,true_and,show(0:Nat)<1 by decide,t2,t3,t5,Zg S,hret,k1,k2,hd]
     rfl
 ·rw [Za z1] at t5
  rw[Z9 z1]
  simp only[Za z1,Z9 z1] at next2
  simp only[eG,go_sem,thq S,nbr S,zN0,zN1,zN2,zN3,zN4,zI0,zI1,zI2,zI3,reduceCtorEq,Y4 S,t2,t3,t5]
  rw[Y2,Z1 (on S _ _ [2,3,5,7] (by decide) rfl) rfl _ _ _ _ _ _ _ _ _ rfl]
  simp only[eG,go_sem,thq S,nbr S,zN0,zN1,zN2,zN3,zN4,zI0,zI1,zI2,zI3,reduceCtorEq,Y4 S,t2,t3,t5]
  refine next2 _ _ ?_
  clear t2 t3 t5 T
  intro T t2 t3 t5
  by_cases z2:r2.length=0
  ·have e2 : r2 = [] := List.length_eq_zero_iff.1 z2
   rw[e2,Zz] at t5
   rw[e2,Zy,List.append_nil]
   simp only[e2,Zz,Zy,List.append_nil] at next3
   simp only[eG,go_sem,thq S,nbr S,zN0,zN1,zN2,zN3,zN4,zI0,zI1,zI2,zI3,reduceCtorEq,Y4 S,t2,t3,t5]
   rw[Y2,Z1 (on S _ _ [2,3,5,8] (by decide) rfl) rfl _ _ _ _ _ _ _ _ _ rfl]
   simp only[eG,go_sem,thq S,nbr S,zN0,zN1,zN2,zN3,zN4,zI0,zI1,zI2,zI3,reduceCtorEq,Y4 S,t2,t3,t5]
   refine next3 _ _ ?_
   clear t2 t3 t5 T
   intro T t2 t3 t5
   cases hret:Md.canRetire p c with
   | false=>
    by_cases z3:r3.length=0
    ·have e3 : r3 = [] := List.length_eq_zero_iff.1 z3
     rw[e3,Zz] at t5
     rw[e3,Zy,List.append_nil]
     simp only[eG,go_sem,thq S,nbr S,zN0,zN1,zN2,zN3,zN4,zI0,zI1,zI2,zI3,reduceCtorEq,Y4 S,t2,t3,t5,Zg S,hret]
    ·rw [Za z3] at t5
     rw[Z9 z3]
     have hne:r3≠[]:=fun e=>z3 (by rw[e];rfl)
     have hd:deep [.cells ((rC r3).map .d) 0 false] 8 (.sref 0 0 0 r3.length 2 none)=some (.lst (rC r3) r3.length none,[0]):=Y8 r3 hne _ rfl 6 2 none rfl
     simp only[eG,go_sem,thq S,nbr S,zN0,zN1,zN2,zN3,zN4,zI0,zI1,zI2,zI3,reduceCtorEq,Y4 S,t2,t3,t5,Zg S,hret,hd]
     rfl
   | true=>
    by_cases z3:r3.length=0
    ·have e3 : r3 = [] := List.length_eq_zero_iff.1 z3
     rw[e3,Zz] at t5
     rw[e3,Zy,List.append_nil]
     simp only[eG,go_sem,thq S,nbr S,zN0,zN1,zN2,zN3,zN4,zI0,zI1,zI2,zI3,reduceCtorEq,Y4 S,Jd,Je,Zj,Z7,Zl,nc2,Qv,l16,Zfo,l1n,Option.map_some,Nat.zero_add,Nat.one_mul,Nat.zero_mul,and_self,true_and,show(0:Nat)<1 by decide,t2,t3,t5,Zg S,hret,Zo,Nat.one_ne_zero,Nat.le_refl]
     rfl
    ·rw [Za z3] at t5
     rw[Z9 z3]
     have k1:(r3.length+1)*16<=Zf:=by unfold Zf;omega
     have k2:r3.length+1<=Zf:=by unfold Zf;omega
     have hd:deep [.cells ((rC (r3++[(⟨4,0⟩:Dir)])).map .d) 0 false] 8 (.sref 0 0 0 (r3.length+1) 2 none)=some (.lst (rC (r3++[(⟨4,0⟩:Dir)])) (r3++[(⟨4,0⟩:Dir)]).length none,[0]):=Y8 _ (by simp) _ (by simp) 6 2 none rfl
     simp only[eG,go_sem,thq S,nbr S,zN0,zN1,zN2,zN3,zN4,zI0,zI1,zI2,zI3,reduceCtorEq,Y4 S,Jd,Je,Zj,Z7,Zl,nc2,Qv,l16,Zfo,l1n,Option.map_some,Nat.zero_add,Nat.one_mul,Nat.zero_mul,and_self,true_and,show(0:Nat)<1 by decide,t2,t3,t5,Zg S,hret,k1,k2,hd]
     rfl
  ·rw [Za z2] at t5
   rw[Z9 z2]
   simp only[Za z2,Z9 z2] at next3
   simp only[eG,go_sem,thq S,nbr S,zN0,zN1,zN2,zN3,zN4,zI0,zI1,zI2,zI3,reduceCtorEq,Y4 S,t2,t3,t5]
   rw[Y2,Z1 (on S _ _ [2,3,5,8] (by decide) rfl) rfl _ _ _ _ _ _ _ _ _ rfl]
   simp only[eG,go_sem,thq S,nbr S,zN0,zN1,zN2,zN3,zN4,zI0,zI1,zI2,zI3,reduceCtorEq,Y4 S,t2,t3,t5]
   refine next3 _ _ ?_
   clear t2 t3 t5 T
   intro T t2 t3 t5
   cases hret:Md.canRetire p c with
   | false=>
    by_cases z3:r3.length=0
    ·have e3 : r3 = [] := List.length_eq_zero_iff.1 z3
     rw[e3,Zz] at t5
     rw[e3,Zy,List.append_nil]
     simp only[eG,go_sem,thq S,nbr S,zN0,zN1,zN2,zN3,zN4,zI0,zI1,zI2,zI3,reduceCtorEq,Y4 S,t2,t3,t5,Zg S,hret]
    ·rw [Za z3] at t5
     rw[Z9 z3]
     have hne:r3≠[]:=fun e=>z3 (by rw[e];rfl)
     have hd:deep [.cells ((rC r3).map .d) 0 false] 8 (.sref 0 0 0 r3.length 2 none)=some (.lst (rC r3) r3.length none,[0]):=Y8 r3 hne _ rfl 6 2 none rfl
     simp only[eG,go_sem,thq S,nbr S,zN0,zN1,zN2,zN3,zN4,zI0,zI1,zI2,zI3,reduceCtorEq,Y4 S,t2,t3,t5,Zg S,hret,hd]
     rfl
   | true=>
    by_cases z3:r3.length=0
    ·have e3 : r3 = [] := List.length_eq_zero_iff.1 z3
     rw[e3,Zz] at t5
     rw[e3,Zy,List.append_nil]
     simp only[eG,go_sem,thq S,nbr S,zN0,zN1,zN2,zN3,zN4,zI0,zI1,zI2,zI3,reduceCtorEq,Y4 S,Jd,Je,Zj,Z7,Zl,nc2,Qv,l16,Zfo,l1n,Option.map_some,Nat.zero_add,Nat.one_mul,Nat.zero_mul,and_self,true_and,show(0:Nat)<1 by decide,t2,t3,t5,Zg S,hret,Zo,Nat.one_ne_zero,Nat.le_refl]
     rfl
    ·rw [Za z3] at t5
     rw[Z9 z3]
     have k1:(r3.length+1)*16<=Zf:=by unfold Zf;omega
     have k2:r3.length+1<=Zf:=by unfold Zf;omega
     have hd:deep [.cells ((rC (r3++[(⟨4,0⟩:Dir)])).map .d) 0 false] 8 (.sref 0 0 0 (r3.length+1) 2 none)=some (.lst (rC (r3++[(⟨4,0⟩:Dir)])) (r3++[(⟨4,0⟩:Dir)]).length none,[0]):=Y8 _ (by simp) _ (by simp) 6 2 none rfl
     simp only[eG,go_sem,thq S,nbr S,zN0,zN1,zN2,zN3,zN4,zI0,zI1,zI2,zI3,reduceCtorEq,Y4 S,Jd,Je,Zj,Z7,Zl,nc2,Qv,l16,Zfo,l1n,Option.map_some,Nat.zero_add,Nat.one_mul,Nat.zero_mul,and_self,true_and,show(0:Nat)<1 by decide,t2,t3,t5,Zg S,hret,k1,k2,hd]
     rfl
theorem Zbt (dp:Nat)(p_w p_wn p_fu p_r0 p_r1 p_r2 p_r3:Int)(p_ms:List MemT)(p_ls:List Label)(p_is:List Ins)(c_r0 c_r1 c_r2 c_r3:Int)(c_mm c_st:List Int)(c_pc:Int)(c_bf:List Ent)(c_rb:List Int)(c_en:Int)(hi:(⟨p_w,p_wn,p_fu,⟨p_r0,p_r1,p_r2,p_r3⟩,p_ms,p_ls,p_is⟩:Prog).ins.length<1073741824)(hb:(⟨⟨⟨c_r0,c_r1,c_r2,c_r3⟩,c_mm,c_st,c_pc⟩,c_bf,c_rb,c_en⟩:Conf).buf.length<1073741824)(A:List Blk)(nb:Nat):Zb false E (evC E fn (dp+6)) 43 A nb (some ([.agg [vi p_w,vi p_wn,vi p_fu,vi p_r0,vi p_r1,vi p_r2,vi p_r3,rD p_ms,rD p_ls,rD p_is],.agg [vi c_r0,vi c_r1,vi c_r2,vi c_r3,rD c_mm,rD c_st,vi c_pc,rD c_bf,rD c_rb,vi c_en]],[]))=some (.made (.d (rD (Md.all ((⟨⟨⟨c_r0,c_r1,c_r2,c_r3⟩,c_mm,c_st,c_pc⟩,c_bf,c_rb,c_en⟩:Conf).state.mem.length:Int) (⟨p_w,p_wn,p_fu,⟨p_r0,p_r1,p_r2,p_r3⟩,p_ms,p_ls,p_is⟩:Prog) (⟨⟨⟨c_r0,c_r1,c_r2,c_r3⟩,c_mm,c_st,c_pc⟩,c_bf,c_rb,c_en⟩:Conf)))) []):=
 Zk.deep (Zqw S dp (⟨p_w,p_wn,p_fu,⟨p_r0,p_r1,p_r2,p_r3⟩,p_ms,p_ls,p_is⟩:Prog) (⟨⟨⟨c_r0,c_r1,c_r2,c_r3⟩,c_mm,c_st,c_pc⟩,c_bf,c_rb,c_en⟩:Conf) hi hb) (np S 43 (by decide)) A nb
end
end Go.Aug.Mc
