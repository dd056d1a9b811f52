import Derived.Test.YtogckbgcldmaeaaMk1
namespace Go.Aug.Mc
open Go Go.Aug
set_option linter.unusedSimpArgs false
set_option linter.unusedVariables false
set_option maxHeartbeats 40000000
def dig (n:Nat):ByteArray:=⟨#[(48+n).toUInt8]⟩
theorem o_text (r:Bool)(x:Opd)(E:Env)(call:CallT)(tm:List AV)(A:List Blk)(nb:Nat):oText r x E call tm A nb=one? (evText A r (look tm x)):=id rfl
theorem t_cat (a b:ByteArray)(h:a.size+b.size<=1099511627776):evBin .add (.d (vt a)) (.d (vt b))=some (.d (vt (a++b))):=by
 show(evStr .add a b).map _=_
 simp[evStr,h]
theorem dg (z:Int):bytesText [z]++(⟨#[]⟩:ByteArray)=⟨#[UInt8.ofNat z.toNat]⟩:=by
 have:(⟨#[]⟩:ByteArray)=ByteArray.empty:=rfl
 rw[this,ByteArray.append_empty]
 rfl
theorem t_dig (z:Int):evBin .add (.d (vt (bytesText [z]))) (.d (vt ⟨#[]⟩))=some (.d (vt ⟨#[UInt8.ofNat z.toNat]⟩)):=by
 rw[t_cat _ _ (by rw[<-ByteArray.size_append,dg];show(1:Nat)<=_;decide),dg]
theorem t_ne (z:UInt8):evBin .eql (.d (vt ⟨#[z]⟩)) (.d (vt ⟨#[]⟩))=some (abool false):=by
 simp[evBin,evStr]
theorem q_B10_r4_Digits (E:Env)(call:CallT)(kn:K)(kx:Nat->K)(kr:K)(tm:List AV)(A:List Blk):B10_r4_Digits E call kn kx kr tm A=(cQ (cQ (cOz [st 6 (oV (.t 0)),st 7 (oBin .gtr (.t 6) (ci 0)),st 8 (oV (.t 7)),sg 9 8 false (oV (.t 3)),sg 10 8 false (oBin .eql (.t 9) (.c (.v (.string ⟨#[]⟩)))),st 11 (oPick (.t 8) (.c (.v (.bool true))) (.t 10))]) (cCond 1 (.t 11) (cSkip) (cExit 0))) (cBlock 1 (cQ (cOz [st 12 (oV (.t 0)),st 13 (oBin .rem (.t 12) (ci 10)),st 14 (oBin .add (ci 48) (.t 13)),st 15 (oCint .u8 (.t 14)),st 16 (oMkS (rep [.d (.v (.int .u8 0))] 1) 1 1 [(0,1,(.t 15))]),st 17 (oText false (.t 16)),st 18 (oV (.t 3)),st 19 (oBin .add (.t 17) (.t 18)),st 3 (oV (.t 19))]) (cOz [st 20 (oV (.t 0)),st 21 (oBin .quo (.t 20) (ci 10)),st 0 (oV (.t 21))])))) E call kn kx kr tm A:=id rfl
variable {E:Env} {fn:FuncId->Option (Env->CallT->CallT)}
section
variable (S:Sur E fn)
include S
theorem of_48_Mk2:E.lives 48 1=none/\E.lives 48 7=none:=⟨off S 48 1 (by decide) rfl,off S 48 7 (by decide) rfl⟩
theorem raw_r4_Digits (dp:Nat)(n:Int)(hn:0<=n/\n<6):Says E fn (dp+1) 48 [vi n] (vt (dig n.toNat)):=by
 unfold Says
 show ansOf (evC E fn (dp+1) 48 [.d (vi n)] [])=_
 rw[evC_succ,S.f_r4_Digits,apF_some,F_r4_Digits,mkF_run _ _ _ _ _ _ _ _ rfl]
 have hloop:∀ kx kr m d T A,loopK 10 B10_r4_Digits (inn E 48) (evC E fn dp) kx kr (m+1) (mk d 23 T) A=nrmTo (B10_r4_Digits (inn E 48) (evC E fn dp) (loopK 10 B10_r4_Digits (inn E 48) (evC E fn dp) kx kr m) kx kr) 23 [0,3] d T A (reach A 0 100000 ([0,3].flatMap fun t=>refsOf 8 (getS d T t)) []):=fun kx kr m d T A=>loop_in (on S _ _ [0,3] (by decide) rfl) rfl _ _ _ _ _ _ _ _ _ rfl
 have w1:∀ z:Int,0<=z->z<100->IntKind.i64.wrap z=z:=fun z h1 h2=>wrap_i64 (by omega) (by omega)
 have w2:∀ z:Int,0<=z->z<100->IntKind.u8.wrap z=z:=fun z h1 h2=>by simp only[IntKind.wrap,IntKind.signed,IntKind.bits];simp;omega
 have e0:evBin .eql (.d (vt ⟨#[]⟩)) (.d (vt ⟨#[]⟩))=some (abool true):=by simp[evBin,evStr]
 rcases(show n=0∨n=1∨n=2∨n=3∨n=4∨n=5 by omega) with rfl | rfl | rfl | rfl | rfl | rfl
 all_goals simp only[eG,go_sem,thq S,nbr S,Nat.reduceLT,Nat.reduceEqDiff,Nat.reduceAdd,Nat.reduceMul,Nat.reduceLeDiff,Int.reduceEq,Int.reduceLT,Int.reduceLE,Int.reduceNeg,reduceCtorEq,of_48_Mk2 S,hloop,q_B10_r4_Digits,ne_eq,not_false_eq_true,e0,gt_iff_lt,Int.reduceTMod,Int.reduceTDiv,Int.reduceMod,Int.reduceAdd,w1,w2,o_text,evText,readSlice,cellsAt,List.getElem?_cons_zero,List.take_succ_cons,List.take_zero,List.drop_zero,true_and,Nat.le_refl,and_self,intsOf,t_dig,t_ne,rep1']
 all_goals rfl
theorem c_r4_Digits (dp:Nat)(n:Int)(hn:0<=n/\n<6)(A:List Blk)(nb:Nat)(us:List Nat):evOwnK false E (evC E fn (dp+1)) 48 A nb (some ([vi n],us))=some (.made (.d (vt (dig n.toNat))) []):=
 Says.flat (raw_r4_Digits S dp n hn) (np S 48 (by decide)) (rfl) A nb us
end
open Nat renaming reduceLT -> zN0, reduceEqDiff -> zN1, reduceAdd -> zN2, reduceMul -> zN3, reduceLeDiff -> zN4
open Int renaming reduceEq -> zI0, reduceLT -> zI1, reduceLE -> zI2, reduceNeg -> zI3
theorem sh0 (x:Int):evBin .shr (.d (.v (.int .i64 x))) (.d (.v (.int .u64 0)))=some (aint (Md.shi x 0)):=sh_i x 0 (by decide)
theorem sf0 (x:Int):x.fdiv (2^min 0 64)=Md.shi x 0:=by rw[Nat.min_eq_left (by decide)];rfl
theorem sf2 (x:Int):x.fdiv (2^min 2 64)=Md.shi x 2:=by rw[Nat.min_eq_left (by decide)];rfl
theorem sf4 (x:Int):x.fdiv (2^min 4 64)=Md.shi x 4:=by rw[Nat.min_eq_left (by decide)];rfl
theorem sf6 (x:Int):x.fdiv (2^min 6 64)=Md.shi x 6:=by rw[Nat.min_eq_left (by decide)];rfl
theorem ix4r (x:Int):evIxS (.d (.lst [vi 0,vi 0,vi 1,vi 2] 4 (some 4))) (aint (Md.iand x 3)) 1=some (.d (.vptr (vi (Md.r4.getD (Md.iand x 3).toNat 0)::rowC (Md.r4.drop ((Md.iand x 3).toNat+1))))):=by
 obtain⟨r,hr,h⟩:=Md.iand3 x
 rw[h,Int.toNat_natCast]
 exact ix_lit (l:=Md.r4) hr 4 rfl _ rfl
theorem o_callVf (E:Env)(l:Nat->Option (List Nat))(m:Nat)(call:CallT)(tm:List AV)(A:List Blk)(nb:Nat)(g:FuncId)(args:List Opd)(cap:List AV)(h:memN g E.br=false):
  callV { br:=E.br,th:=E.th,prim:=E.prim,back:=E.back,lives:=E.lives,live:=l,nb0:=m } call tm A nb args (.fn (.func g) cap)=evOwnK (memN g E.th || isSomeL (l (thKey g))) E call g A nb (fkP (mapD (deep A 8) (args.map (look tm)++cap))):=
 evCall_K E l m call A nb g _ h
def dRef (A:List Blk)(n i:Nat):Option (List AV)->Option (DV×List Nat)
 | some cs=>(mapD (deep A n) cs).map fun r=>(.vptr r.1,i::r.2)
 | none=>none
theorem deep_ref (A:List Blk)(n i v o:Nat):deep A (n+1) (.ref i v o)=dRef A n i (cellsAt A i v o):=by
 show(match cellsAt A i v o with | some cs=>_ | none=>none)=_
 cases cellsAt A i v o<;>rfl
theorem dRef_some (A:List Blk)(n i:Nat)(cs:List AV):dRef A n i (some cs)=(mapD (deep A n) cs).map fun r=>(.vptr r.1,i::r.2):=id rfl
variable {E:Env} {fn:FuncId->Option (Env->CallT->CallT)}
section
variable (S:Sur E fn)
include S
theorem of_17_Mk3:E.lives 17 1=none/\E.lives 17 23=none/\E.lives 17 27=none/\E.lives 17 31=none/\E.lives 17 35=none/\E.lives 17 39=none:=⟨off S 17 1 (by decide) rfl,off S 17 23 (by decide) rfl,off S 17 27 (by decide) rfl,off S 17 31 (by decide) rfl,off S 17 35 (by decide) rfl,off S 17 39 (by decide) rfl⟩
theorem st12_0 (dp:Nat)(l:List Int)(kx:Nat->K)(kr:K)(f:Nat)(W wn pub sec r0 r1 r2 r3 r:Int)(hr:Md.r4.getD (Md.iand (Md.shi (Md.kM l 1) 0) 3).toNat 0=r):
  B12_w6_Make (inn E 17) (evC E fn (dp+1)) (loopK 12 B12_w6_Make (inn E 17) (evC E fn (dp+1)) kx kr (f+1)) kx kr (mk .bot 171 [(2,.ref 0 0 0),(3,.fn (.func 47) [.ref 1 0 0]),(4,.ref 2 0 0),(5,aint pub),(6,aint sec),(7,aint 0)]) [.cells [zi,zi,zi,zi,zi,zi,zi,zn,zn,zn] 0 false,.cells [.d (rowD l)] 0 false,.cells [aint W,aint wn,aint 6,aint r0,aint r1,aint r2,aint r3,zn,zn,zn] 0 false]=
  B12_w6_Make (inn E 17) (evC E fn (dp+1)) (loopK 12 B12_w6_Make (inn E 17) (evC E fn (dp+1)) kx kr f) kx kr (mk .bot 171 [(2,.ref 0 0 0),(3,.fn (.func 47) [.ref 1 0 0]),(4,.ref 2 0 0),(5,aint (Md.regStep W pub sec r).2.1),(6,aint (Md.regStep W pub sec r).2.2),(7,aint 1)]) [.cells [zi,zi,zi,zi,zi,zi,zi,zn,zn,zn] 0 false,.cells [.d (rowD l)] 0 false,.cells [aint W,aint wn,aint 6,aint (Md.regStep W pub sec r).1,aint r1,aint r2,aint r3,zn,zn,zn] 0 false]:=by
 have w1:∀ z:Int,0<=z->z<100->IntKind.i64.wrap z=z:=fun z h1 h2=>wrap_i64 (by omega) (by omega)
 have w2:∀ z:Int,0<=z->z<100->IntKind.u64.wrap z=z:=fun z h1 h2=>wrap_u64 (by omega) (by omega)
 have r4':∀ {α:Type} (l:List α),rep l 4=l++(l++(l++l)):=fun l=>by simp[rep]
 generalize hK:loopK 12 B12_w6_Make _ _ kx kr (f+1)=KK
 first | (conv=>lhs;rw[B12_w6_Make]) | rw[B12_w6_Make]
 by_cases c1:r=1
 ·by_cases c2 : IntKind.i64.wrap (pub + W) <= 2
  ·simp only [eG, go_sem, thq S, nbr S, zN0, zN1, zN2, zN3, zN4, zI0, zI1, zI2, zI3, reduceCtorEq, of_17_Mk3 S, deep_ref, dRef_some, o_callVf, w1, w2, r4', c_w6_Make_1 S, sh0, sf0, sf2, sf4, sf6, b_iand, ix4r, Int.reduceMul, Int.reduceAdd, Int.toNat_zero, Int.reduceToNat, zI1, zI2, Int.cast_ofNat_Int, false_and, Md.regStep, Md.w64', and_true, true_and, and_self, hr, c1, c2]
   rw[<-hK,loop_in (on S _ _ [2,3,4,5,6,7] (by decide) rfl) rfl _ _ _ _ _ _ _ _ _ rfl]
   simp only[eG,go_sem,thq S,nbr S,zN0,zN1,zN2,zN3,zN4,zI0,zI1,zI2,zI3,reduceCtorEq,of_17_Mk3 S]
  ·simp only [eG, go_sem, thq S, nbr S, zN0, zN1, zN2, zN3, zN4, zI0, zI1, zI2, zI3, reduceCtorEq, of_17_Mk3 S, deep_ref, dRef_some, o_callVf, w1, w2, r4', c_w6_Make_1 S, sh0, sf0, sf2, sf4, sf6, b_iand, ix4r, Int.reduceMul, Int.reduceAdd, Int.toNat_zero, Int.reduceToNat, zI1, zI2, Int.cast_ofNat_Int, false_and, Md.regStep, Md.w64', and_true, true_and, and_self, hr, c1, c2]
   rw[<-hK,loop_in (on S _ _ [2,3,4,5,6,7] (by decide) rfl) rfl _ _ _ _ _ _ _ _ _ rfl]
   simp only[eG,go_sem,thq S,nbr S,zN0,zN1,zN2,zN3,zN4,zI0,zI1,zI2,zI3,reduceCtorEq,of_17_Mk3 S]
 ·by_cases c3 : r = 2
  ·by_cases c4 : IntKind.i64.wrap (sec + W) <= 2
   ·simp only [eG, go_sem, thq S, nbr S, zN0, zN1, zN2, zN3, zN4, zI0, zI1, zI2, zI3, reduceCtorEq, of_17_Mk3 S, deep_ref, dRef_some, o_callVf, w1, w2, r4', c_w6_Make_1 S, sh0, sf0, sf2, sf4, sf6, b_iand, ix4r, Int.reduceMul, Int.reduceAdd, Int.toNat_zero, Int.reduceToNat, zI1, zI2, Int.cast_ofNat_Int, false_and, Md.regStep, Md.w64', and_true, true_and, and_self, hr, c1, c3, c4]
    rw[<-hK,loop_in (on S _ _ [2,3,4,5,6,7] (by decide) rfl) rfl _ _ _ _ _ _ _ _ _ rfl]
    simp only[eG,go_sem,thq S,nbr S,zN0,zN1,zN2,zN3,zN4,zI0,zI1,zI2,zI3,reduceCtorEq,of_17_Mk3 S]
   ·simp only [eG, go_sem, thq S, nbr S, zN0, zN1, zN2, zN3, zN4, zI0, zI1, zI2, zI3, reduceCtorEq, of_17_Mk3 S, deep_ref, dRef_some, o_callVf, w1, w2, r4', c_w6_Make_1 S, sh0, sf0, sf2, sf4, sf6, b_iand, ix4r, Int.reduceMul, Int.reduceAdd, Int.toNat_zero, Int.reduceToNat, zI1, zI2, Int.cast_ofNat_Int, false_and, Md.regStep, Md.w64', and_true, true_and, and_self, hr, c1, c3, c4]
    rw[<-hK,loop_in (on S _ _ [2,3,4,5,6,7] (by decide) rfl) rfl _ _ _ _ _ _ _ _ _ rfl]
    simp only[eG,go_sem,thq S,nbr S,zN0,zN1,zN2,zN3,zN4,zI0,zI1,zI2,zI3,reduceCtorEq,of_17_Mk3 S]
  ·simp only [eG, go_sem, thq S, nbr S, zN0, zN1, zN2, zN3, zN4, zI0, zI1, zI2, zI3, reduceCtorEq, of_17_Mk3 S, deep_ref, dRef_some, o_callVf, w1, w2, r4', c_w6_Make_1 S, sh0, sf0, sf2, sf4, sf6, b_iand, ix4r, Int.reduceMul, Int.reduceAdd, Int.toNat_zero, Int.reduceToNat, zI1, zI2, Int.cast_ofNat_Int, false_and, Md.regStep, Md.w64', and_true, true_and, and_self, hr, c1, c3]
   rw[<-hK,loop_in (on S _ _ [2,3,4,5,6,7] (by decide) rfl) rfl _ _ _ _ _ _ _ _ _ rfl]
   simp only[eG,go_sem,thq S,nbr S,zN0,zN1,zN2,zN3,zN4,zI0,zI1,zI2,zI3,reduceCtorEq,of_17_Mk3 S]
theorem st12_1 (dp:Nat)(l:List Int)(kx:Nat->K)(kr:K)(f:Nat)(W wn pub sec r0 r1 r2 r3 r:Int)(hr:Md.r4.getD (Md.iand (Md.shi (Md.kM l 1) 2) 3).toNat 0=r):
  B12_w6_Make (inn E 17) (evC E fn (dp+1)) (loopK 12 B12_w6_Make (inn E 17) (evC E fn (dp+1)) kx kr (f+1)) kx kr (mk .bot 171 [(2,.ref 0 0 0),(3,.fn (.func 47) [.ref 1 0 0]),(4,.ref 2 0 0),(5,aint pub),(6,aint sec),(7,aint 1)]) [.cells [zi,zi,zi,zi,zi,zi,zi,zn,zn,zn] 0 false,.cells [.d (rowD l)] 0 false,.cells [aint W,aint wn,aint 6,aint r0,aint r1,aint r2,aint r3,zn,zn,zn] 0 false]=
  B12_w6_Make (inn E 17) (evC E fn (dp+1)) (loopK 12 B12_w6_Make (inn E 17) (evC E fn (dp+1)) kx kr f) kx kr (mk .bot 171 [(2,.ref 0 0 0),(3,.fn (.func 47) [.ref 1 0 0]),(4,.ref 2 0 0),(5,aint (Md.regStep W pub sec r).2.1),(6,aint (Md.regStep W pub sec r).2.2),(7,aint 2)]) [.cells [zi,zi,zi,zi,zi,zi,zi,zn,zn,zn] 0 false,.cells [.d (rowD l)] 0 false,.cells [aint W,aint wn,aint 6,aint r0,aint (Md.regStep W pub sec r).1,aint r2,aint r3,zn,zn,zn] 0 false]:=by
 have w1:∀ z:Int,0<=z->z<100->IntKind.i64.wrap z=z:=fun z h1 h2=>wrap_i64 (by omega) (by omega)
 have w2:∀ z:Int,0<=z->z<100->IntKind.u64.wrap z=z:=fun z h1 h2=>wrap_u64 (by omega) (by omega)
 have r4':∀ {α:Type} (l:List α),rep l 4=l++(l++(l++l)):=fun l=>by simp[rep]
 generalize hK:loopK 12 B12_w6_Make _ _ kx kr (f+1)=KK
 first | (conv=>lhs;rw[B12_w6_Make]) | rw[B12_w6_Make]
 by_cases c1:r=1
 ·by_cases c2 : IntKind.i64.wrap (pub + W) <= 2
  ·simp only [eG, go_sem, thq S, nbr S, zN0, zN1, zN2, zN3, zN4, zI0, zI1, zI2, zI3, reduceCtorEq, of_17_Mk3 S, deep_ref, dRef_some, o_callVf, w1, w2, r4', c_w6_Make_1 S, sh0, sf0, sf2, sf4, sf6, b_iand, ix4r, Int.reduceMul, Int.reduceAdd, Int.toNat_zero, Int.reduceToNat, zI1, zI2, Int.cast_ofNat_Int, false_and, Md.regStep, Md.w64', and_true, true_and, and_self, hr, c1, c2]
   rw[<-hK,loop_in (on S _ _ [2,3,4,5,6,7] (by decide) rfl) rfl _ _ _ _ _ _ _ _ _ rfl]
   simp only[eG,go_sem,thq S,nbr S,zN0,zN1,zN2,zN3,zN4,zI0,zI1,zI2,zI3,reduceCtorEq,of_17_Mk3 S]
  ·simp only [eG, go_sem, thq S, nbr S, zN0, zN1, zN2, zN3, zN4, zI0, zI1, zI2, zI3, reduceCtorEq, of_17_Mk3 S, deep_ref, dRef_some, o_callVf, w1, w2, r4', c_w6_Make_1 S, sh0, sf0, sf2, sf4, sf6, b_iand, ix4r, Int.reduceMul, Int.reduceAdd, Int.toNat_zero, Int.reduceToNat, zI1, zI2, Int.cast_ofNat_Int, false_and, Md.regStep, Md.w64', and_true, true_and, and_self, hr, c1, c2]
   rw[<-hK,loop_in (on S _ _ [2,3,4,5,6,7] (by decide) rfl) rfl _ _ _ _ _ _ _ _ _ rfl]
   simp only[eG,go_sem,thq S,nbr S,zN0,zN1,zN2,zN3,zN4,zI0,zI1,zI2,zI3,reduceCtorEq,of_17_Mk3 S]
 ·by_cases c3 : r = 2
  ·by_cases c4 : IntKind.i64.wrap (sec + W) <= 2
   ·simp only [eG, go_sem, thq S, nbr S, zN0, zN1, zN2, zN3, zN4, zI0, zI1, zI2, zI3, reduceCtorEq, of_17_Mk3 S, deep_ref, dRef_some, o_callVf, w1, w2, r4', c_w6_Make_1 S, sh0, sf0, sf2, sf4, sf6, b_iand, ix4r, Int.reduceMul, Int.reduceAdd, Int.toNat_zero, Int.reduceToNat, zI1, zI2, Int.cast_ofNat_Int, false_and, Md.regStep, Md.w64', and_true, true_and, and_self, hr, c1, c3, c4]
    rw[<-hK,loop_in (on S _ _ [2,3,4,5,6,7] (by decide) rfl) rfl _ _ _ _ _ _ _ _ _ rfl]
    simp only[eG,go_sem,thq S,nbr S,zN0,zN1,zN2,zN3,zN4,zI0,zI1,zI2,zI3,reduceCtorEq,of_17_Mk3 S]
   ·simp only [eG, go_sem, thq S, nbr S, zN0, zN1, zN2, zN3, zN4, zI0, zI1, zI2, zI3, reduceCtorEq, of_17_Mk3 S, deep_ref, dRef_some, o_callVf, w1, w2, r4', c_w6_Make_1 S, sh0, sf0, sf2, sf4, sf6, b_iand, ix4r, Int.reduceMul, Int.reduceAdd, Int.toNat_zero, Int.reduceToNat, zI1, zI2, Int.cast_ofNat_Int, false_and, Md.regStep, Md.w64', and_true, true_and, and_self, hr, c1, c3, c4]
    rw[<-hK,loop_in (on S _ _ [2,3,4,5,6,7] (by decide) rfl) rfl _ _ _ _ _ _ _ _ _ rfl]
    simp only[eG,go_sem,thq S,nbr S,zN0,zN1,zN2,zN3,zN4,zI0,zI1,zI2,zI3,reduceCtorEq,of_17_Mk3 S]
  ·simp only [eG, go_sem, thq S, nbr S, zN0, zN1, zN2, zN3, zN4, zI0, zI1, zI2, zI3, reduceCtorEq, of_17_Mk3 S, deep_ref, dRef_some, o_callVf, w1, w2, r4', c_w6_Make_1 S, sh0, sf0, sf2, sf4, sf6, b_iand, ix4r, Int.reduceMul, Int.reduceAdd, Int.toNat_zero, Int.reduceToNat, zI1, zI2, Int.cast_ofNat_Int, false_and, Md.regStep, Md.w64', and_true, true_and, and_self, hr, c1, c3]
   rw[<-hK,loop_in (on S _ _ [2,3,4,5,6,7] (by decide) rfl) rfl _ _ _ _ _ _ _ _ _ rfl]
   simp only[eG,go_sem,thq S,nbr S,zN0,zN1,zN2,zN3,zN4,zI0,zI1,zI2,zI3,reduceCtorEq,of_17_Mk3 S]
theorem st12_2 (dp:Nat)(l:List Int)(kx:Nat->K)(kr:K)(f:Nat)(W wn pub sec r0 r1 r2 r3 r:Int)(hr:Md.r4.getD (Md.iand (Md.shi (Md.kM l 1) 4) 3).toNat 0=r):
  B12_w6_Make (inn E 17) (evC E fn (dp+1)) (loopK 12 B12_w6_Make (inn E 17) (evC E fn (dp+1)) kx kr (f+1)) kx kr (mk .bot 171 [(2,.ref 0 0 0),(3,.fn (.func 47) [.ref 1 0 0]),(4,.ref 2 0 0),(5,aint pub),(6,aint sec),(7,aint 2)]) [.cells [zi,zi,zi,zi,zi,zi,zi,zn,zn,zn] 0 false,.cells [.d (rowD l)] 0 false,.cells [aint W,aint wn,aint 6,aint r0,aint r1,aint r2,aint r3,zn,zn,zn] 0 false]=
  B12_w6_Make (inn E 17) (evC E fn (dp+1)) (loopK 12 B12_w6_Make (inn E 17) (evC E fn (dp+1)) kx kr f) kx kr (mk .bot 171 [(2,.ref 0 0 0),(3,.fn (.func 47) [.ref 1 0 0]),(4,.ref 2 0 0),(5,aint (Md.regStep W pub sec r).2.1),(6,aint (Md.regStep W pub sec r).2.2),(7,aint 3)]) [.cells [zi,zi,zi,zi,zi,zi,zi,zn,zn,zn] 0 false,.cells [.d (rowD l)] 0 false,.cells [aint W,aint wn,aint 6,aint r0,aint r1,aint (Md.regStep W pub sec r).1,aint r3,zn,zn,zn] 0 false]:=by
 have w1:∀ z:Int,0<=z->z<100->IntKind.i64.wrap z=z:=fun z h1 h2=>wrap_i64 (by omega) (by omega)
 have w2:∀ z:Int,0<=z->z<100->IntKind.u64.wrap z=z:=fun z h1 h2=>wrap_u64 (by omega) (by omega)
 have r4':∀ {α:Type} (l:List α),rep l 4=l++(l++(l++l)):=fun l=>by simp[rep]
 generalize hK:loopK 12 B12_w6_Make _ _ kx kr (f+1)=KK
 first | (conv=>lhs;rw[B12_w6_Make]) | rw[B12_w6_Make]
 by_cases c1:r=1
 ·by_cases c2 : IntKind.i64.wrap (pub + W) <= 2
  ·simp only [eG, go_sem, thq S, nbr S, zN0, zN1, zN2, zN3, zN4, zI0, zI1, zI2, zI3, reduceCtorEq, of_17_Mk3 S, deep_ref, dRef_some, o_callVf, w1, w2, r4', c_w6_Make_1 S, sh0, sf0, sf2, sf4, sf6, b_iand, ix4r, Int.reduceMul, Int.reduceAdd, Int.toNat_zero, Int.reduceToNat, zI1, zI2, Int.cast_ofNat_Int, false_and, Md.regStep, Md.w64', and_true, true_and, and_self, hr, c1, c2]
   rw[<-hK,loop_in (on S _ _ [2,3,4,5,6,7] (by decide) rfl) rfl _ _ _ _ _ _ _ _ _ rfl]
   simp only[eG,go_sem,thq S,nbr S,zN0,zN1,zN2,zN3,zN4,zI0,zI1,zI2,zI3,reduceCtorEq,of_17_Mk3 S]
  ·simp only [eG, go_sem, thq S, nbr S, zN0, zN1, zN2, zN3, zN4, zI0, zI1, zI2, zI3, reduceCtorEq, of_17_Mk3 S, deep_ref, dRef_some, o_callVf, w1, w2, r4', c_w6_Make_1 S, sh0, sf0, sf2, sf4, sf6, b_iand, ix4r, Int.reduceMul, Int.reduceAdd, Int.toNat_zero, Int.reduceToNat, zI1, zI2, Int.cast_ofNat_Int, false_and, Md.regStep, Md.w64', and_true, true_and, and_self, hr, c1, c2]
   rw[<-hK,loop_in (on S _ _ [2,3,4,5,6,7] (by decide) rfl) rfl _ _ _ _ _ _ _ _ _ rfl]
   simp only[eG,go_sem,thq S,nbr S,zN0,zN1,zN2,zN3,zN4,zI0,zI1,zI2,zI3,reduceCtorEq,of_17_Mk3 S]
 ·by_cases c3 : r = 2
  ·by_cases c4 : IntKind.i64.wrap (sec + W) <= 2
   ·simp only [eG, go_sem, thq S, nbr S, zN0, zN1, zN2, zN3, zN4, zI0, zI1, zI2, zI3, reduceCtorEq, of_17_Mk3 S, deep_ref, dRef_some, o_callVf, w1, w2, r4', c_w6_Make_1 S, sh0, sf0, sf2, sf4, sf6, b_iand, ix4r, Int.reduceMul, Int.reduceAdd, Int.toNat_zero, Int.reduceToNat, zI1, zI2, Int.cast_ofNat_Int, false_and, Md.regStep, Md.w64', and_true, true_and, and_self, hr, c1, c3, c4]
    rw[<-hK,loop_in (on S _ _ [2,3,4,5,6,7] (by decide) rfl) rfl _ _ _ _ _ _ _ _ _ rfl]
    simp only[eG,go_sem,thq S,nbr S,zN0,zN1,zN2,zN3,zN4,zI0,zI1,zI2,zI3,reduceCtorEq,of_17_Mk3 S]
   ·simp only [eG, go_sem, thq S, nbr S, zN0, zN1, zN2, zN3, zN4, zI0, zI1, zI2, zI3, reduceCtorEq, of_17_Mk3 S, deep_ref, dRef_some, o_callVf, w1, w2, r4', c_w6_Make_1 S, sh0, sf0, sf2, sf4, sf6, b_iand, ix4r, Int.reduceMul, Int.reduceAdd, Int.toNat_zero, Int.reduceToNat, zI1, zI2, Int.cast_ofNat_Int, false_and, Md.regStep, Md.w64', and_true, true_and, and_self, hr, c1, c3, c4]
    rw[<-hK,loop_in (on S _ _ [2,3,4,5,6,7] (by decide) rfl) rfl _ _ _ _ _ _ _ _ _ rfl]
    simp only[eG,go_sem,thq S,nbr S,zN0,zN1,zN2,zN3,zN4,zI0,zI1,zI2,zI3,reduceCtorEq,of_17_Mk3 S]
  ·simp only [eG, go_sem, thq S, nbr S, zN0, zN1, zN2, zN3, zN4, zI0, zI1, zI2, zI3, reduceCtorEq, of_17_Mk3 S, deep_ref, dRef_some, o_callVf, w1, w2, r4', c_w6_Make_1 S, sh0, sf0, sf2, sf4, sf6, b_iand, ix4r, Int.reduceMul, Int.reduceAdd, Int.toNat_zero, Int.reduceToNat, zI1, zI2, Int.cast_ofNat_Int, false_and, Md.regStep, Md.w64', and_true, true_and, and_self, hr, c1, c3]
   rw[<-hK,loop_in (on S _ _ [2,3,4,5,6,7] (by decide) rfl) rfl _ _ _ _ _ _ _ _ _ rfl]
   simp only[eG,go_sem,thq S,nbr S,zN0,zN1,zN2,zN3,zN4,zI0,zI1,zI2,zI3,reduceCtorEq,of_17_Mk3 S]
theorem st12_3 (dp:Nat)(l:List Int)(kx:Nat->K)(kr:K)(f:Nat)(W wn pub sec r0 r1 r2 r3 r:Int)(hr:Md.r4.getD (Md.iand (Md.shi (Md.kM l 1) 6) 3).toNat 0=r):
  B12_w6_Make (inn E 17) (evC E fn (dp+1)) (loopK 12 B12_w6_Make (inn E 17) (evC E fn (dp+1)) kx kr (f+1)) kx kr (mk .bot 171 [(2,.ref 0 0 0),(3,.fn (.func 47) [.ref 1 0 0]),(4,.ref 2 0 0),(5,aint pub),(6,aint sec),(7,aint 3)]) [.cells [zi,zi,zi,zi,zi,zi,zi,zn,zn,zn] 0 false,.cells [.d (rowD l)] 0 false,.cells [aint W,aint wn,aint 6,aint r0,aint r1,aint r2,aint r3,zn,zn,zn] 0 false]=
  B12_w6_Make (inn E 17) (evC E fn (dp+1)) (loopK 12 B12_w6_Make (inn E 17) (evC E fn (dp+1)) kx kr f) kx kr (mk .bot 171 [(2,.ref 0 0 0),(3,.fn (.func 47) [.ref 1 0 0]),(4,.ref 2 0 0),(5,aint (Md.regStep W pub sec r).2.1),(6,aint (Md.regStep W pub sec r).2.2),(7,aint 4)]) [.cells [zi,zi,zi,zi,zi,zi,zi,zn,zn,zn] 0 false,.cells [.d (rowD l)] 0 false,.cells [aint W,aint wn,aint 6,aint r0,aint r1,aint r2,aint (Md.regStep W pub sec r).1,zn,zn,zn] 0 false]:=by
 have w1:∀ z:Int,0<=z->z<100->IntKind.i64.wrap z=z:=fun z h1 h2=>wrap_i64 (by omega) (by omega)
 have w2:∀ z:Int,0<=z->z<100->IntKind.u64.wrap z=z:=fun z h1 h2=>wrap_u64 (by omega) (by omega)
 have r4':∀ {α:Type} (l:List α),rep l 4=l++(l++(l++l)):=fun l=>by simp[rep]
 generalize hK:loopK 12 B12_w6_Make _ _ kx kr (f+1)=KK
 first | (conv=>lhs;rw[B12_w6_Make]) | rw[B12_w6_Make]
 by_cases c1:r=1
 ·by_cases c2 : IntKind.i64.wrap (pub + W) <= 2
  ·simp only [eG, go_sem, thq S, nbr S, zN0, zN1, zN2, zN3, zN4, zI0, zI1, zI2, zI3, reduceCtorEq, of_17_Mk3 S, deep_ref, dRef_some, o_callVf, w1, w2, r4', c_w6_Make_1 S, sh0, sf0, sf2, sf4, sf6, b_iand, ix4r, Int.reduceMul, Int.reduceAdd, Int.toNat_zero, Int.reduceToNat, zI1, zI2, Int.cast_ofNat_Int, false_and, Md.regStep, Md.w64', and_true, true_and, and_self, hr, c1, c2]
   rw[<-hK,loop_in (on S _ _ [2,3,4,5,6,7] (by decide) rfl) rfl _ _ _ _ _ _ _ _ _ rfl]
   simp only[eG,go_sem,thq S,nbr S,zN0,zN1,zN2,zN3,zN4,zI0,zI1,zI2,zI3,reduceCtorEq,of_17_Mk3 S]
  ·simp only [eG, go_sem, thq S, nbr S, zN0, zN1, zN2, zN3, zN4, zI0, zI1, zI2, zI3, reduceCtorEq, of_17_Mk3 S, deep_ref, dRef_some, o_callVf, w1, w2, r4', c_w6_Make_1 S, sh0, sf0, sf2, sf4, sf6, b_iand, ix4r, Int.reduceMul, Int.reduceAdd, Int.toNat_zero, Int.reduceToNat, zI1, zI2, Int.cast_ofNat_Int, false_and, Md.regStep, Md.w64', and_true, true_and, and_self, hr, c1, c2]
   rw[<-hK,loop_in (on S _ _ [2,3,4,5,6,7] (by decide) rfl) rfl _ _ _ _ _ _ _ _ _ rfl]
   simp only[eG,go_sem,thq S,nbr S,zN0,zN1,zN2,zN3,zN4,zI0,zI1,zI2,zI3,reduceCtorEq,of_17_Mk3 S]
 ·by_cases c3 : r = 2
  ·by_cases c4 : IntKind.i64.wrap (sec + W) <= 2
   ·simp only [eG, go_sem, thq S, nbr S, zN0, zN1, zN2, zN3, zN4, zI0, zI1, zI2, zI3, reduceCtorEq, of_17_Mk3 S, deep_ref, dRef_some, o_callVf, w1, w2, r4', c_w6_Make_1 S, sh0, sf0, sf2, sf4, sf6, b_iand, ix4r, Int.reduceMul, Int.reduceAdd, Int.toNat_zero, Int.reduceToNat, zI1, zI2, Int.cast_ofNat_Int, false_and, Md.regStep, Md.w64', and_true, true_and, and_self, hr, c1, c3, c4]
    rw[<-hK,loop_in (on S _ _ [2,3,4,5,6,7] (by decide) rfl) rfl _ _ _ _ _ _ _ _ _ rfl]
    simp only[eG,go_sem,thq S,nbr S,zN0,zN1,zN2,zN3,zN4,zI0,zI1,zI2,zI3,reduceCtorEq,of_17_Mk3 S]
   ·simp only [eG, go_sem, thq S, nbr S, zN0, zN1, zN2, zN3, zN4, zI0, zI1, zI2, zI3, reduceCtorEq, of_17_Mk3 S, deep_ref, dRef_some, o_callVf, w1, w2, r4', c_w6_Make_1 S, sh0, sf0, sf2, sf4, sf6, b_iand, ix4r, Int.reduceMul, Int.reduceAdd, Int.toNat_zero, Int.reduceToNat, zI1, zI2, Int.cast_ofNat_Int, false_and, Md.regStep, Md.w64', and_true, true_and, and_self, hr, c1, c3, c4]
    rw[<-hK,loop_in (on S _ _ [2,3,4,5,6,7] (by decide) rfl) rfl _ _ _ _ _ _ _ _ _ rfl]
    simp only[eG,go_sem,thq S,nbr S,zN0,zN1,zN2,zN3,zN4,zI0,zI1,zI2,zI3,reduceCtorEq,of_17_Mk3 S]
  ·simp only [eG, go_sem, thq S, nbr S, zN0, zN1, zN2, zN3, zN4, zI0, zI1, zI2, zI3, reduceCtorEq, of_17_Mk3 S, deep_ref, dRef_some, o_callVf, w1, w2, r4', c_w6_Make_1 S, sh0, sf0, sf2, sf4, sf6, b_iand, ix4r, Int.reduceMul, Int.reduceAdd, Int.toNat_zero, Int.reduceToNat, zI1, zI2, Int.cast_ofNat_Int, false_and, Md.regStep, Md.w64', and_true, true_and, and_self, hr, c1, c3]
   rw[<-hK,loop_in (on S _ _ [2,3,4,5,6,7] (by decide) rfl) rfl _ _ _ _ _ _ _ _ _ rfl]
   simp only[eG,go_sem,thq S,nbr S,zN0,zN1,zN2,zN3,zN4,zI0,zI1,zI2,zI3,reduceCtorEq,of_17_Mk3 S]
theorem loop12 (dp:Nat)(l:List Int)(kx:Nat->K)(kr:K)(f:Nat)(hf:4<=f)(W wn:Int):
  B12_w6_Make (inn E 17) (evC E fn (dp+1)) (loopK 12 B12_w6_Make (inn E 17) (evC E fn (dp+1)) kx kr f) kx kr (mk .bot 171 [(2,.ref 0 0 0),(3,.fn (.func 47) [.ref 1 0 0]),(4,.ref 2 0 0),(5,aint 0),(6,aint 0),(7,aint 0)]) [.cells [zi,zi,zi,zi,zi,zi,zi,zn,zn,zn] 0 false,.cells [.d (rowD l)] 0 false,.cells [aint W,aint wn,aint 6,aint 0,aint 0,aint 0,aint 0,zn,zn,zn] 0 false]=
  kx 0 (mk .bot 171 ((24,abool false)::(23,aint 4)::[(2,.ref 0 0 0),(3,.fn (.func 47) [.ref 1 0 0]),(4,.ref 2 0 0),(5,aint (Md.reg3 l W).2.1),(6,aint (Md.reg3 l W).2.2),(7,aint 4)])) [.cells [zi,zi,zi,zi,zi,zi,zi,zn,zn,zn] 0 false,.cells [.d (rowD l)] 0 false,.cells [aint W,aint wn,aint 6,aint (Md.reg0 l W).1,aint (Md.reg1 l W).1,aint (Md.reg2 l W).1,aint (Md.reg3 l W).1,zn,zn,zn] 0 false]:=by
 obtain⟨f,rfl⟩:∃ g,f=g+4:=⟨f-4,by omega⟩
 rw[st12_0 S dp l kx kr (f+3) W wn 0 0 0 0 0 0 _ rfl,st12_1 S dp l kx kr (f+2) W wn _ _ _ 0 0 0 _ rfl,st12_2 S dp l kx kr (f+1) W wn _ _ _ _ 0 0 _ rfl,st12_3 S dp l kx kr f W wn _ _ _ _ _ 0 _ rfl]
 generalize loopK 12 B12_w6_Make _ _ kx kr f=KK
 first | (conv=>lhs;rw[B12_w6_Make]) | rw[B12_w6_Make]
 simp only[eG,go_sem,thq S,nbr S,zN0,zN1,zN2,zN3,zN4,zI0,zI1,zI2,zI3,reduceCtorEq,of_17_Mk3 S]
 rfl
end
theorem nc_lst1 (A:List Blk)(s:Nat)(cs:List DV)(k:Option Nat)(h:cs.length=s):newCells A false s (.d (.lst cs 1 k))=some (cs.map .d,1):=by
 show(if cs.length=1*s then some (cs.map AV.d,1) else none)=_
 rw[if_pos (by omega)]
theorem t_lab (n:Nat):evBin .add (.d (vt ⟨#[108]⟩)) (.d (vt (dig n)))=some (.d (vt (Md.labM n).name)):=by
 have e:(⟨#[108]⟩:ByteArray)++dig n=(Md.labM n).name:=by
  apply ByteArray.ext
  simp[dig,Md.labM]
 rw[t_cat _ _ (by rw[<-ByteArray.size_append,e];show(2:Nat)<=_;decide),e]
theorem l24:24<=limA:=by unfold limA;decide
theorem l80:80<=limA:=by unfold limA;decide
theorem l1:1<=limA:=by unfold limA;decide
theorem app_endL {A:List Blk}{bytes j v:Nat}{out:List Label}{nm:ByteArray}{z:Int}(hA:A[j]? =some (.cells ((rowC out).map .d) v false))(h1:(out.length+1)*bytes<=limA)(h2:out.length+1<=limA):
  evApp A 2 bytes (.sref j v 0 out.length 2 none) [.d (vt nm),.d (vi z)] 1=some (.turn j (.cells ((rowC (out++[⟨nm,z⟩])).map .d) (v+1) false) (.sref j (v+1) 0 (out.length+1) 2 none)):=
 app_end (x:=(⟨nm,z⟩:Label)) hA rfl (by decide) rfl h1 h2
theorem app_endX {A:List Blk}{bytes j v:Nat}{out:List Ins}{k o d an bn tg:Int}{ag bg:Bool}{nm:ByteArray}(hA:A[j]? =some (.cells ((rowC out).map .d) v false))(h1:(out.length+1)*bytes<=limA)(h2:out.length+1<=limA):
  evApp A 9 bytes (.sref j v 0 out.length 9 none) [.d (vi k),.d (vi o),.d (vi d),.d (vb ag),.d (vi an),.d (vb bg),.d (vi bn),.d (vt nm),.d (vi tg)] 1=some (.turn j (.cells ((rowC (out++[⟨k,o,d,⟨ag,an⟩,⟨bg,bn⟩,nm,tg⟩])).map .d) (v+1) false) (.sref j (v+1) 0 (out.length+1) 9 none)):=
 app_end (x:=(⟨k,o,d,⟨ag,an⟩,⟨bg,bn⟩,nm,tg⟩:Ins)) hA rfl (by decide) rfl h1 h2
variable {E:Env} {fn:FuncId->Option (Env->CallT->CallT)}
section
variable (S:Sur E fn)
include S
theorem of_17_Mk4:E.lives 17 1=none/\E.lives 17 23=none/\E.lives 17 27=none/\E.lives 17 31=none/\E.lives 17 35=none/\E.lives 17 39=none:=⟨off S 17 1 (by decide) rfl,off S 17 23 (by decide) rfl,off S 17 27 (by decide) rfl,off S 17 31 (by decide) rfl,off S 17 35 (by decide) rfl,off S 17 39 (by decide) rfl⟩
theorem fst44_0 (dp:Nat)(l:List Int)(kx:Nat->K)(kr:K)(f n:Nat)(W wn r0 r1 r2 r3:Int)(hn:n<6):
  B44_w6_Make (inn E 17) (evC E fn (dp+2)) (loopK 44 B44_w6_Make (inn E 17) (evC E fn (dp+2)) kx kr (f+1)) kx kr (mk .bot 171 [(2,.ref 0 0 0),(3,.fn (.func 47) [.ref 1 0 0]),(4,.ref 2 0 0),(8,aint n),(9,aint 0)]) [.cells [zi,zi,zi,zi,zi,zi,zi,zn,zn,zn] 0 false,.cells [.d (rowD l)] 0 false,.cells [aint W,aint wn,aint 6,aint r0,aint r1,aint r2,aint r3,zn,zn,zn] 0 false]=
  B44_w6_Make (inn E 17) (evC E fn (dp+2)) (loopK 44 B44_w6_Make (inn E 17) (evC E fn (dp+2)) kx kr f) kx kr (mk .bot 171 [(2,.ref 0 0 0),(3,.fn (.func 47) [.ref 1 0 0]),(4,.ref 2 0 0),(8,aint n),(9,aint 1)]) [.cells [zi,zi,zi,zi,zi,zi,zi,zn,zn,zn] 0 false,.cells [.d (rowD l)] 0 false,.cells [aint W,aint wn,aint 6,aint r0,aint r1,aint r2,aint r3,zn,.sref 3 0 0 1 2 none,zn] 0 false,.cells ((rowC [Md.labM 0]).map .d) 0 false]:=by
 have w1:∀ z:Int,0<=z->z<100->IntKind.i64.wrap z=z:=fun z h1 h2=>wrap_i64 (by omega) (by omega)
 have hn1:n<1000:=by omega
 have hjn:(0:Int)<=n:=by omega
 generalize hK:loopK 44 B44_w6_Make _ _ kx kr (f+1)=KK
 first | (conv=>lhs;rw[B44_w6_Make]) | rw[B44_w6_Make]
 simp only[eG,go_sem,thq S,nbr S,zN0,zN1,zN2,zN3,zN4,zI0,zI1,zI2,zI3,reduceCtorEq,of_17_Mk4 S,deep_ref,dRef_some,o_callVf,w1,rep1',c_r4_Digits S,c_w6_Make_1 S,c_w6_ins S,Int.reduceMul,Int.reduceAdd,Int.toNat_zero,Int.reduceToNat,zI1,zI2,t_lab,nc_lst1,d_endD,d_neM,l24,l80,l1,Nat.le_refl,and_true,true_and,and_self,hjn,hn1]
 rw[<-hK,loop_in (on S _ _ [2,3,4,8,9] (by decide) rfl) rfl _ _ _ _ _ _ _ _ _ rfl]
 simp only[eG,go_sem,thq S,nbr S,zN0,zN1,zN2,zN3,zN4,zI0,zI1,zI2,zI3,reduceCtorEq,of_17_Mk4 S]
 try rfl
theorem nxt44_0 (dp:Nat)(l:List Int)(kx:Nat->K)(kr:K)(f n:Nat)(W wn r0 r1 r2 r3:Int)(j:Nat)(ls:List Label)(hj:j<=n)(hn:n<6)(hz:ls.length<100):
  B44_w6_Make (inn E 17) (evC E fn (dp+2)) (loopK 44 B44_w6_Make (inn E 17) (evC E fn (dp+2)) kx kr (f+1)) kx kr (mk .bot 171 [(2,.ref 0 0 0),(3,.fn (.func 47) [.ref 1 0 0]),(4,.ref 2 0 0),(8,aint n),(9,aint j)]) [.cells [zi,zi,zi,zi,zi,zi,zi,zn,zn,zn] 0 false,.cells [.d (rowD l)] 0 false,.cells [aint W,aint wn,aint 6,aint r0,aint r1,aint r2,aint r3,zn,.sref 3 0 0 ls.length 2 none,zn] 0 false,.cells ((rowC ls).map .d) 0 false]=
  B44_w6_Make (inn E 17) (evC E fn (dp+2)) (loopK 44 B44_w6_Make (inn E 17) (evC E fn (dp+2)) kx kr f) kx kr (mk .bot 171 [(2,.ref 0 0 0),(3,.fn (.func 47) [.ref 1 0 0]),(4,.ref 2 0 0),(8,aint n),(9,aint (j+1))]) [.cells [zi,zi,zi,zi,zi,zi,zi,zn,zn,zn] 0 false,.cells [.d (rowD l)] 0 false,.cells [aint W,aint wn,aint 6,aint r0,aint r1,aint r2,aint r3,zn,.sref 3 0 0 (ls.length+1) 2 none,zn] 0 false,.cells ((rowC (ls++[Md.labM j])).map .d) 0 false]:=by
 have w1:∀ z:Int,0<=z->z<100->IntKind.i64.wrap z=z:=fun z h1 h2=>wrap_i64 (by omega) (by omega)
 have hn1:n<1000:=by omega
 have h6:(j:Int)<6:=by omega
 have h0:(0:Int)<=j:=by omega
 have h02:(0:Int)<=j+2:=by omega
 have wj1:IntKind.i64.wrap ((j:Int)+1)=(j:Int)+1:=w1 _ (by omega) (by omega)
 have wj2:IntKind.i64.wrap ((j:Int)+2)=(j:Int)+2:=w1 _ (by omega) (by omega)
 have hjn:(j:Int)<=n:=by omega
 have k1:(ls.length+1)*24<=limA:=by unfold limA;omega
 have k2:ls.length+1<=limA:=by unfold limA;omega
 generalize hK:loopK 44 B44_w6_Make _ _ kx kr (f+1)=KK
 first | (conv=>lhs;rw[B44_w6_Make]) | rw[B44_w6_Make]
 simp only[eG,go_sem,thq S,nbr S,zN0,zN1,zN2,zN3,zN4,zI0,zI1,zI2,zI3,reduceCtorEq,of_17_Mk4 S,deep_ref,dRef_some,o_callVf,w1,rep1',c_r4_Digits S,c_w6_Make_1 S,c_w6_ins S,Int.reduceMul,Int.reduceAdd,Int.toNat_zero,Int.reduceToNat,zI1,zI2,t_lab,nc_lst1,d_endD,d_neM,l24,l80,l1,Nat.le_refl,and_true,true_and,and_self,h6,h0,h02,wj1,wj2,hjn,k1,k2,hn1,Int.toNat_natCast,app_endL,app_endX]
 rw[<-hK,loop_in (on S _ _ [2,3,4,8,9] (by decide) rfl) rfl _ _ _ _ _ _ _ _ _ rfl]
 simp only[eG,go_sem,thq S,nbr S,zN0,zN1,zN2,zN3,zN4,zI0,zI1,zI2,zI3,reduceCtorEq,of_17_Mk4 S]
 try rfl
theorem fst52_0 (dp:Nat)(l:List Int)(kx:Nat->K)(kr:K)(f n:Nat)(ls:List Label)(W wn r0 r1 r2 r3:Int)(hj:0<n)(hn:n<6):
  B52_w6_Make (inn E 17) (evC E fn (dp+2)) (loopK 52 B52_w6_Make (inn E 17) (evC E fn (dp+2)) kx kr (f+1)) kx kr (mk .bot 171 [(2,.ref 0 0 0),(3,.fn (.func 47) [.ref 1 0 0]),(4,.ref 2 0 0),(8,aint n),(10,aint 0)]) [.cells [zi,zi,zi,zi,zi,zi,zi,zn,zn,zn] 0 false,.cells [.d (rowD l)] 0 false,.cells [aint W,aint wn,aint 6,aint r0,aint r1,aint r2,aint r3,zn,.sref 3 0 0 ls.length 2 none,zn] 0 false,.cells ((rowC ls).map .d) 0 false]=
  B52_w6_Make (inn E 17) (evC E fn (dp+2)) (loopK 52 B52_w6_Make (inn E 17) (evC E fn (dp+2)) kx kr f) kx kr (mk .bot 171 [(2,.ref 0 0 0),(3,.fn (.func 47) [.ref 1 0 0]),(4,.ref 2 0 0),(8,aint n),(10,aint 1)]) [.cells [zi,zi,zi,zi,zi,zi,zi,zn,zn,zn] 0 false,.cells [.d (rowD l)] 0 false,.cells [aint W,aint wn,aint 6,aint r0,aint r1,aint r2,aint r3,zn,.sref 3 0 0 ls.length 2 none,.sref 4 0 0 1 9 none] 0 false,.cells ((rowC ls).map .d) 0 false,.cells ((rowC [Md.insN (Md.kM l 2) n]).map .d) 0 false]:=by
 have w1:∀ z:Int,0<=z->z<100->IntKind.i64.wrap z=z:=fun z h1 h2=>wrap_i64 (by omega) (by omega)
 have hn1:n<1000:=by omega
 have hjn:(0:Int)<n:=by omega
 generalize hK:loopK 52 B52_w6_Make _ _ kx kr (f+1)=KK
 first | (conv=>lhs;rw[B52_w6_Make]) | rw[B52_w6_Make]
 simp only[eG,go_sem,thq S,nbr S,zN0,zN1,zN2,zN3,zN4,zI0,zI1,zI2,zI3,reduceCtorEq,of_17_Mk4 S,deep_ref,dRef_some,o_callVf,w1,rep1',c_r4_Digits S,c_w6_Make_1 S,c_w6_ins S,Int.reduceMul,Int.reduceAdd,Int.toNat_zero,Int.reduceToNat,zI1,zI2,t_lab,nc_lst1,d_endD,d_neM,l24,l80,l1,Nat.le_refl,and_true,true_and,and_self,hjn,hn1]
 rw[<-hK,loop_in (on S _ _ [2,3,4,8,10] (by decide) rfl) rfl _ _ _ _ _ _ _ _ _ rfl]
 simp only[eG,go_sem,thq S,nbr S,zN0,zN1,zN2,zN3,zN4,zI0,zI1,zI2,zI3,reduceCtorEq,of_17_Mk4 S]
 try rfl
theorem nxt52_0 (dp:Nat)(l:List Int)(kx:Nat->K)(kr:K)(f n:Nat)(ls:List Label)(W wn r0 r1 r2 r3:Int)(j:Nat)(is:List Ins)(hj:j<n)(hn:n<6)(hz:is.length<100):
  B52_w6_Make (inn E 17) (evC E fn (dp+2)) (loopK 52 B52_w6_Make (inn E 17) (evC E fn (dp+2)) kx kr (f+1)) kx kr (mk .bot 171 [(2,.ref 0 0 0),(3,.fn (.func 47) [.ref 1 0 0]),(4,.ref 2 0 0),(8,aint n),(10,aint j)]) [.cells [zi,zi,zi,zi,zi,zi,zi,zn,zn,zn] 0 false,.cells [.d (rowD l)] 0 false,.cells [aint W,aint wn,aint 6,aint r0,aint r1,aint r2,aint r3,zn,.sref 3 0 0 ls.length 2 none,.sref 4 0 0 is.length 9 none] 0 false,.cells ((rowC ls).map .d) 0 false,.cells ((rowC is).map .d) 0 false]=
  B52_w6_Make (inn E 17) (evC E fn (dp+2)) (loopK 52 B52_w6_Make (inn E 17) (evC E fn (dp+2)) kx kr f) kx kr (mk .bot 171 [(2,.ref 0 0 0),(3,.fn (.func 47) [.ref 1 0 0]),(4,.ref 2 0 0),(8,aint n),(10,aint (j+1))]) [.cells [zi,zi,zi,zi,zi,zi,zi,zn,zn,zn] 0 false,.cells [.d (rowD l)] 0 false,.cells [aint W,aint wn,aint 6,aint r0,aint r1,aint r2,aint r3,zn,.sref 3 0 0 ls.length 2 none,.sref 4 0 0 (is.length+1) 9 none] 0 false,.cells ((rowC ls).map .d) 0 false,.cells ((rowC (is++[Md.insN (Md.kM l (j+2)) n])).map .d) 0 false]:=by
 have w1:∀ z:Int,0<=z->z<100->IntKind.i64.wrap z=z:=fun z h1 h2=>wrap_i64 (by omega) (by omega)
 have hn1:n<1000:=by omega
 have h6:(j:Int)<6:=by omega
 have h0:(0:Int)<=j:=by omega
 have h02:(0:Int)<=j+2:=by omega
 have wj1:IntKind.i64.wrap ((j:Int)+1)=(j:Int)+1:=w1 _ (by omega) (by omega)
 have wj2:IntKind.i64.wrap ((j:Int)+2)=(j:Int)+2:=w1 _ (by omega) (by omega)
 have hjn:(j:Int)<n:=by omega
 have k1:(is.length+1)*80<=limA:=by unfold limA;omega
 have k2:is.length+1<=limA:=by unfold limA;omega
 generalize hK:loopK 52 B52_w6_Make _ _ kx kr (f+1)=KK
 first | (conv=>lhs;rw[B52_w6_Make]) | rw[B52_w6_Make]
 simp only[eG,go_sem,thq S,nbr S,zN0,zN1,zN2,zN3,zN4,zI0,zI1,zI2,zI3,reduceCtorEq,of_17_Mk4 S,deep_ref,dRef_some,o_callVf,w1,rep1',c_r4_Digits S,c_w6_Make_1 S,c_w6_ins S,Int.reduceMul,Int.reduceAdd,Int.toNat_zero,Int.reduceToNat,zI1,zI2,t_lab,nc_lst1,d_endD,d_neM,l24,l80,l1,Nat.le_refl,and_true,true_and,and_self,h6,h0,h02,wj1,wj2,hjn,k1,k2,hn1,Int.toNat_natCast,app_endL,app_endX]
 rw[<-hK,loop_in (on S _ _ [2,3,4,8,10] (by decide) rfl) rfl _ _ _ _ _ _ _ _ _ rfl]
 simp only[eG,go_sem,thq S,nbr S,zN0,zN1,zN2,zN3,zN4,zI0,zI1,zI2,zI3,reduceCtorEq,of_17_Mk4 S]
 try rfl
theorem fst44_1 (dp:Nat)(l:List Int)(kx:Nat->K)(kr:K)(f n:Nat)(ms:List MemT)(W wn r0 r1 r2 r3:Int)(hn:n<6):
  B44_w6_Make (inn E 17) (evC E fn (dp+2)) (loopK 44 B44_w6_Make (inn E 17) (evC E fn (dp+2)) kx kr (f+1)) kx kr (mk .bot 171 [(2,.ref 0 0 0),(3,.fn (.func 47) [.ref 1 0 0]),(4,.ref 2 0 0),(8,aint n),(9,aint 0)]) [.cells [zi,zi,zi,zi,zi,zi,zi,zn,zn,zn] 0 false,.cells [.d (rowD l)] 0 false,.cells [aint W,aint wn,aint 6,aint r0,aint r1,aint r2,aint r3,.sref 3 0 0 ms.length 3 none,zn,zn] 0 false,.cells ((rowC ms).map .d) 0 false]=
  B44_w6_Make (inn E 17) (evC E fn (dp+2)) (loopK 44 B44_w6_Make (inn E 17) (evC E fn (dp+2)) kx kr f) kx kr (mk .bot 171 [(2,.ref 0 0 0),(3,.fn (.func 47) [.ref 1 0 0]),(4,.ref 2 0 0),(8,aint n),(9,aint 1)]) [.cells [zi,zi,zi,zi,zi,zi,zi,zn,zn,zn] 0 false,.cells [.d (rowD l)] 0 false,.cells [aint W,aint wn,aint 6,aint r0,aint r1,aint r2,aint r3,.sref 3 0 0 ms.length 3 none,.sref 4 0 0 1 2 none,zn] 0 false,.cells ((rowC ms).map .d) 0 false,.cells ((rowC [Md.labM 0]).map .d) 0 false]:=by
 have w1:∀ z:Int,0<=z->z<100->IntKind.i64.wrap z=z:=fun z h1 h2=>wrap_i64 (by omega) (by omega)
 have hn1:n<1000:=by omega
 have hjn:(0:Int)<=n:=by omega
 generalize hK:loopK 44 B44_w6_Make _ _ kx kr (f+1)=KK
 first | (conv=>lhs;rw[B44_w6_Make]) | rw[B44_w6_Make]
 simp only[eG,go_sem,thq S,nbr S,zN0,zN1,zN2,zN3,zN4,zI0,zI1,zI2,zI3,reduceCtorEq,of_17_Mk4 S,deep_ref,dRef_some,o_callVf,w1,rep1',c_r4_Digits S,c_w6_Make_1 S,c_w6_ins S,Int.reduceMul,Int.reduceAdd,Int.toNat_zero,Int.reduceToNat,zI1,zI2,t_lab,nc_lst1,d_endD,d_neM,l24,l80,l1,Nat.le_refl,and_true,true_and,and_self,hjn,hn1]
 rw[<-hK,loop_in (on S _ _ [2,3,4,8,9] (by decide) rfl) rfl _ _ _ _ _ _ _ _ _ rfl]
 simp only[eG,go_sem,thq S,nbr S,zN0,zN1,zN2,zN3,zN4,zI0,zI1,zI2,zI3,reduceCtorEq,of_17_Mk4 S]
 try rfl
theorem nxt44_1 (dp:Nat)(l:List Int)(kx:Nat->K)(kr:K)(f n:Nat)(ms:List MemT)(W wn r0 r1 r2 r3:Int)(j:Nat)(ls:List Label)(hj:j<=n)(hn:n<6)(hz:ls.length<100):
  B44_w6_Make (inn E 17) (evC E fn (dp+2)) (loopK 44 B44_w6_Make (inn E 17) (evC E fn (dp+2)) kx kr (f+1)) kx kr (mk .bot 171 [(2,.ref 0 0 0),(3,.fn (.func 47) [.ref 1 0 0]),(4,.ref 2 0 0),(8,aint n),(9,aint j)]) [.cells [zi,zi,zi,zi,zi,zi,zi,zn,zn,zn] 0 false,.cells [.d (rowD l)] 0 false,.cells [aint W,aint wn,aint 6,aint r0,aint r1,aint r2,aint r3,.sref 3 0 0 ms.length 3 none,.sref 4 0 0 ls.length 2 none,zn] 0 false,.cells ((rowC ms).map .d) 0 false,.cells ((rowC ls).map .d) 0 false]=
  B44_w6_Make (inn E 17) (evC E fn (dp+2)) (loopK 44 B44_w6_Make (inn E 17) (evC E fn (dp+2)) kx kr f) kx kr (mk .bot 171 [(2,.ref 0 0 0),(3,.fn (.func 47) [.ref 1 0 0]),(4,.ref 2 0 0),(8,aint n),(9,aint (j+1))]) [.cells [zi,zi,zi,zi,zi,zi,zi,zn,zn,zn] 0 false,.cells [.d (rowD l)] 0 false,.cells [aint W,aint wn,aint 6,aint r0,aint r1,aint r2,aint r3,.sref 3 0 0 ms.length 3 none,.sref 4 0 0 (ls.length+1) 2 none,zn] 0 false,.cells ((rowC ms).map .d) 0 false,.cells ((rowC (ls++[Md.labM j])).map .d) 0 false]:=by
 have w1:∀ z:Int,0<=z->z<100->IntKind.i64.wrap z=z:=fun z h1 h2=>wrap_i64 (by omega) (by omega)
 have hn1:n<1000:=by omega
 have h6:(j:Int)<6:=by omega
 have h0:(0:Int)<=j:=by omega
 have h02:(0:Int)<=j+2:=by omega
 have wj1:IntKind.i64.wrap ((j:Int)+1)=(j:Int)+1:=w1 _ (by omega) (by omega)
 have wj2:IntKind.i64.wrap ((j:Int)+2)=(j:Int)+2:=w1 _ (by omega) (by omega)
 have hjn:(j:Int)<=n:=by omega
 have k1:(ls.length+1)*24<=limA:=by unfold limA;omega
 have k2:ls.length+1<=limA:=by unfold limA;omega
 generalize hK:loopK 44 B44_w6_Make _ _ kx kr (f+1)=KK
 first | (conv=>lhs;rw[B44_w6_Make]) | rw[B44_w6_Make]
 simp only[eG,go_sem,thq S,nbr S,zN0,zN1,zN2,zN3,zN4,zI0,zI1,zI2,zI3,reduceCtorEq,of_17_Mk4 S,deep_ref,dRef_some,o_callVf,w1,rep1',c_r4_Digits S,c_w6_Make_1 S,c_w6_ins S,Int.reduceMul,Int.reduceAdd,Int.toNat_zero,Int.reduceToNat,zI1,zI2,t_lab,nc_lst1,d_endD,d_neM,l24,l80,l1,Nat.le_refl,and_true,true_and,and_self,h6,h0,h02,wj1,wj2,hjn,k1,k2,hn1,Int.toNat_natCast,app_endL,app_endX]
 rw[<-hK,loop_in (on S _ _ [2,3,4,8,9] (by decide) rfl) rfl _ _ _ _ _ _ _ _ _ rfl]
 simp only[eG,go_sem,thq S,nbr S,zN0,zN1,zN2,zN3,zN4,zI0,zI1,zI2,zI3,reduceCtorEq,of_17_Mk4 S]
 try rfl
theorem fst52_1 (dp:Nat)(l:List Int)(kx:Nat->K)(kr:K)(f n:Nat)(ms:List MemT)(ls:List Label)(W wn r0 r1 r2 r3:Int)(hj:0<n)(hn:n<6):
  B52_w6_Make (inn E 17) (evC E fn (dp+2)) (loopK 52 B52_w6_Make (inn E 17) (evC E fn (dp+2)) kx kr (f+1)) kx kr (mk .bot 171 [(2,.ref 0 0 0),(3,.fn (.func 47) [.ref 1 0 0]),(4,.ref 2 0 0),(8,aint n),(10,aint 0)]) [.cells [zi,zi,zi,zi,zi,zi,zi,zn,zn,zn] 0 false,.cells [.d (rowD l)] 0 false,.cells [aint W,aint wn,aint 6,aint r0,aint r1,aint r2,aint r3,.sref 3 0 0 ms.length 3 none,.sref 4 0 0 ls.length 2 none,zn] 0 false,.cells ((rowC ms).map .d) 0 false,.cells ((rowC ls).map .d) 0 false]=
  B52_w6_Make (inn E 17) (evC E fn (dp+2)) (loopK 52 B52_w6_Make (inn E 17) (evC E fn (dp+2)) kx kr f) kx kr (mk .bot 171 [(2,.ref 0 0 0),(3,.fn (.func 47) [.ref 1 0 0]),(4,.ref 2 0 0),(8,aint n),(10,aint 1)]) [.cells [zi,zi,zi,zi,zi,zi,zi,zn,zn,zn] 0 false,.cells [.d (rowD l)] 0 false,.cells [aint W,aint wn,aint 6,aint r0,aint r1,aint r2,aint r3,.sref 3 0 0 ms.length 3 none,.sref 4 0 0 ls.length 2 none,.sref 5 0 0 1 9 none] 0 false,.cells ((rowC ms).map .d) 0 false,.cells ((rowC ls).map .d) 0 false,.cells ((rowC [Md.insN (Md.kM l 2) n]).map .d) 0 false]:=by
 have w1:∀ z:Int,0<=z->z<100->IntKind.i64.wrap z=z:=fun z h1 h2=>wrap_i64 (by omega) (by omega)
 have hn1:n<1000:=by omega
 have hjn:(0:Int)<n:=by omega
 generalize hK:loopK 52 B52_w6_Make _ _ kx kr (f+1)=KK
 first | (conv=>lhs;rw[B52_w6_Make]) | rw[B52_w6_Make]
 simp only[eG,go_sem,thq S,nbr S,zN0,zN1,zN2,zN3,zN4,zI0,zI1,zI2,zI3,reduceCtorEq,of_17_Mk4 S,deep_ref,dRef_some,o_callVf,w1,rep1',c_r4_Digits S,c_w6_Make_1 S,c_w6_ins S,Int.reduceMul,Int.reduceAdd,Int.toNat_zero,Int.reduceToNat,zI1,zI2,t_lab,nc_lst1,d_endD,d_neM,l24,l80,l1,Nat.le_refl,and_true,true_and,and_self,hjn,hn1]
 rw[<-hK,loop_in (on S _ _ [2,3,4,8,10] (by decide) rfl) rfl _ _ _ _ _ _ _ _ _ rfl]
 simp only[eG,go_sem,thq S,nbr S,zN0,zN1,zN2,zN3,zN4,zI0,zI1,zI2,zI3,reduceCtorEq,of_17_Mk4 S]
 try rfl
theorem nxt52_1 (dp:Nat)(l:List Int)(kx:Nat->K)(kr:K)(f n:Nat)(ms:List MemT)(ls:List Label)(W wn r0 r1 r2 r3:Int)(j:Nat)(is:List Ins)(hj:j<n)(hn:n<6)(hz:is.length<100):
  B52_w6_Make (inn E 17) (evC E fn (dp+2)) (loopK 52 B52_w6_Make (inn E 17) (evC E fn (dp+2)) kx kr (f+1)) kx kr (mk .bot 171 [(2,.ref 0 0 0),(3,.fn (.func 47) [.ref 1 0 0]),(4,.ref 2 0 0),(8,aint n),(10,aint j)]) [.cells [zi,zi,zi,zi,zi,zi,zi,zn,zn,zn] 0 false,.cells [.d (rowD l)] 0 false,.cells [aint W,aint wn,aint 6,aint r0,aint r1,aint r2,aint r3,.sref 3 0 0 ms.length 3 none,.sref 4 0 0 ls.length 2 none,.sref 5 0 0 is.length 9 none] 0 false,.cells ((rowC ms).map .d) 0 false,.cells ((rowC ls).map .d) 0 false,.cells ((rowC is).map .d) 0 false]=
  B52_w6_Make (inn E 17) (evC E fn (dp+2)) (loopK 52 B52_w6_Make (inn E 17) (evC E fn (dp+2)) kx kr f) kx kr (mk .bot 171 [(2,.ref 0 0 0),(3,.fn (.func 47) [.ref 1 0 0]),(4,.ref 2 0 0),(8,aint n),(10,aint (j+1))]) [.cells [zi,zi,zi,zi,zi,zi,zi,zn,zn,zn] 0 false,.cells [.d (rowD l)] 0 false,.cells [aint W,aint wn,aint 6,aint r0,aint r1,aint r2,aint r3,.sref 3 0 0 ms.length 3 none,.sref 4 0 0 ls.length 2 none,.sref 5 0 0 (is.length+1) 9 none] 0 false,.cells ((rowC ms).map .d) 0 false,.cells ((rowC ls).map .d) 0 false,.cells ((rowC (is++[Md.insN (Md.kM l (j+2)) n])).map .d) 0 false]:=by
 have w1:∀ z:Int,0<=z->z<100->IntKind.i64.wrap z=z:=fun z h1 h2=>wrap_i64 (by omega) (by omega)
 have hn1:n<1000:=by omega
 have h6:(j:Int)<6:=by omega
 have h0:(0:Int)<=j:=by omega
 have h02:(0:Int)<=j+2:=by omega
 have wj1:IntKind.i64.wrap ((j:Int)+1)=(j:Int)+1:=w1 _ (by omega) (by omega)
 have wj2:IntKind.i64.wrap ((j:Int)+2)=(j:Int)+2:=w1 _ (by omega) (by omega)
 have hjn:(j:Int)<n:=by omega
 have k1:(is.length+1)*80<=limA:=by unfold limA;omega
 have k2:is.length+1<=limA:=by unfold limA;omega
 generalize hK:loopK 52 B52_w6_Make _ _ kx kr (f+1)=KK
 first | (conv=>lhs;rw[B52_w6_Make]) | rw[B52_w6_Make]
 simp only[eG,go_sem,thq S,nbr S,zN0,zN1,zN2,zN3,zN4,zI0,zI1,zI2,zI3,reduceCtorEq,of_17_Mk4 S,deep_ref,dRef_some,o_callVf,w1,rep1',c_r4_Digits S,c_w6_Make_1 S,c_w6_ins S,Int.reduceMul,Int.reduceAdd,Int.toNat_zero,Int.reduceToNat,zI1,zI2,t_lab,nc_lst1,d_endD,d_neM,l24,l80,l1,Nat.le_refl,and_true,true_and,and_self,h6,h0,h02,wj1,wj2,hjn,k1,k2,hn1,Int.toNat_natCast,app_endL,app_endX]
 rw[<-hK,loop_in (on S _ _ [2,3,4,8,10] (by decide) rfl) rfl _ _ _ _ _ _ _ _ _ rfl]
 simp only[eG,go_sem,thq S,nbr S,zN0,zN1,zN2,zN3,zN4,zI0,zI1,zI2,zI3,reduceCtorEq,of_17_Mk4 S]
 try rfl
end
end Go.Aug.Mc
