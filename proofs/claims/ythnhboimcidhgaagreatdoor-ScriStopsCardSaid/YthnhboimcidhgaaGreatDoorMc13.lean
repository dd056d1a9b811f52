import Derived.Test.YthnhboimcidhgaaGreatDoorMc10
import Derived.Test.YthnhboimcidhgaaGreatDoorMc6
namespace Go.Aug.Mc
open Go Go.Aug
open Nat renaming reduceLT -> zN0, reduceEqDiff -> zN1, reduceAdd -> zN2, reduceMul -> zN3, reduceLeDiff -> zN4
open Int renaming reduceEq -> zI0, reduceLT -> zI1, reduceLE -> zI2, reduceNeg -> zI3
set_option linter.unusedSimpArgs false
set_option linter.unusedVariables false
set_option maxHeartbeats 40000000
variable {E:Env} {fn:FuncId->Option (Env->cT->cT)}
section
variable (S:Sur E fn)
include S
theorem o207_11:E.lives 207 1=none/\E.lives 207 19=none/\E.lives 207 25=none:=⟨off S 207 1 (by decide) rfl,off S 207 19 (by decide) rfl,off S 207 25 (by decide) rfl⟩
theorem o155_11:E.lives 155 1=none/\E.lives 155 15=none:=⟨off S 155 1 (by decide) rfl,off S 155 15 (by decide) rfl⟩
theorem loop_pLoad (dp:Nat)(p:Prog)(mem:List Int)(l:List Ent)(addr:Int)(hl:l.length<1073741824)(kx:Nat->K)
  (hx:∀ T,getS .bot T 1=.d (rD mem)->getS .bot T 4=aI addr->∀ A,ansOf (kx 0 (mk .bot 65 T) (.cells ((progC p).map .d) 0 false::A))=some (.tup [vi (Md.loadGo p mem addr []).1,vi (Md.loadGo p mem addr []).2.1,vb (Md.loadGo p mem addr []).2.2])):
  ∀(k fuel:Nat),k<=l.length->k<fuel->ansOf (B8_memo_Load (inn E 207) (evC E fn (dp+1)) (loopK 8 B8_memo_Load (inn E 207) (evC E fn (dp+1)) kx (kEnd 0 [.tmp 10,.tmp 11,.tmp 12]) fuel) kx (kEnd 0 [.tmp 10,.tmp 11,.tmp 12])
   (mk .bot 65 [(1,.d (rD mem)),(4,aI addr),(5,.ref 0 0 0),(13,.d (rD l)),(14,aI ((k:Int)-1))]) [.cells ((progC p).map .d) 0 false])=
   some (.tup [vi (Md.loadGo p mem addr (l.take k).reverse).1,vi (Md.loadGo p mem addr (l.take k).reverse).2.1,vb (Md.loadGo p mem addr (l.take k).reverse).2.2]):=by
 intro k
 induction k with
 | zero=>
  intro fuel _ hf
  generalize loopK 8 B8_memo_Load _ _ kx _ fuel=KK
  rw[B8_memo_Load]
  simp only[eG,go_sem,thq S,nbr S,zN0,zN1,zN2,zN3,zN4,zI0,zI1,zI2,zI3,reduceCtorEq,o207_11 S,show ¬(((0:Nat):Int)-1>=0) by omega,List.take_zero,List.reverse_nil]
  exact hx _ rfl rfl []
 | succ k ih=>
  intro fuel hk hf
  obtain⟨e,he⟩:=get_of (show k<l.length by omega)
  obtain⟨fuel,rfl⟩:∃ m,fuel=m+1:=⟨fuel-1,by omega⟩
  rw[show(((k+1:Nat):Int)-1)=(k:Int) by omega,take_rev he]
  generalize hK:loopK 8 B8_memo_Load _ _ kx _ (fuel+1)=KK
  rw[B8_memo_Load]
  have hlen:(l.take k).reverse.length=k:=by simp;omega
  by_cases h1:(Md.at_ p e.pc).kind=3
  ·cases h2 : e.known with
   | true=>
    by_cases h3:e.addr=addr
    ·cases h4:e.done<;>simp only[eG,go_sem,thq S,nbr S,zN0,zN1,zN2,zN3,zN4,zI0,zI1,zI2,zI3,reduceCtorEq,o207_11 S,w_ix he,c_seqm_At S,Int.natCast_nonneg,ge_iff_le,wd k (by omega),Bool.not_true,Bool.not_false,h1,h2,eq_true h3,h4,Md.loadGo,Md.hitS,hlen]
    ·simp only [eG, go_sem, thq S, nbr S, zN0, zN1, zN2, zN3, zN4, zI0, zI1, zI2, zI3, reduceCtorEq, o207_11 S, w_ix he, c_seqm_At S, Int.natCast_nonneg, ge_iff_le, wd k (by omega), Bool.not_true, Bool.not_false, h1, h2, eq_false h3, Md.loadGo, Md.hitS]
     rw[<-hK,loop_in (on S _ _ [1,4,5,13,14] (by decide) rfl) rfl _ _ _ _ _ _ _ _ _ rfl]
     simp only[eG,go_sem,thq S,nbr S,zN0,zN1,zN2,zN3,zN4,zI0,zI1,zI2,zI3,reduceCtorEq,o207_11 S,w_ix he,c_seqm_At S,Int.natCast_nonneg,ge_iff_le,wd k (by omega),Bool.not_true,Bool.not_false]
     exact ih fuel (by omega) (by omega)
   | false=>
    simp only[eG,go_sem,thq S,nbr S,zN0,zN1,zN2,zN3,zN4,zI0,zI1,zI2,zI3,reduceCtorEq,o207_11 S,w_ix he,c_seqm_At S,Int.natCast_nonneg,ge_iff_le,wd k (by omega),Bool.not_true,Bool.not_false,h1,h2,Md.loadGo,Md.hitS]
    rw[<-hK,loop_in (on S _ _ [1,4,5,13,14] (by decide) rfl) rfl _ _ _ _ _ _ _ _ _ rfl]
    simp only[eG,go_sem,thq S,nbr S,zN0,zN1,zN2,zN3,zN4,zI0,zI1,zI2,zI3,reduceCtorEq,o207_11 S,w_ix he,c_seqm_At S,Int.natCast_nonneg,ge_iff_le,wd k (by omega),Bool.not_true,Bool.not_false]
    exact ih fuel (by omega) (by omega)
  ·simp only [eG, go_sem, thq S, nbr S, zN0, zN1, zN2, zN3, zN4, zI0, zI1, zI2, zI3, reduceCtorEq, o207_11 S, w_ix he, c_seqm_At S, Int.natCast_nonneg, ge_iff_le, wd k (by omega), Bool.not_true, Bool.not_false, eq_false h1, Md.loadGo, Md.hitS]
   rw[<-hK,loop_in (on S _ _ [1,4,5,13,14] (by decide) rfl) rfl _ _ _ _ _ _ _ _ _ rfl]
   simp only[eG,go_sem,thq S,nbr S,zN0,zN1,zN2,zN3,zN4,zI0,zI1,zI2,zI3,reduceCtorEq,o207_11 S,w_ix he,c_seqm_At S,Int.natCast_nonneg,ge_iff_le,wd k (by omega),Bool.not_true,Bool.not_false]
   exact ih fuel (by omega) (by omega)
theorem raw_memo_Load (dp:Nat)(p:Prog)(mem:List Int)(l:List Ent)(i addr:Int)(hl:l.length<1073741824):Says E fn (dp+3) 207 [progD p,rD mem,rD l,vi i,vi addr] (.tup [vi (Md.load p mem l i addr).1,vi (Md.load p mem l i addr).2.1,vb (Md.load p mem l i addr).2.2]):=by
 unfold Says
 show ansOf (evC E fn (dp+2+1) 207 [.d (progD p),.d (rD mem),.d (rD l),.d (vi i),.d (vi addr)] [])=_
 rw[evC_succ,S.f_memo_Load,apF_some,F_memo_Load,mkF_run _ _ _ _ _ _ _ _ rfl]
 have hcl:=cut_len l i
 have e:(Md.cut l i).take (Md.cut l i).length=Md.cut l i:=List.take_of_length_le (by omega)
 have e2:Md.load p mem l i addr=Md.loadGo p mem addr ((Md.cut l i).take (Md.cut l i).length).reverse:=by rw[e];rfl
 rw[e2]
 simp only[eG,go_sem,thq S,nbr S,zN0,zN1,zN2,zN3,zN4,zI0,zI1,zI2,zI3,reduceCtorEq,o207_11 S,c_robq_Cut S,hl,wd _ (show(Md.cut l i).length<4611686018427387904 by omega)]
 rw[big_eq,loop_in (on S _ _ [1,4,5,13,14] (by decide) rfl) rfl _ _ _ _ _ _ _ _ _ rfl]
 simp only[eG,go_sem,thq S,nbr S,zN0,zN1,zN2,zN3,zN4,zI0,zI1,zI2,zI3,reduceCtorEq,o207_11 S]
 refine loop_pLoad S (dp+1) p mem (Md.cut l i) addr (by omega) _ ?_ _ _ (Nat.le_refl _) (by omega)
 intro T h1 h4 A
 by_cases h:addr<0
 ·simp only[eG,go_sem,thq S,nbr S,zN0,zN1,zN2,zN3,zN4,zI0,zI1,zI2,zI3,reduceCtorEq,o207_11 S,h1,h4,h,Md.loadGo]
 ·by_cases h2 : (mem.length : Int) <= addr
  ·simp only[eG,go_sem,thq S,nbr S,zN0,zN1,zN2,zN3,zN4,zI0,zI1,zI2,zI3,reduceCtorEq,o207_11 S,h1,h4,h,ge_iff_le,h2,Md.loadGo]
  ·obtain ⟨e, he⟩ := get_of (show addr.toNat < mem.length by omega)
   simp only[eG,go_sem,thq S,nbr S,zN0,zN1,zN2,zN3,zN4,zI0,zI1,zI2,zI3,reduceCtorEq,o207_11 S,h1,h4,h,ge_iff_le,h2,Md.loadGo,w_ixI (show 0<=addr by omega) he,he,Option.getD_some]
theorem c_memo_Load (dp:Nat)(p_w p_wn p_fu p_r0 p_r1 p_r2 p_r3:Int)(p_ms:List MemT)(p_ls:List Label)(p_is:List Ins)(mem:List Int)(l:List Ent)(i addr:Int)(hl:l.length<1073741824)(A:List Blk)(nb:Nat)(us:List Nat):evOwnK false E (evC E fn (dp+3)) 207 A nb (some ([.agg [vi p_w,vi p_wn,vi p_fu,vi p_r0,vi p_r1,vi p_r2,vi p_r3,rD p_ms,rD p_ls,rD p_is],rD mem,rD l,vi i,vi addr],us))=some (.made (.d (.tup [vi (Md.load (⟨p_w,p_wn,p_fu,⟨p_r0,p_r1,p_r2,p_r3⟩,p_ms,p_ls,p_is⟩:Prog) mem l i addr).1,vi (Md.load (⟨p_w,p_wn,p_fu,⟨p_r0,p_r1,p_r2,p_r3⟩,p_ms,p_ls,p_is⟩:Prog) mem l i addr).2.1,vb (Md.load (⟨p_w,p_wn,p_fu,⟨p_r0,p_r1,p_r2,p_r3⟩,p_ms,p_ls,p_is⟩:Prog) mem l i addr).2.2])) []):=
 Says.flat (raw_memo_Load S dp (⟨p_w,p_wn,p_fu,⟨p_r0,p_r1,p_r2,p_r3⟩,p_ms,p_ls,p_is⟩:Prog) mem l i addr hl) (np S 207 (by decide)) (rfl) A nb us
theorem loop_pHaz (dp:Nat)(p:Prog)(l:List Ent)(i addr:Int)(hl:l.length<1073741824)(kx:Nat->K)
  (hx:∀ T A,ansOf (kx 0 (mk .bot 51 T) A)=some (.tup [vi 0,vb false])):
  ∀(m k fuel:Nat),(k+m=l.length∨(m=0/\l.length<=k))->k<=l.length+1->m<=fuel->ansOf (B6_memo_Hazard (inn E 155) (evC E fn (dp+1)) (loopK 6 B6_memo_Hazard (inn E 155) (evC E fn (dp+1)) kx (kEnd 0 [.tmp 8,.tmp 9]) fuel) kx (kEnd 0 [.tmp 8,.tmp 9])
   (mk .bot 51 [(1,.d (rD l)),(2,aI i),(3,aI addr),(4,.ref 0 0 0),(10,aI k)]) [.cells ((progC p).map .d) 0 false])=
   some (.tup [vi (Md.hazGo p i addr k (l.drop k)).1,vb (Md.hazGo p i addr k (l.drop k)).2]):=by
 intro m
 induction m with
 | zero=>
  intro k fuel hk hk2 _
  generalize loopK 6 B6_memo_Hazard _ _ kx _ fuel=KK
  rw[B6_memo_Hazard,List.drop_of_length_le (by omega)]
  simp only[eG,go_sem,thq S,nbr S,zN0,zN1,zN2,zN3,zN4,zI0,zI1,zI2,zI3,reduceCtorEq,o155_11 S,show ¬(k:Int)<l.length by omega,Md.hazGo]
  exact hx _ _
 | succ m ih=>
  intro k fuel hk hk2 hf
  obtain⟨e,he⟩:=get_of (show k<l.length by omega)
  obtain⟨fuel,rfl⟩:∃ m,fuel=m+1:=⟨fuel-1,by omega⟩
  generalize hK:loopK 6 B6_memo_Hazard _ _ kx _ (fuel+1)=KK
  rw[B6_memo_Hazard,drop_get he]
  have h2:(k:Int)<l.length:=by omega
  by_cases k2:(Md.at_ p e.pc).kind=2
  ·cases hk : e.known with
   | true=>
    by_cases ha:e.addr=addr
    ·by_cases hfr : e.frm < i
     ·simp only[eG,go_sem,thq S,nbr S,zN0,zN1,zN2,zN3,zN4,zI0,zI1,zI2,zI3,reduceCtorEq,o155_11 S,w_ix he,c_seqm_At S,wi k (by omega),h2,k2,hk,eq_true ha,hfr,Md.hazGo,Md.hitL]
     ·simp only [eG, go_sem, thq S, nbr S, zN0, zN1, zN2, zN3, zN4, zI0, zI1, zI2, zI3, reduceCtorEq, o155_11 S, w_ix he, c_seqm_At S, wi k (by omega), h2, k2, hk, eq_true ha, hfr, Md.hazGo, Md.hitL]
      rw[<-hK,loop_in (on S _ _ [1,2,3,4,10] (by decide) rfl) rfl _ _ _ _ _ _ _ _ _ rfl]
      simp only[eG,go_sem,thq S,nbr S,zN0,zN1,zN2,zN3,zN4,zI0,zI1,zI2,zI3,reduceCtorEq,o155_11 S,w_ix he,c_seqm_At S,wi k (by omega),h2]
      exact ih (k+1) fuel (by omega) (by omega) (by omega)
    ·simp only [eG, go_sem, thq S, nbr S, zN0, zN1, zN2, zN3, zN4, zI0, zI1, zI2, zI3, reduceCtorEq, o155_11 S, w_ix he, c_seqm_At S, wi k (by omega), h2, k2, hk, eq_false ha, Md.hazGo, Md.hitL]
     rw[<-hK,loop_in (on S _ _ [1,2,3,4,10] (by decide) rfl) rfl _ _ _ _ _ _ _ _ _ rfl]
     simp only[eG,go_sem,thq S,nbr S,zN0,zN1,zN2,zN3,zN4,zI0,zI1,zI2,zI3,reduceCtorEq,o155_11 S,w_ix he,c_seqm_At S,wi k (by omega),h2]
     exact ih (k+1) fuel (by omega) (by omega) (by omega)
   | false=>
    simp only[eG,go_sem,thq S,nbr S,zN0,zN1,zN2,zN3,zN4,zI0,zI1,zI2,zI3,reduceCtorEq,o155_11 S,w_ix he,c_seqm_At S,wi k (by omega),h2,k2,hk,Md.hazGo,Md.hitL]
    rw[<-hK,loop_in (on S _ _ [1,2,3,4,10] (by decide) rfl) rfl _ _ _ _ _ _ _ _ _ rfl]
    simp only[eG,go_sem,thq S,nbr S,zN0,zN1,zN2,zN3,zN4,zI0,zI1,zI2,zI3,reduceCtorEq,o155_11 S,w_ix he,c_seqm_At S,wi k (by omega),h2]
    exact ih (k+1) fuel (by omega) (by omega) (by omega)
  ·simp only [eG, go_sem, thq S, nbr S, zN0, zN1, zN2, zN3, zN4, zI0, zI1, zI2, zI3, reduceCtorEq, o155_11 S, w_ix he, c_seqm_At S, wi k (by omega), h2, eq_false k2, Md.hazGo, Md.hitL]
   rw[<-hK,loop_in (on S _ _ [1,2,3,4,10] (by decide) rfl) rfl _ _ _ _ _ _ _ _ _ rfl]
   simp only[eG,go_sem,thq S,nbr S,zN0,zN1,zN2,zN3,zN4,zI0,zI1,zI2,zI3,reduceCtorEq,o155_11 S,w_ix he,c_seqm_At S,wi k (by omega),h2]
   exact ih (k+1) fuel (by omega) (by omega) (by omega)
theorem raw_memo_Hazard (dp:Nat)(p:Prog)(l:List Ent)(i addr:Int)(hl:l.length<1073741824)(hi0:i<4611686018427387904)(hi1: -4611686018427387904<i):Says E fn (dp+2) 155 [progD p,rD l,vi i,vi addr] (.tup [vi (Md.hazard p l i addr).1,vb (Md.hazard p l i addr).2]):=by
 unfold Says
 show ansOf (evC E fn (dp+1+1) 155 [.d (progD p),.d (rD l),.d (vi i),.d (vi addr)] [])=_
 rw[evC_succ,S.f_memo_Hazard,apF_some,F_memo_Hazard,mkF_run _ _ _ _ _ _ _ _ rfl]
 have hh:Md.hazAt l i<=l.length+1:=by unfold Md.hazAt;omega
 have hr:max (IntKind.i64.wrap (min i (l.length:Int)+1)) 0=(Md.hazAt l i:Int):=by rw[wrap_i64 (by omega) (by omega)];unfold Md.hazAt;omega
 simp only[eG,go_sem,thq S,nbr S,zN0,zN1,zN2,zN3,zN4,zI0,zI1,zI2,zI3,reduceCtorEq,o155_11 S,hr]
 rw[big_eq,loop_in (on S _ _ [1,2,3,4,10] (by decide) rfl) rfl _ _ _ _ _ _ _ _ _ rfl]
 simp only[eG,go_sem,thq S,nbr S,zN0,zN1,zN2,zN3,zN4,zI0,zI1,zI2,zI3,reduceCtorEq,o155_11 S]
 refine loop_pHaz S dp p l i addr hl _ ?_ (l.length-Md.hazAt l i) (Md.hazAt l i) _ (by omega) hh (by omega)
 intro T A
 simp only[eG,go_sem,thq S,nbr S,zN0,zN1,zN2,zN3,zN4,zI0,zI1,zI2,zI3,reduceCtorEq,o155_11 S]
theorem c_memo_Hazard (dp:Nat)(p_w p_wn p_fu p_r0 p_r1 p_r2 p_r3:Int)(p_ms:List MemT)(p_ls:List Label)(p_is:List Ins)(l:List Ent)(i addr:Int)(hl:l.length<1073741824)(hi0:i<4611686018427387904)(hi1: -4611686018427387904<i)(A:List Blk)(nb:Nat)(us:List Nat):evOwnK false E (evC E fn (dp+2)) 155 A nb (some ([.agg [vi p_w,vi p_wn,vi p_fu,vi p_r0,vi p_r1,vi p_r2,vi p_r3,rD p_ms,rD p_ls,rD p_is],rD l,vi i,vi addr],us))=some (.made (.d (.tup [vi (Md.hazard (⟨p_w,p_wn,p_fu,⟨p_r0,p_r1,p_r2,p_r3⟩,p_ms,p_ls,p_is⟩:Prog) l i addr).1,vb (Md.hazard (⟨p_w,p_wn,p_fu,⟨p_r0,p_r1,p_r2,p_r3⟩,p_ms,p_ls,p_is⟩:Prog) l i addr).2])) []):=
 Says.flat (raw_memo_Hazard S dp (⟨p_w,p_wn,p_fu,⟨p_r0,p_r1,p_r2,p_r3⟩,p_ms,p_ls,p_is⟩:Prog) l i addr hl hi0 hi1) (np S 155 (by decide)) (rfl) A nb us
end
theorem own0A {α:Type} [Cl α] {l:List α}(h:l.length=0)(i:Nat):ownA i l=.d (.lst [] 0 (some 0)):=by rw[List.length_eq_zero_iff.1 h];rfl
theorem own0B {α:Type} [Cl α] {l:List α}(h:l.length=0):ownB l=[]:=by rw[List.length_eq_zero_iff.1 h];rfl
variable {E:Env} {fn:FuncId->Option (Env->cT->cT)}
section
variable (S:Sur E fn)
include S
theorem o242_12:E.lives 242 7=none/\E.lives 242 17=none/\E.lives 242 19=none:=⟨off S 242 7 (by decide) rfl,off S 242 17 (by decide) rfl,off S 242 19 (by decide) rfl⟩
theorem own_arch (dp:Nat)(r0 r1 r2 r3:Int)(mm sk:List Int)(pc:Int)(hm:mm.length<1073741824)(hs:sk.length<1073741824):
  evC E fn (dp+1) 84 [.d (.agg [vi r0,vi r1,vi r2,vi r3,rD mm,rD sk,vi pc])] []=some (.agg [aI r0,aI r1,aI r2,aI r3,ownA 0 mm,ownA (ownB mm).length sk,aI pc],ownB mm++ownB sk):=by
 rw[evC_succ,S.f_arch_Still,apF_some,F_arch_Still,mkF_run _ _ _ _ _ _ _ _ rfl]
 by_cases h1:mm.length=0<;>by_cases h2:sk.length=0
 ·simp only[eG,go_sem,thq S,nbr S,zN0,zN1,zN2,zN3,zN4,zI0,zI1,zI2,zI3,reduceCtorEq,o_cloneI S hm,o_cloneI S hs,own0A h1,own0B h1,own0A h2,own0B h2]
 ·simp only[eG,go_sem,thq S,nbr S,zN0,zN1,zN2,zN3,zN4,zI0,zI1,zI2,zI3,reduceCtorEq,o_cloneI S hm,o_cloneI S hs,own0A h1,own0B h1,ownA_ne h2,ownB_ne h2]
 ·simp only[eG,go_sem,thq S,nbr S,zN0,zN1,zN2,zN3,zN4,zI0,zI1,zI2,zI3,reduceCtorEq,o_cloneI S hm,o_cloneI S hs,ownA_ne h1,ownB_ne h1,own0A h2,own0B h2]
 ·simp only[eG,go_sem,thq S,nbr S,zN0,zN1,zN2,zN3,zN4,zI0,zI1,zI2,zI3,reduceCtorEq,o_cloneI S hm,o_cloneI S hs,ownA_ne h1,ownB_ne h1,ownA_ne h2,ownB_ne h2]
theorem o_arch_Still (dp:Nat)(r0 r1 r2 r3:Int)(mm sk:List Int)(pc:Int)(hm:mm.length<1073741824)(hs:sk.length<1073741824)(A:List Blk)(nb:Nat):
  evOwnK true E (evC E fn (dp+1)) 84 A nb (some ([.agg [vi r0,vi r1,vi r2,vi r3,rD mm,rD sk,vi pc]],[]))=some (.made (.agg [aI r0,aI r1,aI r2,aI r3,ownA nb mm,ownA (nb+(ownB mm).length) sk,aI pc]) (ownB mm++ownB sk)):=by
 have h:=own_arch S dp r0 r1 r2 r3 mm sk pc hm hs
 have hr:evRaw E (evC E fn (dp+1)) 84 [.agg [vi r0,vi r1,vi r2,vi r3,rD mm,rD sk,vi pc]]=some (.agg [aI r0,aI r1,aI r2,aI r3,ownA 0 mm,ownA (ownB mm).length sk,aI pc],ownB mm++ownB sk):=by
  unfold evRaw
  rw[np S 84 (by decide)]
  exact h
 simp only[evOwnK,hr,evAnsB,cond_true]
 by_cases h1:mm.length=0<;>by_cases h2:sk.length=0
 ·have e1 : mm = [] := List.length_eq_zero_iff.1 h1
  have e2:sk=[]:=List.length_eq_zero_iff.1 h2
  subst e1 e2
  rfl
 ·have e1 : mm = [] := List.length_eq_zero_iff.1 h1
  subst e1
  simp[ownA_nil,ownB_nil,ownA_ne h2,ownB_ne h2,thaw,mapT,thawed,isEmptyL,memN,Cl.n]
 ·have e2 : sk = [] := List.length_eq_zero_iff.1 h2
  subst e2
  simp[ownA_nil,ownB_nil,ownA_ne h1,ownB_ne h1,thaw,mapT,thawed,isEmptyL,memN,Cl.n]
 ·simp[ownA_ne h1,ownB_ne h1,ownA_ne h2,ownB_ne h2,thaw,mapT,thawed,isEmptyL,memN,Cl.n]
theorem own_conf (dp:Nat)(r0 r1 r2 r3:Int)(mm sk:List Int)(pc:Int)(bf:List Ent)(rb:List Int)(en:Int)(hm:mm.length<1073741824)(hs:sk.length<1073741824)(hb:bf.length<1073741824)(hr:rb.length<1073741824):
  evC E fn (dp+2) 45 [.d (.agg [vi r0,vi r1,vi r2,vi r3,rD mm,rD sk,vi pc,rD bf,rD rb,vi en])] []=some (.agg [aI r0,aI r1,aI r2,aI r3,ownA 0 mm,ownA (ownB mm).length sk,aI pc,.d (rD bf),.d (rD rb),aI en],ownB mm++ownB sk):=by
 rw[evC_succ,S.f_conf_Still,apF_some,F_conf_Still,mkF_run _ _ _ _ _ _ _ _ rfl]
 by_cases h1:mm.length=0<;>by_cases h2:sk.length=0
 ·simp only[eG,go_sem,thq S,nbr S,zN0,zN1,zN2,zN3,zN4,zI0,zI1,zI2,zI3,reduceCtorEq,o_arch_Still S,hm,hs,c_cloneE S hb,c_cloneI S hr,own0A h1,own0B h1,own0A h2,own0B h2]
 ·simp only[eG,go_sem,thq S,nbr S,zN0,zN1,zN2,zN3,zN4,zI0,zI1,zI2,zI3,reduceCtorEq,o_arch_Still S,hm,hs,c_cloneE S hb,c_cloneI S hr,own0A h1,own0B h1,ownA_ne h2,ownB_ne h2]
 ·simp only[eG,go_sem,thq S,nbr S,zN0,zN1,zN2,zN3,zN4,zI0,zI1,zI2,zI3,reduceCtorEq,o_arch_Still S,hm,hs,c_cloneE S hb,c_cloneI S hr,ownA_ne h1,ownB_ne h1,own0A h2,own0B h2]
 ·simp only[eG,go_sem,thq S,nbr S,zN0,zN1,zN2,zN3,zN4,zI0,zI1,zI2,zI3,reduceCtorEq,o_arch_Still S,hm,hs,c_cloneE S hb,c_cloneI S hr,ownA_ne h1,ownB_ne h1,ownA_ne h2,ownB_ne h2]
theorem raw_conf_Still (dp:Nat)(c:Conf)(hm:c.state.mem.length<1073741824)(hs:c.state.stack.length<1073741824)(hb:c.buf.length<1073741824)(hr:c.rsb.length<1073741824):Says E fn (dp+2) 45 [confD c] (confD c):=by
 unfold Says
 show ansOf (evC E fn (dp+1+1) 45 [.d (confD c)] [])=_
 have h:=own_conf S dp c.state.regs.r0 c.state.regs.r1 c.state.regs.r2 c.state.regs.r3 c.state.mem c.state.stack c.state.pc c.buf c.rsb c.end_ hm hs hb hr
 show ansOf (evC E fn (dp+2) 45 [.d (.agg [vi c.state.regs.r0,vi c.state.regs.r1,vi c.state.regs.r2,vi c.state.regs.r3,rD c.state.mem,rD c.state.stack,vi c.state.pc,rD c.buf,rD c.rsb,vi c.end_])] [])=_
 rw[h]
 by_cases h1:c.state.mem.length=0<;>by_cases h2:c.state.stack.length=0
 ·have e1 : c.state.mem = [] := List.length_eq_zero_iff.1 h1
  have e2:c.state.stack=[]:=List.length_eq_zero_iff.1 h2
  simp only[eG,go_sem,thq S,nbr S,zN0,zN1,zN2,zN3,zN4,zI0,zI1,zI2,zI3,reduceCtorEq,e1,e2,ownA_nil,ownB_nil]
 ·have e1 : c.state.mem = [] := List.length_eq_zero_iff.1 h1
  have n2:c.state.stack≠[]:=fun e=>h2 (by rw[e];rfl)
  have d2:deep [.cells ((rC c.state.stack).map .d) 0 false] 7 (.sref 0 0 0 c.state.stack.length 1 none)=some (.lst (rC c.state.stack) c.state.stack.length none,[0]):=deep_all rfl n2 5 _ 1 none rfl rfl
  simp only[eG,go_sem,thq S,nbr S,zN0,zN1,zN2,zN3,zN4,zI0,zI1,zI2,zI3,reduceCtorEq,e1,ownA_nil,ownB_nil,ownA_ne h2,ownB_ne h2,d2];rfl
 ·have e2 : c.state.stack = [] := List.length_eq_zero_iff.1 h2
  have n1:c.state.mem≠[]:=fun e=>h1 (by rw[e];rfl)
  have d1:deep [.cells ((rC c.state.mem).map .d) 0 false] 7 (.sref 0 0 0 c.state.mem.length 1 none)=some (.lst (rC c.state.mem) c.state.mem.length none,[0]):=deep_all rfl n1 5 _ 1 none rfl rfl
  simp only[eG,go_sem,thq S,nbr S,zN0,zN1,zN2,zN3,zN4,zI0,zI1,zI2,zI3,reduceCtorEq,e2,ownA_nil,ownB_nil,ownA_ne h1,ownB_ne h1,d1];rfl
 ·have n2 : c.state.stack ≠ [] := fun e => h2 (by rw [e]; rfl)
  have n1:c.state.mem≠[]:=fun e=>h1 (by rw[e];rfl)
  have d1:deep [.cells ((rC c.state.mem).map .d) 0 false,.cells ((rC c.state.stack).map .d) 0 false] 7 (.sref 0 0 0 c.state.mem.length 1 none)=some (.lst (rC c.state.mem) c.state.mem.length none,[0]):=deep_all rfl n1 5 _ 1 none rfl rfl
  have d2:deep [.cells ((rC c.state.mem).map .d) 0 false,.cells ((rC c.state.stack).map .d) 0 false] 7 (.sref 1 0 0 c.state.stack.length 1 none)=some (.lst (rC c.state.stack) c.state.stack.length none,[1]):=deep_all rfl n2 5 _ 1 none rfl rfl
  simp only[eG,go_sem,thq S,nbr S,zN0,zN1,zN2,zN3,zN4,zI0,zI1,zI2,zI3,reduceCtorEq,ownA_ne h1,ownB_ne h1,ownA_ne h2,ownB_ne h2,d1,d2];rfl
theorem c_conf_Still (dp:Nat)(c_r0 c_r1 c_r2 c_r3:Int)(c_mm c_st:List Int)(c_pc:Int)(c_bf:List Ent)(c_rb:List Int)(c_en:Int)(hm:(⟨⟨⟨c_r0,c_r1,c_r2,c_r3⟩,c_mm,c_st,c_pc⟩,c_bf,c_rb,c_en⟩:Conf).state.mem.length<1073741824)(hs:(⟨⟨⟨c_r0,c_r1,c_r2,c_r3⟩,c_mm,c_st,c_pc⟩,c_bf,c_rb,c_en⟩:Conf).state.stack.length<1073741824)(hb:(⟨⟨⟨c_r0,c_r1,c_r2,c_r3⟩,c_mm,c_st,c_pc⟩,c_bf,c_rb,c_en⟩:Conf).buf.length<1073741824)(hr:(⟨⟨⟨c_r0,c_r1,c_r2,c_r3⟩,c_mm,c_st,c_pc⟩,c_bf,c_rb,c_en⟩:Conf).rsb.length<1073741824)(A:List Blk)(nb:Nat):evOwnK false E (evC E fn (dp+2)) 45 A nb (some ([.agg [vi c_r0,vi c_r1,vi c_r2,vi c_r3,rD c_mm,rD c_st,vi c_pc,rD c_bf,rD c_rb,vi c_en]],[]))=some (.made (.d (confD (⟨⟨⟨c_r0,c_r1,c_r2,c_r3⟩,c_mm,c_st,c_pc⟩,c_bf,c_rb,c_en⟩:Conf))) []):=
 Says.deep (raw_conf_Still S dp (⟨⟨⟨c_r0,c_r1,c_r2,c_r3⟩,c_mm,c_st,c_pc⟩,c_bf,c_rb,c_en⟩:Conf) hm hs hb hr) (np S 45 (by decide)) A nb
theorem c_Backward (dp:Nat)(l:List Ent)(A:List Blk)(nb:Nat):evOwnK false E (evC E fn (dp+1)) 263 A nb (some ([rD l],[]))=some (.made (.d (.fn (.func 275) [.vptr [rD l]])) []):=by
 have h:Says E fn (dp+1) 263 [rD l] (.fn (.func 275) [.vptr [rD l]]):=by
  unfold Says
  show ansOf (evC E fn (dp+1) 263 [.d (rD l)] [])=_
  rw[evC_succ,S.f_slices_Backward_api_Ent_api_Ent,apF_some,F_slices_Backward_api_Ent_api_Ent,mkF_run _ _ _ _ _ _ _ _ rfl]
  simp only[eG,go_sem,thq S,nbr S,zN0,zN1,zN2,zN3,zN4,zI0,zI1,zI2,zI3,reduceCtorEq,deep_ref]
 exact h.deep (np S 263 (by decide)) A nb
theorem rounds_pReg (dp:Nat)(p:Prog)(of:Regs)(l:List Ent)(r:Int)(hl:l.length<1073741824)(kn:K)(kx:Nat->K)(D:Int)(d:AV)(T:List (Nat×AV))
  (h5:getS d T 5=.ref 0 0 0) (h9:getS d T 9=.ref 2 0 0) (h10:getS d T 10=.ref 3 0 0) (h11:getS d T 11=.ref 4 0 0)
  (hx:∀ A,ansOf (kn (mk d 50 T) (.cells ((progC p).map .d) 0 false:: .cells ((regsC of).map .d) 0 false:: .cells [aI r] 0 false:: .cells [zi] 0 false:: .cells [zb] 0 false::A))=some (.tup [vi D,vb true])):
  ∀(k:Nat),k<=l.length->∀ es,backElems (rC l) 8 true k=some es->∀ A,ansOf (roundsK RA_reso_Reg RB_reso_Reg [26,27] (inn E 242) (evC E fn (dp+1)) kn kx (kEnd 0 [.cell 10 false 1,.cell 11 false 1]) (mk d 50 T) es (.cells ((progC p).map .d) 0 false:: .cells ((regsC of).map .d) 0 false:: .cells [aI r] 0 false:: .cells [zi] 0 false:: .cells [zb] 0 false::A))=
   some (.tup [vi (Md.regGo p r D (l.take k).reverse).1,vb (Md.regGo p r D (l.take k).reverse).2]):=by
 intro k
 induction k with
 | zero=>
  intro _ es hes A
  have:es=[]:=by simpa [backElems] using hes.symm
  subst this
  exact hx A
 | succ k ih=>
  intro hk es hes A
  obtain⟨e,he⟩:=get_of (show k<l.length by omega)
  obtain⟨es0,h0⟩:=back_some (s:=8) rfl l k (by omega)
  have:=back_succ (s:=8) rfl he h0 hes
  subst this
  rw[take_rev he]
  have ih':=fun A'=>ih (by omega) es0 h0 A'
  rw[roundsK]
  generalize hK:(fun(x:List AV) (A2:List Blk)=>roundsK RA_reso_Reg RB_reso_Reg [26,27] (inn E 242) (evC E fn (dp+1)) kn kx (kEnd 0 [.cell 10 false 1,.cell 11 false 1]) (mk d 50 T) es0 A2)=KK
  rw[RA_reso_Reg,RB_reso_Reg]
  by_cases h1:Md.destK (Md.at_ p e.pc)=true
  ·by_cases h2 : (Md.at_ p e.pc).d = r
   ·cases h3:e.done<;>simp only[eG,go_sem,thq S,nbr S,zN0,zN1,zN2,zN3,zN4,zI0,zI1,zI2,zI3,reduceCtorEq,o242_12 S,h5,h9,h10,h11,c_seqm_At S,c_reso_Dest S,Md.regGo,Md.dest,h1,eq_true h2,h3]
   ·simp only [eG, go_sem, thq S, nbr S, zN0, zN1, zN2, zN3, zN4, zI0, zI1, zI2, zI3, reduceCtorEq, o242_12 S, h5, h9, h10, h11, c_seqm_At S, c_reso_Dest S, Md.regGo, Md.dest, h1, eq_false h2]
    rw[<-hK]
    exact ih' _
  ·have h1' : Md.destK (Md.at_ p e.pc) = false := by simpa using h1
   simp only[eG,go_sem,thq S,nbr S,zN0,zN1,zN2,zN3,zN4,zI0,zI1,zI2,zI3,reduceCtorEq,o242_12 S,h5,h9,h10,h11,c_seqm_At S,c_reso_Dest S,Md.regGo,Md.dest,h1']
   rw[<-hK]
   exact ih' _
end
def OwnO (Z:Option (AV×List Blk)):Option (List Int)->Prop
 | none=>Z=some (.tup [.d (.lst [] 0 (some 0)),abool false],[])
 | some out=>∃ junk k,Z=some (.tup [.sref 0 0 0 out.length 1 k,abool true],[.cells ((rC (out++junk)).map .d) 0 false])
theorem own_none (Z:Option (AV×List Blk)):OwnO Z none=(Z=some (.tup [.d (.lst [] 0 (some 0)),abool false],[])):=id rfl
theorem own_some {Z:Option (AV×List Blk)}{out:List Int}(junk:List Int)(k:Option Nat)(h:Z=some (.tup [.sref 0 0 0 out.length 1 k,abool true],[.cells ((rC (out++junk)).map .d) 0 false])):OwnO Z (some out):=⟨junk,k,h⟩
theorem end_own {i:Nat}{out junk:List Int}{k:Option Nat}{A:List Blk}{b:Bool}(hA:A[i]? =some (.cells ((rC (out++junk)).map .d) 0 false)):
  endN 0 (some (.tup [.sref i 0 0 out.length 1 k,abool b],A))=some (.tup [.sref 0 0 0 out.length 1 k,abool b],[.cells ((rC (out++junk)).map .d) 0 false]):=by
 have hi:¬A.length<=i:=by
  intro h;rw[List.getElem?_eq_none h] at hA;cases hA
 simp only[eG,go_sem,f_reach,hA,hi,List.not_mem_nil,false_or,or_false,Nat.not_lt_zero,if_false]
variable {E:Env} {fn:FuncId->Option (Env->cT->cT)}
section
variable (S:Sur E fn)
include S
theorem o133_31:E.lives 133 1=none/\E.lives 133 17=none/\E.lives 133 19=none/\E.lives 133 25=none/\E.lives 133 27=none:=⟨off S 133 1 (by decide) rfl,off S 133 17 (by decide) rfl,off S 133 19 (by decide) rfl,off S 133 25 (by decide) rfl,off S 133 27 (by decide) rfl⟩
theorem loop_rOwn (dp:Nat)(p:Prog)(l:List Ent)(i:Int)(hl:l.length<1073741824)(kx:Nat->K)
  (hx:∀ T out junk k,getS .bot T 10=.sref 1 0 0 (out:List Int).length 1 k->OwnO (kx 0 (mk .bot 59 T) [.cells ((progC p).map .d) 0 false,.cells ((rC (out++junk)).map .d) 0 false]) (some out)):
  ∀(m k fuel:Nat) (out junk:List Int) (q:Option Nat),k+m=(Md.cut l i).length->m<=fuel->out.length<1073741824->(q=none∨q=some 0/\out=[]/\junk=[])->OwnO (B8_r9_Real (inn E 133) (evC E fn (dp+1)) (loopK 8 B8_r9_Real (inn E 133) (evC E fn (dp+1)) kx (kEnd 0 [.tmp 8,.tmp 9]) fuel) kx (kEnd 0 [.tmp 8,.tmp 9])
   (mk .bot 59 [(2,.d (rD l)),(3,aI i),(4,.ref 0 0 0),(10,.sref 1 0 0 out.length 1 q),(11,aI k)]) [.cells ((progC p).map .d) 0 false,.cells ((rC (out++junk)).map .d) 0 false])
   (Md.realGo p ((Md.cut l i).drop k) out):=by
 intro m
 have hcl:(Md.cut l i).length=min i.toNat l.length:=by simp[Md.cut]
 induction m with
 | zero=>
  intro k fuel out junk q hk _ ho hq
  generalize loopK 8 B8_r9_Real _ _ kx _ fuel=KK
  rw[B8_r9_Real,List.drop_of_length_le (by omega)]
  by_cases h1:(k:Int)<i
  ·simp only [eG, go_sem, thq S, nbr S, zN0, zN1, zN2, zN3, zN4, zI0, zI1, zI2, zI3, reduceCtorEq, o133_31 S, h1, show ¬ (k : Int) < l.length by omega, Md.realGo]
   exact hx _ _ _ q rfl
  ·simp only [eG, go_sem, thq S, nbr S, zN0, zN1, zN2, zN3, zN4, zI0, zI1, zI2, zI3, reduceCtorEq, o133_31 S, h1, Md.realGo]
   exact hx _ _ _ q rfl
 | succ m ih=>
  intro k fuel out junk q hk hf ho hq
  obtain⟨e,he⟩:=get_of (show k<l.length by omega)
  have hc:(Md.cut l i)[k]? =some e:=by unfold Md.cut;rw[List.getElem?_take,if_pos (by omega),he]
  obtain⟨fuel,rfl⟩:∃ m,fuel=m+1:=⟨fuel-1,by omega⟩
  generalize hK:loopK 8 B8_r9_Real _ _ kx _ (fuel+1)=KK
  rw[B8_r9_Real,drop_get hc,Md.realGo]
  have h1:(k:Int)<i:=by omega
  have h2:(k:Int)<l.length:=by omega
  by_cases k8:(Md.at_ p e.pc).kind=8
  ·by_cases h4 : 4 <= out.length
   ·simp only[eG,go_sem,thq S,nbr S,zN0,zN1,zN2,zN3,zN4,zI0,zI1,zI2,zI3,reduceCtorEq,o133_31 S,w_ix he,cA7 S,wi k (by omega),h1,h2,ge_iff_le,k8,h4,show(4:Int)<=out.length by omega,own_none]
   ·have l1 : (out.length + 1) * 8 <= limA := by unfold limA; omega
    have l2:out.length+1<=limA:=by unfold limA;omega
    rcases hq with rfl | ⟨rfl,rfl,rfl⟩
    ·cases junk with
     | nil=>
      simp only[List.append_nil]
      simp only[eG,go_sem,thq S,nbr S,zN0,zN1,zN2,zN3,zN4,zI0,zI1,zI2,zI3,reduceCtorEq,o133_31 S,w_ix he,cA7 S,wi k (by omega),h1,h2,ge_iff_le,k8,h4,show ¬(4:Int)<=out.length by omega,rep1',app_endI,l1,l2]
      rw[<-hK,loop_in (on S _ _ [2,3,4,10,11] (by decide) rfl) rfl _ _ _ _ _ _ _ _ _ rfl]
      simp only[eG,go_sem,thq S,nbr S,zN0,zN1,zN2,zN3,zN4,zI0,zI1,zI2,zI3,reduceCtorEq,o133_31 S,w_ix he,cA7 S,wi k (by omega),h1,h2,ge_iff_le]
      have e1:out.length+1=(out++[Md.w64 (e.pc+1)]).length:=by simp
      have:=ih (k+1) fuel (out++[Md.w64 (e.pc+1)]) [] none (by omega) (by omega) (by simp;omega) (.inl rfl)
      rw[<-e1,List.append_nil] at this
      exact this
     | cons y junk=>
      simp only[eG,go_sem,thq S,nbr S,zN0,zN1,zN2,zN3,zN4,zI0,zI1,zI2,zI3,reduceCtorEq,o133_31 S,w_ix he,cA7 S,wi k (by omega),h1,h2,ge_iff_le,k8,h4,show ¬(4:Int)<=out.length by omega,rep1',app_inI (y:=y) (junk:=junk),l1,l2]
      rw[<-hK,loop_in (on S _ _ [2,3,4,10,11] (by decide) rfl) rfl _ _ _ _ _ _ _ _ _ rfl]
      simp only[eG,go_sem,thq S,nbr S,zN0,zN1,zN2,zN3,zN4,zI0,zI1,zI2,zI3,reduceCtorEq,o133_31 S,w_ix he,cA7 S,wi k (by omega),h1,h2,ge_iff_le]
      have e1:out.length+1=(out++[Md.w64 (e.pc+1)]).length:=by simp
      have:=ih (k+1) fuel (out++[Md.w64 (e.pc+1)]) junk none (by omega) (by omega) (by simp;omega) (.inl rfl)
      rw[<-e1,List.append_assoc] at this
      exact this
    ·simp only [eG, go_sem, thq S, nbr S, zN0, zN1, zN2, zN3, zN4, zI0, zI1, zI2, zI3, reduceCtorEq, o133_31 S, w_ix he, cA7 S, wi k (by omega), h1, h2, ge_iff_le, k8, List.length_nil, show ¬ (4 : Int) <= (0 : Nat) by omega, rep1', app_zero (cs := []), Nat.succ_ne_zero, show (1 : Nat) * 8 <= limA by decide, show (1 : Nat) <= limA by decide, ne_eq, not_false_eq_true]
     rw[<-hK,loop_in (on S _ _ [2,3,4,10,11] (by decide) rfl) rfl _ _ _ _ _ _ _ _ _ rfl]
     simp only[eG,go_sem,thq S,nbr S,zN0,zN1,zN2,zN3,zN4,zI0,zI1,zI2,zI3,reduceCtorEq,o133_31 S,w_ix he,cA7 S,wi k (by omega),h1,h2,ge_iff_le]
     exact ih (k+1) fuel [Md.w64 (e.pc+1)] [] none (by omega) (by omega) (by simp) (.inl rfl)
  ·by_cases k9 : (Md.at_ p e.pc).kind = 9
   ·cases hr : out.reverse with
    | nil=>
     have:out=[]:=List.reverse_eq_nil_iff.1 hr
     subst this
     simp only[eG,go_sem,thq S,nbr S,zN0,zN1,zN2,zN3,zN4,zI0,zI1,zI2,zI3,reduceCtorEq,o133_31 S,w_ix he,cA7 S,wi k (by omega),h1,h2,ge_iff_le,k8,k9,List.length_nil,own_none,zI0,Int.natCast_eq_zero]
    | cons y r=>
     have e0:out=r.reverse++[y]:=by rw[<-List.reverse_reverse out,hr,List.reverse_cons]
     subst e0
     have e1:(r.reverse++[y]).dropLast=r.reverse:=List.dropLast_concat
     have e2:(r.reverse++[y]).length=r.reverse.length+1:=by simp
     rcases hq with rfl | ⟨_,h,_⟩
     ·have w1 : IntKind.i64.wrap (((r.reverse.length + 1 : Nat) : Int) - 1) = (r.reverse.length : Int) := by rw [e2] at ho; rw [wrap_i64 (by omega) (by omega)]; omega
      have bd:=bndsV_hi (r.reverse.length+1) .i64 (r.reverse.length:Int) (by omega) (by omega)
      rw[e2,e1]
      simp only[eG,go_sem,thq S,nbr S,zN0,zN1,zN2,zN3,zN4,zI0,zI1,zI2,zI3,reduceCtorEq,o133_31 S,w_ix he,cA7 S,wi k (by omega),h1,h2,ge_iff_le,k8,k9,w1,bd,Int.toNat_natCast,Nat.succ_ne_zero,Int.natCast_eq_zero,ne_eq,not_true_eq_false,and_false,Nat.zero_mul,Nat.sub_zero,Nat.add_zero,Nat.zero_add]
      rw[<-hK,loop_in (on S _ _ [2,3,4,10,11] (by decide) rfl) rfl _ _ _ _ _ _ _ _ _ rfl]
      simp only[eG,go_sem,thq S,nbr S,zN0,zN1,zN2,zN3,zN4,zI0,zI1,zI2,zI3,reduceCtorEq,o133_31 S,w_ix he,cA7 S,wi k (by omega),h1,h2,ge_iff_le]
      have:=ih (k+1) fuel r.reverse ([y]++junk) none (by omega) (by omega) (by omega) (.inl rfl)
      rw[<-List.append_assoc] at this
      exact this
     ·simp at h
   ·simp only [eG, go_sem, thq S, nbr S, zN0, zN1, zN2, zN3, zN4, zI0, zI1, zI2, zI3, reduceCtorEq, o133_31 S, w_ix he, cA7 S, wi k (by omega), h1, h2, ge_iff_le, k8, k9]
    rw[<-hK,loop_in (on S _ _ [2,3,4,10,11] (by decide) rfl) rfl _ _ _ _ _ _ _ _ _ rfl]
    simp only[eG,go_sem,thq S,nbr S,zN0,zN1,zN2,zN3,zN4,zI0,zI1,zI2,zI3,reduceCtorEq,o133_31 S,w_ix he,cA7 S,wi k (by omega),h1,h2,ge_iff_le]
    exact ih (k+1) fuel out junk q (by omega) (by omega) ho hq
theorem own_Real (dp:Nat)(p:Prog)(sk:List Int)(l:List Ent)(i:Int)(hl:l.length<1073741824)(hs:sk.length<1073741824):
  OwnO (evC E fn (dp+2) 133 [.d (progD p),.d (rD sk),.d (rD l),aI i] []) (Md.real p sk l i):=by
 rw[evC_succ,S.f_r9_Real,apF_some,F_r9_Real,mkF_run _ _ _ _ _ _ _ _ rfl]
 by_cases h0:sk.length=0
 ·have : sk = [] := List.length_eq_zero_iff.1 h0
  subst this
  simp only[eG,go_sem,thq S,nbr S,zN0,zN1,zN2,zN3,zN4,zI0,zI1,zI2,zI3,reduceCtorEq,o133_31 S,rep0']
  rw[big_eq,loop_in (on S _ _ [2,3,4,10,11] (by decide) rfl) rfl _ _ _ _ _ _ _ _ _ rfl]
  simp only[eG,go_sem,thq S,nbr S,zN0,zN1,zN2,zN3,zN4,zI0,zI1,zI2,zI3,reduceCtorEq,o133_31 S]
  refine loop_rOwn S dp p l i hl _ ?_ (Md.cut l i).length 0 _ [] [] (some 0) (by omega) (by have:=cut_len l i;omega) (by simp) (.inr ⟨rfl,rfl,rfl⟩)
  intro T out junk k h
  refine own_some junk k ?_
  simp only[go_sem,thq S,nbr S,zN0,zN1,zN2,zN3,zN4,zI0,zI1,zI2,zI3,reduceCtorEq,o133_31 S,h]
  exact end_own rfl
 ·have l1 : sk.length * 8 <= limA := by unfold limA; omega
  have l2:sk.length<=limA:=by unfold limA;omega
  have l3:(((rC sk).map AV.d).all AV.one)=true:=one_row _
  simp only[eG,go_sem,thq S,nbr S,zN0,zN1,zN2,zN3,zN4,zI0,zI1,zI2,zI3,reduceCtorEq,o133_31 S,rep0',app_zero (cs:=[]),l1,l2,l3,ne_eq,h0,not_false_eq_true]
  rw[big_eq,loop_in (on S _ _ [2,3,4,10,11] (by decide) rfl) rfl _ _ _ _ _ _ _ _ _ rfl]
  simp only[eG,go_sem,thq S,nbr S,zN0,zN1,zN2,zN3,zN4,zI0,zI1,zI2,zI3,reduceCtorEq,o133_31 S]
  have:=loop_rOwn S dp p l i hl (blockK 0 (cQ (cOz [st 58 (oV (.t 10)),st 8 (oV (.t 58)),st 9 (oV (.c (.v (.bool true))))]) cZ (inn E 133) (evC E fn (dp+1)) (kEnd 0 [.tmp 8,.tmp 9]) (fun _ _ _=>none) (kEnd 0 [.tmp 8,.tmp 9])) (fun _ _ _=>none)) ?_ (Md.cut l i).length 0 999999999999999999999999999999 sk [] none (by omega) (by have:=cut_len l i;omega) hs (.inl rfl)
  ·rw [List.append_nil] at this
   exact this
  intro T out junk k h
  refine own_some junk k ?_
  simp only[go_sem,thq S,nbr S,zN0,zN1,zN2,zN3,zN4,zI0,zI1,zI2,zI3,reduceCtorEq,o133_31 S,h]
  exact end_own rfl
theorem o_Real_none (dp:Nat)(p:Prog)(sk:List Int)(l:List Ent)(i:Int)(hl:l.length<1073741824)(hs:sk.length<1073741824)(h:Md.real p sk l i=none)(A:List Blk)(nb:Nat)(us:List Nat):
  evOwnK true E (evC E fn (dp+2)) 133 A nb (some ([progD p,rD sk,rD l,vi i],us))=some (.made (.tup [.d (.lst [] 0 (some 0)),abool false]) []):=by
 have h1:=own_Real S dp p sk l i hl hs
 rw[h,own_none] at h1
 have hr:evRaw E (evC E fn (dp+2)) 133 [progD p,rD sk,rD l,vi i]=some (.tup [.d (.lst [] 0 (some 0)),abool false],[]):=by
  unfold evRaw
  rw[np S 133 (by decide)]
  exact h1
 simp only[evOwnK,hr,evAnsB,cond_true]
 show thawed A us (some (.tup [.d (.lst [] 0 (some 0)),abool false],[],[]))=_
 show(bif isEmptyL us || true then _ else _)=_
 rw[Bool.or_true];rfl
theorem o_Real_some (dp:Nat)(p:Prog)(sk:List Int)(l:List Ent)(i:Int)(hl:l.length<1073741824)(hs:sk.length<1073741824)(r:List Int)(h:Md.real p sk l i=some r):
  ∃ junk k,∀(A:List Blk) (nb:Nat) (us:List Nat),evOwnK true E (evC E fn (dp+2)) 133 A nb (some ([progD p,rD sk,rD l,vi i],us))=some (.made (.tup [.sref nb 0 0 r.length 1 k,abool true]) [.cells ((rC (r++junk)).map .d) 0 false]):=by
 have h1:=own_Real S dp p sk l i hl hs
 rw[h] at h1
 obtain⟨junk,k,h1⟩:=h1
 refine⟨junk,k,fun A nb us=> ?_⟩
 have hr:evRaw E (evC E fn (dp+2)) 133 [progD p,rD sk,rD l,vi i]=some (.tup [.sref 0 0 0 r.length 1 k,abool true],[.cells ((rC (r++junk)).map .d) 0 false]):=by
  unfold evRaw
  rw[np S 133 (by decide)]
  exact h1
 simp only[evOwnK,hr,evAnsB,cond_true]
 have ht:thaw [.cells ((rC (r++junk)).map .d) 0 false] nb 6 (.tup [.sref 0 0 0 r.length 1 k,abool true]) [] []=some (.tup [.sref nb 0 0 r.length 1 k,abool true],[.cells ((rC (r++junk)).map .d) 0 false],[0]):=by
  simp[thaw,mapT,memN]
 rw[ht]
 have hf:flatBs [.cells ((rC (r++junk)).map .d) 0 false]=true:=by
  show(((rC (r++junk)).map AV.d).all _&&true)=true
  rw[Bool.and_true,List.all_map]
  exact rowC_flat (r++junk)
 show(bif isEmptyL us || (true&&flatBs [.cells ((rC (r++junk)).map .d) 0 false]) then _ else _)=_
 rw[hf,Bool.and_true,Bool.or_true]
 rfl
end
def idxGo (p:Prog):Nat->List Ent->Int
 | _,[]=> -1
 | k,e::l=>bif Md.isFence p e then(k:Int) else idxGo p (k+1) l
theorem idxGo_any (p:Prog):∀(l:List Ent) (k:Nat),decide (idxGo p k l>=0)=l.any (Md.isFence p)
 | [],_=>rfl
 | e::l,k=>by
  rw[idxGo,List.any_cons]
  cases h:Md.isFence p e with
  | true=>simp
  | false=>
   rw[cond_false,Bool.false_or]
   exact idxGo_any p l (k+1)
variable {E:Env} {fn:FuncId->Option (Env->cT->cT)}
section
variable (S:Sur E fn)
include S
theorem o242_13:E.lives 242 7=none/\E.lives 242 17=none/\E.lives 242 19=none:=⟨off S 242 7 (by decide) rfl,off S 242 17 (by decide) rfl,off S 242 19 (by decide) rfl⟩
theorem o203_13:E.lives 203 7=none:=off S 203 7 (by decide) rfl
theorem o262_13:E.lives 262 1=none/\E.lives 262 13=none:=⟨off S 262 1 (by decide) rfl,off S 262 13 (by decide) rfl⟩
theorem raw_reso_Reg (dp:Nat)(p:Prog)(of:Regs)(l:List Ent)(i r:Int)(hl:l.length<1073741824):Says E fn (dp+3) 242 [progD p,.agg (regsC of),rD l,vi i,vi r] (.tup [vi (Md.reg p of l i r).1,vb (Md.reg p of l i r).2]):=by
 unfold Says
 show ansOf (evC E fn (dp+2+1) 242 [.d (progD p),.d (.agg (regsC of)),.d (rD l),.d (vi i),.d (vi r)] [])=_
 rw[evC_succ,S.f_reso_Reg,apF_some,F_reso_Reg,mkF_run _ _ _ _ _ _ _ _ rfl]
 have hcl:=cut_len l i
 by_cases h:r<0
 ·simp only[eG,go_sem,thq S,nbr S,zN0,zN1,zN2,zN3,zN4,zI0,zI1,zI2,zI3,reduceCtorEq,o242_13 S,h,Md.reg]
 by_cases h2:r>=4
 ·simp only[eG,go_sem,thq S,nbr S,zN0,zN1,zN2,zN3,zN4,zI0,zI1,zI2,zI3,reduceCtorEq,o242_13 S,h,h2,Md.reg,show 4<=r by omega]
 ·have e1 : (Md.cut l i).take (Md.cut l i).length = Md.cut l i := List.take_of_length_le (by omega)
  have e:Md.reg p of l i r=Md.regGo p r (Md.getR of r) ((Md.cut l i).take (Md.cut l i).length).reverse:=by
   unfold Md.reg;rw[if_neg (by omega),e1]
  rw[e]
  obtain⟨es,hes⟩:=back_some (s:=8) rfl (Md.cut l i) (Md.cut l i).length (Nat.le_refl _)
  have hr:=elems_row (E:=inn E 242) (ag:=true) S.bk rfl (Md.cut l i) (by unfold limA;omega) (by decide) (by simp) []
  rw[hes] at hr
  simp only[eG,go_sem,thq S,nbr S,zN0,zN1,zN2,zN3,zN4,zI0,zI1,zI2,zI3,reduceCtorEq,o242_13 S,h,h2,c_robq_Cut S,hl,c_Backward S,hr]
  refine rounds_pReg S (dp+1) p of (Md.cut l i) r (by omega) _ _ (Md.getR of r) aundef _ rfl rfl rfl rfl ?_ _ (Nat.le_refl _) es hes []
  intro A
  obtain rfl | rfl | rfl | rfl:r=0∨r=1∨r=2∨r=3:=by omega
  ·simp only[eG,go_sem,thq S,nbr S,zN0,zN1,zN2,zN3,zN4,zI0,zI1,zI2,zI3,reduceCtorEq,o242_13 S,Int.toNat_zero,Int.reduceToNat,Nat.zero_mul,Md.getR];rfl
  ·simp only[eG,go_sem,thq S,nbr S,zN0,zN1,zN2,zN3,zN4,zI0,zI1,zI2,zI3,reduceCtorEq,o242_13 S,Int.reduceToNat,Nat.one_mul,Md.getR];rfl
  ·simp only[eG,go_sem,thq S,nbr S,zN0,zN1,zN2,zN3,zN4,zI0,zI1,zI2,zI3,reduceCtorEq,o242_13 S,Int.reduceToNat,Md.getR];rfl
  ·simp only[eG,go_sem,thq S,nbr S,zN0,zN1,zN2,zN3,zN4,zI0,zI1,zI2,zI3,reduceCtorEq,o242_13 S,Int.reduceToNat,Md.getR];rfl
theorem c_reso_Reg (dp:Nat)(p_w p_wn p_fu p_r0 p_r1 p_r2 p_r3:Int)(p_ms:List MemT)(p_ls:List Label)(p_is:List Ins)(of_r0 of_r1 of_r2 of_r3:Int)(l:List Ent)(i r:Int)(hl:l.length<1073741824)(A:List Blk)(nb:Nat)(us:List Nat):evOwnK false E (evC E fn (dp+3)) 242 A nb (some ([.agg [vi p_w,vi p_wn,vi p_fu,vi p_r0,vi p_r1,vi p_r2,vi p_r3,rD p_ms,rD p_ls,rD p_is],.agg [vi of_r0,vi of_r1,vi of_r2,vi of_r3],rD l,vi i,vi r],us))=some (.made (.d (.tup [vi (Md.reg (⟨p_w,p_wn,p_fu,⟨p_r0,p_r1,p_r2,p_r3⟩,p_ms,p_ls,p_is⟩:Prog) (⟨of_r0,of_r1,of_r2,of_r3⟩:Regs) l i r).1,vb (Md.reg (⟨p_w,p_wn,p_fu,⟨p_r0,p_r1,p_r2,p_r3⟩,p_ms,p_ls,p_is⟩:Prog) (⟨of_r0,of_r1,of_r2,of_r3⟩:Regs) l i r).2])) []):=
 Says.flat (raw_reso_Reg S dp (⟨p_w,p_wn,p_fu,⟨p_r0,p_r1,p_r2,p_r3⟩,p_ms,p_ls,p_is⟩:Prog) (⟨of_r0,of_r1,of_r2,of_r3⟩:Regs) l i r hl) (np S 242 (by decide)) (rfl) A nb us
theorem raw_reso_Val (dp:Nat)(p:Prog)(of:Regs)(l:List Ent)(i:Int)(v:Val)(hl:l.length<1073741824):Says E fn (dp+4) 203 [progD p,.agg (regsC of),rD l,vi i,.agg (Cl.cells v)] (.tup [vi (Md.val p of l i v).1,vb (Md.val p of l i v).2]):=by
 unfold Says
 show ansOf (evC E fn (dp+3+1) 203 [.d (progD p),.d (.agg (regsC of)),.d (rD l),.d (vi i),.d (.agg (Cl.cells v))] [])=_
 rw[evC_succ,S.f_reso_Val,apF_some,F_reso_Val,mkF_run _ _ _ _ _ _ _ _ rfl]
 cases h:v.reg<;>simp only[eG,go_sem,thq S,nbr S,zN0,zN1,zN2,zN3,zN4,zI0,zI1,zI2,zI3,reduceCtorEq,o203_13 S,h,Md.val,c_reso_Reg S,hl,c_word_Mask S]
theorem c_reso_Val (dp:Nat)(p_w p_wn p_fu p_r0 p_r1 p_r2 p_r3:Int)(p_ms:List MemT)(p_ls:List Label)(p_is:List Ins)(of_r0 of_r1 of_r2 of_r3:Int)(l:List Ent)(i:Int)(v_g:Bool)(v_n:Int)(hl:l.length<1073741824)(A:List Blk)(nb:Nat)(us:List Nat):evOwnK false E (evC E fn (dp+4)) 203 A nb (some ([.agg [vi p_w,vi p_wn,vi p_fu,vi p_r0,vi p_r1,vi p_r2,vi p_r3,rD p_ms,rD p_ls,rD p_is],.agg [vi of_r0,vi of_r1,vi of_r2,vi of_r3],rD l,vi i,.agg [vb v_g,vi v_n]],us))=some (.made (.d (.tup [vi (Md.val (⟨p_w,p_wn,p_fu,⟨p_r0,p_r1,p_r2,p_r3⟩,p_ms,p_ls,p_is⟩:Prog) (⟨of_r0,of_r1,of_r2,of_r3⟩:Regs) l i (⟨v_g,v_n⟩:Val)).1,vb (Md.val (⟨p_w,p_wn,p_fu,⟨p_r0,p_r1,p_r2,p_r3⟩,p_ms,p_ls,p_is⟩:Prog) (⟨of_r0,of_r1,of_r2,of_r3⟩:Regs) l i (⟨v_g,v_n⟩:Val)).2])) []):=
 Says.flat (raw_reso_Val S dp (⟨p_w,p_wn,p_fu,⟨p_r0,p_r1,p_r2,p_r3⟩,p_ms,p_ls,p_is⟩:Prog) (⟨of_r0,of_r1,of_r2,of_r3⟩:Regs) l i (⟨v_g,v_n⟩:Val) hl) (np S 203 (by decide)) (rfl) A nb us
theorem raw_reso_Blocked_1 (dp:Nat)(e:Ent)(p:Prog):Says E fn (dp+2) 241 [.agg (Cl.cells e),.vptr (progC p)] (vb (Md.isFence p e)):=by
 unfold Says
 show ansOf (evC E fn (dp+1+1) 241 [.d (.agg (Cl.cells e)),.d (.vptr (progC p))] [])=_
 rw[evC_succ,S.f_reso_Blocked_1,apF_some,F_reso_Blocked_1,mkF_run _ _ _ _ _ _ _ _ rfl]
 simp only[eG,go_sem,thq S,nbr S,zN0,zN1,zN2,zN3,zN4,zI0,zI1,zI2,zI3,reduceCtorEq,c_seqm_At S,Md.isFence]
theorem c_reso_Blocked_1 (dp:Nat)(e_pc e_vl e_ad e_fr e_nx:Int)(e_dn e_kn e_ft:Bool)(p_w p_wn p_fu p_r0 p_r1 p_r2 p_r3:Int)(p_ms:List MemT)(p_ls:List Label)(p_is:List Ins)(A:List Blk)(nb:Nat)(us:List Nat):evOwnK false E (evC E fn (dp+2)) 241 A nb (some ([.agg [vi e_pc,vi e_vl,vi e_ad,vi e_fr,vi e_nx,vb e_dn,vb e_kn,vb e_ft],.vptr [vi p_w,vi p_wn,vi p_fu,vi p_r0,vi p_r1,vi p_r2,vi p_r3,rD p_ms,rD p_ls,rD p_is]],us))=some (.made (.d (vb (Md.isFence (⟨p_w,p_wn,p_fu,⟨p_r0,p_r1,p_r2,p_r3⟩,p_ms,p_ls,p_is⟩:Prog) (⟨e_pc,e_vl,e_ad,e_fr,e_nx,e_dn,e_kn,e_ft⟩:Ent)))) []):=
 Says.flat (raw_reso_Blocked_1 S dp (⟨e_pc,e_vl,e_ad,e_fr,e_nx,e_dn,e_kn,e_ft⟩:Ent) (⟨p_w,p_wn,p_fu,⟨p_r0,p_r1,p_r2,p_r3⟩,p_ms,p_ls,p_is⟩:Prog) ) (np S 241 (by decide)) (rfl) A nb us
theorem loop_idx (dp:Nat)(p:Prog)(l:List Ent)(hl:l.length<1073741824)(kx:Nat->K)
  (hx:∀ T,ansOf (kx 0 (mk .bot 19 T) [])=some (vi (-1))):
  ∀(m k fuel:Nat),k+m=l.length->m<=fuel->ansOf (B6_slices_IndexFunc_api_Ent_api_Ent (inn E 262) (evC E fn (dp+2)) (loopK 6 B6_slices_IndexFunc_api_Ent_api_Ent (inn E 262) (evC E fn (dp+2)) kx (kEnd 0 [.tmp 4]) fuel) kx (kEnd 0 [.tmp 4])
   (mk .bot 19 [(0,.d (rD l)),(1,.d (.fn (.func 241) [.vptr (progC p)])),(7,aI l.length),(8,aI k)]) [])=some (vi (idxGo p k (l.drop k))):=by
 intro m
 induction m with
 | zero=>
  intro k fuel hk _
  generalize loopK 6 B6_slices_IndexFunc_api_Ent_api_Ent _ _ kx _ fuel=KK
  rw[B6_slices_IndexFunc_api_Ent_api_Ent,List.drop_of_length_le (by omega)]
  simp only[eG,go_sem,thq S,nbr S,zN0,zN1,zN2,zN3,zN4,zI0,zI1,zI2,zI3,reduceCtorEq,o262_13 S,show ¬(k:Int)<l.length by omega,idxGo]
  exact hx _
 | succ m ih=>
  intro k fuel hk hf
  obtain⟨e,he⟩:=get_of (show k<l.length by omega)
  obtain⟨fuel,rfl⟩:∃ m,fuel=m+1:=⟨fuel-1,by omega⟩
  generalize hK:loopK 6 B6_slices_IndexFunc_api_Ent_api_Ent _ _ kx _ (fuel+1)=KK
  rw[B6_slices_IndexFunc_api_Ent_api_Ent,drop_get he]
  cases h0:Md.isFence p e with
  | false=>
   simp only[eG,go_sem,thq S,nbr S,zN0,zN1,zN2,zN3,zN4,zI0,zI1,zI2,zI3,reduceCtorEq,o262_13 S,show(k:Int)<l.length by omega,w_ix he,c_reso_Blocked_1 S,h0,idxGo,wi k (by omega)]
   rw[<-hK,loop_in (on S _ _ [0,1,7,8] (by decide) rfl) rfl _ _ _ _ _ _ _ _ _ rfl]
   simp only[eG,go_sem,thq S,nbr S,zN0,zN1,zN2,zN3,zN4,zI0,zI1,zI2,zI3,reduceCtorEq,o262_13 S]
   exact ih (k+1) fuel (by omega) (by omega)
  | true=>simp only[eG,go_sem,thq S,nbr S,zN0,zN1,zN2,zN3,zN4,zI0,zI1,zI2,zI3,reduceCtorEq,o262_13 S,show(k:Int)<l.length by omega,w_ix he,c_reso_Blocked_1 S,h0,idxGo,wi k (by omega)]
theorem raw_slices_IndexFunc_api_Ent_api_Ent (dp:Nat)(l:List Ent)(p:Prog)(hl:l.length<1073741824):Says E fn (dp+3) 262 [rD l,.fn (.func 241) [.vptr (progC p)]] (vi (idxGo p 0 l)):=by
 unfold Says
 show ansOf (evC E fn (dp+2+1) 262 [.d (rD l),.d (.fn (.func 241) [.vptr (progC p)])] [])=_
 rw[evC_succ,S.f_slices_IndexFunc_api_Ent_api_Ent,apF_some,F_slices_IndexFunc_api_Ent_api_Ent,mkF_run _ _ _ _ _ _ _ _ rfl]
 simp only[eG,go_sem,thq S,nbr S,zN0,zN1,zN2,zN3,zN4,zI0,zI1,zI2,zI3,reduceCtorEq,o262_13 S]
 rw[big_eq,loop_in (on S _ _ [0,1,7,8] (by decide) rfl) rfl _ _ _ _ _ _ _ _ _ rfl]
 simp only[eG,go_sem,thq S,nbr S,zN0,zN1,zN2,zN3,zN4,zI0,zI1,zI2,zI3,reduceCtorEq,o262_13 S]
 have:=loop_idx S dp p l hl (blockK 0 (cQ (cOz [st 4 (oV (ci (-1)))]) cZ (inn E 262) (evC E fn (dp+2)) (kEnd 0 [.tmp 4]) (fun _ _ _=>none) (kEnd 0 [.tmp 4])) (fun _ _ _=>none)) ?_ l.length 0 999999999999999999999999999999 (by omega) (by omega)
 ·rw [List.drop_zero] at this
  exact this
 intro T
 simp only[eG,go_sem,thq S,nbr S,zN0,zN1,zN2,zN3,zN4,zI0,zI1,zI2,zI3,reduceCtorEq,o262_13 S]
theorem c_slices_IndexFunc_api_Ent_api_Ent (dp:Nat)(l:List Ent)(p_w p_wn p_fu p_r0 p_r1 p_r2 p_r3:Int)(p_ms:List MemT)(p_ls:List Label)(p_is:List Ins)(hl:l.length<1073741824)(A:List Blk)(nb:Nat)(us:List Nat):evOwnK false E (evC E fn (dp+3)) 262 A nb (some ([rD l,.fn (.func 241) [.vptr [vi p_w,vi p_wn,vi p_fu,vi p_r0,vi p_r1,vi p_r2,vi p_r3,rD p_ms,rD p_ls,rD p_is]]],us))=some (.made (.d (vi (idxGo (⟨p_w,p_wn,p_fu,⟨p_r0,p_r1,p_r2,p_r3⟩,p_ms,p_ls,p_is⟩:Prog) 0 l))) []):=
 Says.flat (raw_slices_IndexFunc_api_Ent_api_Ent S dp l (⟨p_w,p_wn,p_fu,⟨p_r0,p_r1,p_r2,p_r3⟩,p_ms,p_ls,p_is⟩:Prog) hl) (np S 262 (by decide)) (rfl) A nb us
theorem raw_slices_ContainsFunc_api_Ent_api_Ent (dp:Nat)(l:List Ent)(p:Prog)(hl:l.length<1073741824):Says E fn (dp+4) 240 [rD l,.fn (.func 241) [.vptr (progC p)]] (vb (l.any (Md.isFence p))):=by
 unfold Says
 show ansOf (evC E fn (dp+3+1) 240 [.d (rD l),.d (.fn (.func 241) [.vptr (progC p)])] [])=_
 rw[evC_succ,S.f_slices_ContainsFunc_api_Ent_api_Ent,apF_some,F_slices_ContainsFunc_api_Ent_api_Ent,mkF_run _ _ _ _ _ _ _ _ rfl]
 rw[<-idxGo_any p l 0]
 simp only[eG,go_sem,thq S,nbr S,zN0,zN1,zN2,zN3,zN4,zI0,zI1,zI2,zI3,reduceCtorEq,c_slices_IndexFunc_api_Ent_api_Ent S,hl]
theorem c_slices_ContainsFunc_api_Ent_api_Ent (dp:Nat)(l:List Ent)(p_w p_wn p_fu p_r0 p_r1 p_r2 p_r3:Int)(p_ms:List MemT)(p_ls:List Label)(p_is:List Ins)(hl:l.length<1073741824)(A:List Blk)(nb:Nat)(us:List Nat):evOwnK false E (evC E fn (dp+4)) 240 A nb (some ([rD l,.fn (.func 241) [.vptr [vi p_w,vi p_wn,vi p_fu,vi p_r0,vi p_r1,vi p_r2,vi p_r3,rD p_ms,rD p_ls,rD p_is]]],us))=some (.made (.d (vb (l.any (Md.isFence (⟨p_w,p_wn,p_fu,⟨p_r0,p_r1,p_r2,p_r3⟩,p_ms,p_ls,p_is⟩:Prog))))) []):=
 Says.flat (raw_slices_ContainsFunc_api_Ent_api_Ent S dp l (⟨p_w,p_wn,p_fu,⟨p_r0,p_r1,p_r2,p_r3⟩,p_ms,p_ls,p_is⟩:Prog) hl) (np S 240 (by decide)) (rfl) A nb us
theorem raw_reso_Blocked (dp:Nat)(p:Prog)(l:List Ent)(i:Int)(hl:l.length<1073741824):Says E fn (dp+5) 202 [progD p,rD l,vi i] (vb (Md.blocked p l i)):=by
 unfold Says
 show ansOf (evC E fn (dp+4+1) 202 [.d (progD p),.d (rD l),.d (vi i)] [])=_
 rw[evC_succ,S.f_reso_Blocked,apF_some,F_reso_Blocked,mkF_run _ _ _ _ _ _ _ _ rfl]
 have hcl:=cut_len l i
 simp only[eG,go_sem,thq S,nbr S,zN0,zN1,zN2,zN3,zN4,zI0,zI1,zI2,zI3,reduceCtorEq,c_robq_Cut S,hl,deep_ref,c_slices_ContainsFunc_api_Ent_api_Ent S,show(Md.cut l i).length<1073741824 by omega,Md.blocked]
theorem c_reso_Blocked (dp:Nat)(p_w p_wn p_fu p_r0 p_r1 p_r2 p_r3:Int)(p_ms:List MemT)(p_ls:List Label)(p_is:List Ins)(l:List Ent)(i:Int)(hl:l.length<1073741824)(A:List Blk)(nb:Nat)(us:List Nat):evOwnK false E (evC E fn (dp+5)) 202 A nb (some ([.agg [vi p_w,vi p_wn,vi p_fu,vi p_r0,vi p_r1,vi p_r2,vi p_r3,rD p_ms,rD p_ls,rD p_is],rD l,vi i],us))=some (.made (.d (vb (Md.blocked (⟨p_w,p_wn,p_fu,⟨p_r0,p_r1,p_r2,p_r3⟩,p_ms,p_ls,p_is⟩:Prog) l i))) []):=
 Says.flat (raw_reso_Blocked S dp (⟨p_w,p_wn,p_fu,⟨p_r0,p_r1,p_r2,p_r3⟩,p_ms,p_ls,p_is⟩:Prog) l i hl) (np S 202 (by decide)) (rfl) A nb us
end
end Go.Aug.Mc
