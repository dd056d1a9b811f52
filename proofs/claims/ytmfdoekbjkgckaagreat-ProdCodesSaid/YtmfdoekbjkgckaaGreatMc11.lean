import Derived.Test.YtmfdoekbjkgckaaGreatMc4
import Derived.Test.YtmfdoekbjkgckaaGreatBr
namespace Go.Aug.Mc
open Go Go.Aug
open Nat renaming reduceLT -> zN0, reduceEqDiff -> zN1, reduceAdd -> zN2, reduceMul -> zN3, reduceLeDiff -> zN4
open Int renaming reduceEq -> zI0, reduceLT -> zI1, reduceLE -> zI2, reduceNeg -> zI3
set_option linter.unusedSimpArgs false
set_option linter.unusedVariables false
set_option maxHeartbeats 40000000
theorem Zfu (l:List Ent)(i:Int):Md.D6 l i<=l.length+1:=by unfold Md.D6;omega
theorem Zfr (l:List Ent)(i:Int):min (max i (-1)) (l.length:Int)+1=(Md.D6 l i:Int):=by unfold Md.D6;omega
variable {E:Env} {fn:FuncId->Option (Env->cT->cT)}
section
variable (S:Sur E fn)
include S
theorem SY:E.lives 41 7=none:=off S 41 7 (by decide) rfl
theorem PU:E.lives 39 7=none/\E.lives 39 13=none/\E.lives 39 17=none/\E.lives 39 21=none/\E.lives 39 23=none:=⟨off S 39 7 (by decide) rfl,off S 39 13 (by decide) rfl,off S 39 17 (by decide) rfl,off S 39 21 (by decide) rfl,off S 39 23 (by decide) rfl⟩
theorem DH:E.lives 125 1=none/\E.lives 125 13=none:=⟨off S 125 1 (by decide) rfl,off S 125 13 (by decide) rfl⟩
theorem Zb9 (dp:Nat)(p:Prog)(c:Conf)(i:Int)(hl:c.buf.length<1073741824):Z7 E fn (dp+5) 41 [ZP p,ZY c,vi i] (vb (Md.QX p c i)):=by
 unfold Z7
 show Zz (Z5 E fn (dp+4+1) 41 [.d (ZP p),.d (ZY c),.d (vi i)] [])=_
 rw[Yx,S.Z4t,Yw,Z8e,Yq _ _ _ _ _ _ _ _ rfl]
 cases ho:Md.Bv p c i with
 | false=>simp only[eG,go_sem,Z2 S,Z1 S,zN0,zN1,zN2,zN3,zN4,zI0,zI1,zI2,zI3,reduceCtorEq,SY S,Kv S,hl,ho,Md.QX]
 | true=>
  obtain⟨h0,he,_⟩:=SP ho
  cases hd:(Md.ZA c.buf i).known with
  | true=>simp only[eG,go_sem,Z2 S,Z1 S,zN0,zN1,zN2,zN3,zN4,zI0,zI1,zI2,zI3,reduceCtorEq,SY S,Kv S,hl,ho,EK h0 he,hd,Md.QX]
  | false=>
   by_cases k3:(Md.at_ p (Md.ZA c.buf i).pc).kind=3
   ·simp only[eG,go_sem,Z2 S,Z1 S,zN0,zN1,zN2,zN3,zN4,zI0,zI1,zI2,zI3,reduceCtorEq,SY S,Kv S,hl,ho,EK h0 he,hd,Md.QX,Zv S,Jj S,Md.QA,k3]
   ·simp only[eG,go_sem,Z2 S,Z1 S,zN0,zN1,zN2,zN3,zN4,zI0,zI1,zI2,zI3,reduceCtorEq,SY S,Kv S,hl,ho,EK h0 he,hd,Md.QX,Zv S,Jj S,Md.QA,k3]
theorem KA (dp:Nat)(p_w p_wn p_fu p_r0 p_r1 p_r2 p_r3:Int)(p_ms:List MemT)(p_ls:List Label)(p_is:List Ins)(c_r0 c_r1 c_r2 c_r3:Int)(c_mm c_st:List Int)(c_pc:Int)(c_bf:List Ent)(c_rb:List Int)(c_en i:Int)(hl:(⟨⟨⟨c_r0,c_r1,c_r2,c_r3⟩,c_mm,c_st,c_pc⟩,c_bf,c_rb,c_en⟩:Conf).buf.length<1073741824)(A:List Blk)(nb:Nat)(us:List Nat):ZX false E (Z5 E fn (dp+5)) 41 A nb (some ([.agg [vi p_w,vi p_wn,vi p_fu,vi p_r0,vi p_r1,vi p_r2,vi p_r3,rD p_ms,rD p_ls,rD p_is],.agg [vi c_r0,vi c_r1,vi c_r2,vi c_r3,rD c_mm,rD c_st,vi c_pc,rD c_bf,rD c_rb,vi c_en],vi i],us))=some (.made (.d (vb (Md.QX (⟨p_w,p_wn,p_fu,⟨p_r0,p_r1,p_r2,p_r3⟩,p_ms,p_ls,p_is⟩:Prog) (⟨⟨⟨c_r0,c_r1,c_r2,c_r3⟩,c_mm,c_st,c_pc⟩,c_bf,c_rb,c_en⟩:Conf) i))) []):=
 Z7.flat (Zb9 S dp (⟨p_w,p_wn,p_fu,⟨p_r0,p_r1,p_r2,p_r3⟩,p_ms,p_ls,p_is⟩:Prog) (⟨⟨⟨c_r0,c_r1,c_r2,c_r3⟩,c_mm,c_st,c_pc⟩,c_bf,c_rb,c_en⟩:Conf) i hl) (np S 41 (by decide)) (rfl) A nb us
theorem Zb4 (dp:Nat)(p:Prog)(c:Conf)(hi:p.ins.length<1073741824):Z7 E fn (dp+2) 39 [ZP p,ZY c] (vi (Md.J7 p c)):=by
 unfold Z7
 show Zz (Z5 E fn (dp+1+1) 39 [.d (ZP p),.d (ZY c)] [])=_
 rw[Yx,S.Z4o,Yw,Z89,Yq _ _ _ _ _ _ _ _ rfl]
 have hw:IntKind.i64.wrap ((p.ins.length:Int)+1)=p.ins.length+1:=by rw[YM (by omega) (by omega)]
 by_cases h1:c.end_=0
 ·by_cases h2 : c.state.pc = -1
  ·simp only[eG,go_sem,Z2 S,Z1 S,zN0,zN1,zN2,zN3,zN4,zI0,zI1,zI2,zI3,reduceCtorEq,PU S,h1,h2,Md.J7,ne_eq,not_true_eq_false,not_false_eq_true]
  ·by_cases h3 : (c.buf.length : Int) >= p.window
   ·simp only[eG,go_sem,Z2 S,Z1 S,zN0,zN1,zN2,zN3,zN4,zI0,zI1,zI2,zI3,reduceCtorEq,PU S,h1,h2,h3,Md.J7,ne_eq,not_true_eq_false,not_false_eq_true]
   ·by_cases h9 : c.rsb.length = 0
    ·simp only [eG, go_sem, Z2 S, Z1 S, zN0, zN1, zN2, zN3, zN4, zI0, zI1, zI2, zI3, reduceCtorEq, PU S, h1, h2, h3, h9, Md.J7, ne_eq, not_true_eq_false, not_false_eq_true, Zv S, hw, Int.natCast_eq_zero]
     by_cases k5:(Md.at_ p c.state.pc).kind=5
     ·simp only[k5,decide_true,decide_false,cond_true,cond_false,if_true,if_false,zI0]
     by_cases k7:(Md.at_ p c.state.pc).kind=7
     ·simp only[k7,decide_true,decide_false,cond_true,cond_false,if_true,if_false,zI0,true_or]
     by_cases k9:(Md.at_ p c.state.pc).kind=9
     ·simp only[k9,decide_true,decide_false,cond_true,cond_false,if_true,if_false,zI0,or_true,and_self]
     ·simp only[k5,k7,k9,decide_true,decide_false,cond_true,cond_false,if_true,if_false,zI0,or_self,false_and]
    ·simp only [eG, go_sem, Z2 S, Z1 S, zN0, zN1, zN2, zN3, zN4, zI0, zI1, zI2, zI3, reduceCtorEq, PU S, h1, h2, h3, h9, Md.J7, ne_eq, not_true_eq_false, not_false_eq_true, Zv S, hw, Int.natCast_eq_zero]
     by_cases k5:(Md.at_ p c.state.pc).kind=5
     ·simp only[k5,decide_true,decide_false,cond_true,cond_false,if_true,if_false,zI0]
     by_cases k7:(Md.at_ p c.state.pc).kind=7
     ·simp only[k7,decide_true,decide_false,cond_true,cond_false,if_true,if_false,zI0,true_or]
     by_cases k9:(Md.at_ p c.state.pc).kind=9
     ·simp only[k9,decide_true,decide_false,cond_true,cond_false,if_true,if_false,zI0,or_true,and_self,and_false,or_self]
     ·simp only[k5,k7,k9,decide_true,decide_false,cond_true,cond_false,if_true,if_false,zI0,or_self,false_and]
 ·simp only[eG,go_sem,Z2 S,Z1 S,zN0,zN1,zN2,zN3,zN4,zI0,zI1,zI2,zI3,reduceCtorEq,PU S,h1,Md.J7,ne_eq,not_true_eq_false,not_false_eq_true]
theorem CN (dp:Nat)(p_w p_wn p_fu p_r0 p_r1 p_r2 p_r3:Int)(p_ms:List MemT)(p_ls:List Label)(p_is:List Ins)(c_r0 c_r1 c_r2 c_r3:Int)(c_mm c_st:List Int)(c_pc:Int)(c_bf:List Ent)(c_rb:List Int)(c_en:Int)(hi:(⟨p_w,p_wn,p_fu,⟨p_r0,p_r1,p_r2,p_r3⟩,p_ms,p_ls,p_is⟩:Prog).ins.length<1073741824)(A:List Blk)(nb:Nat)(us:List Nat):ZX false E (Z5 E fn (dp+2)) 39 A nb (some ([.agg [vi p_w,vi p_wn,vi p_fu,vi p_r0,vi p_r1,vi p_r2,vi p_r3,rD p_ms,rD p_ls,rD p_is],.agg [vi c_r0,vi c_r1,vi c_r2,vi c_r3,rD c_mm,rD c_st,vi c_pc,rD c_bf,rD c_rb,vi c_en]],us))=some (.made (.d (vi (Md.J7 (⟨p_w,p_wn,p_fu,⟨p_r0,p_r1,p_r2,p_r3⟩,p_ms,p_ls,p_is⟩:Prog) (⟨⟨⟨c_r0,c_r1,c_r2,c_r3⟩,c_mm,c_st,c_pc⟩,c_bf,c_rb,c_en⟩:Conf)))) []):=
 Z7.flat (Zb4 S dp (⟨p_w,p_wn,p_fu,⟨p_r0,p_r1,p_r2,p_r3⟩,p_ms,p_ls,p_is⟩:Prog) (⟨⟨⟨c_r0,c_r1,c_r2,c_r3⟩,c_mm,c_st,c_pc⟩,c_bf,c_rb,c_en⟩:Conf) hi) (np S 39 (by decide)) (rfl) A nb us
theorem Zep (dp:Nat)(p:Prog)(l:List Ent)(i addr:Int)(hl:l.length<1073741824)(kx:Nat->K)
  (hx:∀ T,Zz (kx 0 (mk .bot 58 T) [.cells ((YH p).map .d) 0 false])=some (.tup [vi 0,vb false])):
  ∀(m k fuel:Nat),(k+m=l.length∨(m=0/\l.length<=k))->k<=l.length+1->m<=fuel->Zz (MR (Zj E 125) (Z5 E fn (dp+1)) (Z9 6 MR (Zj E 125) (Z5 E fn (dp+1)) kx (YD 0 [.tmp 8,.tmp 9]) fuel) kx (YD 0 [.tmp 8,.tmp 9])
   (mk .bot 58 [(1,.d (rD l)),(2,aI i),(3,aI addr),(4,.ref 0 0 0),(10,aI k)]) [.cells ((YH p).map .d) 0 false])=
   some (.tup [vi (Md.AP p i addr k (l.drop k)).1,vb (Md.AP p i addr k (l.drop k)).2]):=by
 intro m
 induction m with
 | zero=>
  intro k fuel hk hk2 _
  generalize Z9 6 MR _ _ kx _ fuel=KK
  rw[MR,List.drop_of_length_le (by omega)]
  simp only[eG,go_sem,Z2 S,Z1 S,zN0,zN1,zN2,zN3,zN4,zI0,zI1,zI2,zI3,reduceCtorEq,DH S,show ¬(k:Int)<l.length by omega,Md.AP]
  exact hx _
 | succ m ih=>
  intro k fuel hk hk2 hf
  obtain⟨e,he⟩:=QB (show k<l.length by omega)
  obtain⟨fuel,rfl⟩:∃ m,fuel=m+1:=⟨fuel-1,by omega⟩
  generalize hK:Z9 6 MR _ _ kx _ (fuel+1)=KK
  rw[MR,E9 he]
  have h2:(k:Int)<l.length:=by omega
  have next:∀ X,(Md.AP p i addr (k+1) (l.drop (k+1)))=X->X=Md.AP p i addr (k+1) (l.drop (k+1)):=fun _ h=>h.symm
  by_cases k2:(Md.at_ p e.pc).kind=2
  ·cases hk : e.known with
   | true=>
    by_cases ha:e.addr=addr
    ·by_cases hfr : e.frm < i
     ·simp only[eG,go_sem,Z2 S,Z1 S,zN0,zN1,zN2,zN3,zN4,zI0,zI1,zI2,zI3,reduceCtorEq,DH S,ZF he,Zv S,wi k (by omega),h2,k2,hk,ha,hfr,Md.AP,Md.K4]
     ·simp only [eG, go_sem, Z2 S, Z1 S, zN0, zN1, zN2, zN3, zN4, zI0, zI1, zI2, zI3, reduceCtorEq, DH S, ZF he, Zv S, wi k (by omega), h2, k2, hk, ha, hfr, Md.AP, Md.K4]
      rw[<-hK,Z6 (on S _ _ [1,2,3,4,10] (by decide) rfl) rfl _ _ _ _ _ _ _ _ _ rfl]
      simp only[eG,go_sem,Z2 S,Z1 S,zN0,zN1,zN2,zN3,zN4,zI0,zI1,zI2,zI3,reduceCtorEq,DH S,ZF he,Zv S,wi k (by omega),h2]
      exact ih (k+1) fuel (by omega) (by omega) (by omega)
    ·simp only [eG, go_sem, Z2 S, Z1 S, zN0, zN1, zN2, zN3, zN4, zI0, zI1, zI2, zI3, reduceCtorEq, DH S, ZF he, Zv S, wi k (by omega), h2, k2, hk, ha, Md.AP, Md.K4]
     rw[<-hK,Z6 (on S _ _ [1,2,3,4,10] (by decide) rfl) rfl _ _ _ _ _ _ _ _ _ rfl]
     simp only[eG,go_sem,Z2 S,Z1 S,zN0,zN1,zN2,zN3,zN4,zI0,zI1,zI2,zI3,reduceCtorEq,DH S,ZF he,Zv S,wi k (by omega),h2]
     exact ih (k+1) fuel (by omega) (by omega) (by omega)
   | false=>
    simp only[eG,go_sem,Z2 S,Z1 S,zN0,zN1,zN2,zN3,zN4,zI0,zI1,zI2,zI3,reduceCtorEq,DH S,ZF he,Zv S,wi k (by omega),h2,k2,hk,Md.AP,Md.K4]
    rw[<-hK,Z6 (on S _ _ [1,2,3,4,10] (by decide) rfl) rfl _ _ _ _ _ _ _ _ _ rfl]
    simp only[eG,go_sem,Z2 S,Z1 S,zN0,zN1,zN2,zN3,zN4,zI0,zI1,zI2,zI3,reduceCtorEq,DH S,ZF he,Zv S,wi k (by omega),h2]
    exact ih (k+1) fuel (by omega) (by omega) (by omega)
  ·simp only [eG, go_sem, Z2 S, Z1 S, zN0, zN1, zN2, zN3, zN4, zI0, zI1, zI2, zI3, reduceCtorEq, DH S, ZF he, Zv S, wi k (by omega), h2, k2, Md.AP, Md.K4]
   rw[<-hK,Z6 (on S _ _ [1,2,3,4,10] (by decide) rfl) rfl _ _ _ _ _ _ _ _ _ rfl]
   simp only[eG,go_sem,Z2 S,Z1 S,zN0,zN1,zN2,zN3,zN4,zI0,zI1,zI2,zI3,reduceCtorEq,DH S,ZF he,Zv S,wi k (by omega),h2]
   exact ih (k+1) fuel (by omega) (by omega) (by omega)
theorem Zb3 (dp:Nat)(p:Prog)(l:List Ent)(i addr:Int)(hl:l.length<1073741824):Z7 E fn (dp+2) 125 [ZP p,rD l,vi i,vi addr] (.tup [vi (Md.JH p l i addr).1,vb (Md.JH p l i addr).2]):=by
 unfold Z7
 show Zz (Z5 E fn (dp+1+1) 125 [.d (ZP p),.d (rD l),.d (vi i),.d (vi addr)] [])=_
 rw[Yx,S.Z4n,Yw,Z88,Yq _ _ _ _ _ _ _ _ rfl]
 have hh:=Zfu l i
 have hr:IntKind.i64.wrap (min (max i (-1)) (l.length:Int)+1)=(Md.D6 l i:Int):=by rw[Zfr];exact YM (by omega) (by omega)
 simp only[eG,go_sem,Z2 S,Z1 S,zN0,zN1,zN2,zN3,zN4,zI0,zI1,zI2,zI3,reduceCtorEq,DH S,hr]
 rw[ZU,Z6 (on S _ _ [1,2,3,4,10] (by decide) rfl) rfl _ _ _ _ _ _ _ _ _ rfl]
 simp only[eG,go_sem,Z2 S,Z1 S,zN0,zN1,zN2,zN3,zN4,zI0,zI1,zI2,zI3,reduceCtorEq,DH S]
 refine Zep S dp p l i addr hl _ ?_ (l.length-Md.D6 l i) (Md.D6 l i) _ (by omega) hh (by omega)
 intro T
 simp only[eG,go_sem,Z2 S,Z1 S,zN0,zN1,zN2,zN3,zN4,zI0,zI1,zI2,zI3,reduceCtorEq,DH S]
theorem Z6p (dp:Nat)(p_w p_wn p_fu p_r0 p_r1 p_r2 p_r3:Int)(p_ms:List MemT)(p_ls:List Label)(p_is:List Ins)(l:List Ent)(i addr:Int)(hl:l.length<1073741824)(A:List Blk)(nb:Nat)(us:List Nat):ZX false E (Z5 E fn (dp+2)) 125 A nb (some ([.agg [vi p_w,vi p_wn,vi p_fu,vi p_r0,vi p_r1,vi p_r2,vi p_r3,rD p_ms,rD p_ls,rD p_is],rD l,vi i,vi addr],us))=some (.made (.d (.tup [vi (Md.JH (⟨p_w,p_wn,p_fu,⟨p_r0,p_r1,p_r2,p_r3⟩,p_ms,p_ls,p_is⟩:Prog) l i addr).1,vb (Md.JH (⟨p_w,p_wn,p_fu,⟨p_r0,p_r1,p_r2,p_r3⟩,p_ms,p_ls,p_is⟩:Prog) l i addr).2])) []):=
 Z7.flat (Zb3 S dp (⟨p_w,p_wn,p_fu,⟨p_r0,p_r1,p_r2,p_r3⟩,p_ms,p_ls,p_is⟩:Prog) l i addr hl) (np S 125 (by decide)) (rfl) A nb us
end
def Pz:Option (List Int)->DV
 | none=>.tup [rD ([]:List Int),vb false]
 | some r=>.tup [rD r,vb true]
theorem Z7h {i:Nat}{out junk:List Int}{k:Option Nat}{A:List Blk}{b:Bool}(hA:A[i]? =some (.cells ((rC (out++junk)).map .d) 0 false)):
  Zz (Cj 0 (some (.tup [.sref i 0 0 out.length 1 k,ZZ b],A)))=some (.tup [rD out,vb b]):=by
 have hi:¬A.length<=i:=by
  intro h;rw[List.getElem?_eq_none h] at hA;cases hA
 cases out with
 | nil=>simp only[eG,go_sem,Mv,hA,hi,List.not_mem_nil,false_or,or_false,Nat.not_lt_zero,if_false]
 | cons x xs=>
  have hd:deep [.cells ((rC (x::xs++junk)).map .d) 0 false] 7 (.sref 0 0 0 (x::xs).length 1 k)=some (.lst (rC (x::xs)) (x::xs).length k,[0]):=Zh8 (by simp) rfl _ _ _ rfl
  simp only[eG,go_sem,Mv,hA,hi,List.not_mem_nil,false_or,or_false,Nat.not_lt_zero,if_false] at hd ⊢
  rw[hd]
  rfl
variable {E:Env} {fn:FuncId->Option (Env->cT->cT)}
section
variable (S:Sur E fn)
include S
theorem AH:E.lives 120 1=none/\E.lives 120 17=none/\E.lives 120 19=none/\E.lives 120 25=none/\E.lives 120 27=none:=⟨off S 120 1 (by decide) rfl,off S 120 17 (by decide) rfl,off S 120 19 (by decide) rfl,off S 120 25 (by decide) rfl,off S 120 27 (by decide) rfl⟩
theorem Z2x (dp:Nat)(p:Prog)(l:List Ent)(i:Int)(hl:l.length<1073741824)(kx:Nat->K)
  (hx:∀ T out junk k,ZG .bot T 10=.sref 1 0 0 (out:List Int).length 1 k->Zz (kx 0 (mk .bot 59 T) [.cells ((YH p).map .d) 0 false,.cells ((rC (out++junk)).map .d) 0 false])=some (Pz (some out))):
  ∀(m k fuel:Nat) (out junk:List Int) (q:Option Nat),k+m=(Md.cut l i).length->m<=fuel->out.length<1073741824->(q=none∨q=some 0/\out=[]/\junk=[])->Zz (DY (Zj E 120) (Z5 E fn (dp+1)) (Z9 8 DY (Zj E 120) (Z5 E fn (dp+1)) kx (YD 0 [.tmp 8,.tmp 9]) fuel) kx (YD 0 [.tmp 8,.tmp 9])
   (mk .bot 59 [(2,.d (rD l)),(3,aI i),(4,.ref 0 0 0),(10,.sref 1 0 0 out.length 1 q),(11,aI k)]) [.cells ((YH p).map .d) 0 false,.cells ((rC (out++junk)).map .d) 0 false])=
   some (Pz (Md.QV p ((Md.cut l i).drop k) out)):=by
 intro m
 have hcl:(Md.cut l i).length=min i.toNat l.length:=by simp[Md.cut]
 induction m with
 | zero=>
  intro k fuel out junk q hk _ ho hq
  generalize Z9 8 DY _ _ kx _ fuel=KK
  rw[DY,List.drop_of_length_le (by omega)]
  by_cases h1:(k:Int)<i
  ·simp only [eG, go_sem, Z2 S, Z1 S, zN0, zN1, zN2, zN3, zN4, zI0, zI1, zI2, zI3, reduceCtorEq, AH S, h1, show ¬ (k : Int) < l.length by omega, Md.QV]
   exact hx _ _ _ q rfl
  ·simp only [eG, go_sem, Z2 S, Z1 S, zN0, zN1, zN2, zN3, zN4, zI0, zI1, zI2, zI3, reduceCtorEq, AH S, h1, Md.QV]
   exact hx _ _ _ q rfl
 | succ m ih=>
  intro k fuel out junk q hk hf ho hq
  obtain⟨e,he⟩:=QB (show k<l.length by omega)
  have hc:(Md.cut l i)[k]? =some e:=by unfold Md.cut;rw[List.getElem?_take,if_pos (by omega),he]
  obtain⟨fuel,rfl⟩:∃ m,fuel=m+1:=⟨fuel-1,by omega⟩
  generalize hK:Z9 8 DY _ _ kx _ (fuel+1)=KK
  rw[DY,E9 hc,Md.QV]
  have h1:(k:Int)<i:=by omega
  have h2:(k:Int)<l.length:=by omega
  by_cases k8:(Md.at_ p e.pc).kind=8
  ·by_cases h4 : 4 <= out.length
   ·simp only[eG,go_sem,Z2 S,Z1 S,zN0,zN1,zN2,zN3,zN4,zI0,zI1,zI2,zI3,reduceCtorEq,AH S,ZF he,Zv S,wi k (by omega),h1,h2,ge_iff_le,k8,h4,show(4:Int)<=out.length by omega,Pz]
   ·have l1 : (out.length + 1) * 8 <= Z4 := by unfold Z4; omega
    have l2:out.length+1<=Z4:=by unfold Z4;omega
    rcases hq with rfl | ⟨rfl,rfl,rfl⟩
    ·cases junk with
     | nil=>
      simp only[List.append_nil]
      simp only[eG,go_sem,Z2 S,Z1 S,zN0,zN1,zN2,zN3,zN4,zI0,zI1,zI2,zI3,reduceCtorEq,AH S,ZF he,Zv S,wi k (by omega),h1,h2,ge_iff_le,k8,h4,show ¬(4:Int)<=out.length by omega,Zq,RK,l1,l2]
      rw[<-hK,Z6 (on S _ _ [2,3,4,10,11] (by decide) rfl) rfl _ _ _ _ _ _ _ _ _ rfl]
      simp only[eG,go_sem,Z2 S,Z1 S,zN0,zN1,zN2,zN3,zN4,zI0,zI1,zI2,zI3,reduceCtorEq,AH S,ZF he,Zv S,wi k (by omega),h1,h2,ge_iff_le]
      have e1:out.length+1=(out++[Md.Y1 (e.pc+1)]).length:=by simp
      have:=ih (k+1) fuel (out++[Md.Y1 (e.pc+1)]) [] none (by omega) (by omega) (by simp;omega) (.inl rfl)
      rw[<-e1,List.append_nil] at this
      exact this
     | cons y junk=>
      simp only[eG,go_sem,Z2 S,Z1 S,zN0,zN1,zN2,zN3,zN4,zI0,zI1,zI2,zI3,reduceCtorEq,AH S,ZF he,Zv S,wi k (by omega),h1,h2,ge_iff_le,k8,h4,show ¬(4:Int)<=out.length by omega,Zq,Z7e (y:=y) (junk:=junk),l1,l2]
      rw[<-hK,Z6 (on S _ _ [2,3,4,10,11] (by decide) rfl) rfl _ _ _ _ _ _ _ _ _ rfl]
      simp only[eG,go_sem,Z2 S,Z1 S,zN0,zN1,zN2,zN3,zN4,zI0,zI1,zI2,zI3,reduceCtorEq,AH S,ZF he,Zv S,wi k (by omega),h1,h2,ge_iff_le]
      have e1:out.length+1=(out++[Md.Y1 (e.pc+1)]).length:=by simp
      have:=ih (k+1) fuel (out++[Md.Y1 (e.pc+1)]) junk none (by omega) (by omega) (by simp;omega) (.inl rfl)
      rw[<-e1,List.append_assoc] at this
      exact this
    ·simp only [eG, go_sem, Z2 S, Z1 S, zN0, zN1, zN2, zN3, zN4, zI0, zI1, zI2, zI3, reduceCtorEq, AH S, ZF he, Zv S, wi k (by omega), h1, h2, ge_iff_le, k8, List.length_nil, show ¬ (4 : Int) <= (0 : Nat) by omega, Zq, CA (cs := []), Nat.succ_ne_zero, show (1 : Nat) * 8 <= Z4 by decide, show (1 : Nat) <= Z4 by decide, ne_eq, not_false_eq_true]
     rw[<-hK,Z6 (on S _ _ [2,3,4,10,11] (by decide) rfl) rfl _ _ _ _ _ _ _ _ _ rfl]
     simp only[eG,go_sem,Z2 S,Z1 S,zN0,zN1,zN2,zN3,zN4,zI0,zI1,zI2,zI3,reduceCtorEq,AH S,ZF he,Zv S,wi k (by omega),h1,h2,ge_iff_le]
     exact ih (k+1) fuel [Md.Y1 (e.pc+1)] [] none (by omega) (by omega) (by simp) (.inl rfl)
  ·by_cases k9 : (Md.at_ p e.pc).kind = 9
   ·cases hr : out.reverse with
    | nil=>
     have:out=[]:=List.reverse_eq_nil_iff.1 hr
     subst this
     simp only[eG,go_sem,Z2 S,Z1 S,zN0,zN1,zN2,zN3,zN4,zI0,zI1,zI2,zI3,reduceCtorEq,AH S,ZF he,Zv S,wi k (by omega),h1,h2,ge_iff_le,k8,k9,List.length_nil,Pz,zI0,Int.natCast_eq_zero]
    | cons y r=>
     have e0:out=r.reverse++[y]:=by rw[<-List.reverse_reverse out,hr,List.reverse_cons]
     subst e0
     have e1:(r.reverse++[y]).dropLast=r.reverse:=List.dropLast_concat
     have e2:(r.reverse++[y]).length=r.reverse.length+1:=by simp
     rcases hq with rfl | ⟨_,h,_⟩
     ·have w1 : IntKind.i64.wrap (((r.reverse.length + 1 : Nat) : Int) - 1) = (r.reverse.length : Int) := by rw [e2] at ho; rw [YM (by omega) (by omega)]; omega
      have bd:=MG (r.reverse.length+1) .i64 (r.reverse.length:Int) (by omega) (by omega)
      rw[e2,e1]
      simp only[eG,go_sem,Z2 S,Z1 S,zN0,zN1,zN2,zN3,zN4,zI0,zI1,zI2,zI3,reduceCtorEq,AH S,ZF he,Zv S,wi k (by omega),h1,h2,ge_iff_le,k8,k9,w1,bd,Int.toNat_natCast,Nat.succ_ne_zero,Int.natCast_eq_zero,ne_eq,not_true_eq_false,and_false,Nat.zero_mul,Nat.sub_zero,Nat.add_zero,Nat.zero_add]
      rw[<-hK,Z6 (on S _ _ [2,3,4,10,11] (by decide) rfl) rfl _ _ _ _ _ _ _ _ _ rfl]
      simp only[eG,go_sem,Z2 S,Z1 S,zN0,zN1,zN2,zN3,zN4,zI0,zI1,zI2,zI3,reduceCtorEq,AH S,ZF he,Zv S,wi k (by omega),h1,h2,ge_iff_le]
      have:=ih (k+1) fuel r.reverse ([y]++junk) none (by omega) (by omega) (by omega) (.inl rfl)
      rw[<-List.append_assoc] at this
      exact this
     ·simp at h
   ·simp only [eG, go_sem, Z2 S, Z1 S, zN0, zN1, zN2, zN3, zN4, zI0, zI1, zI2, zI3, reduceCtorEq, AH S, ZF he, Zv S, wi k (by omega), h1, h2, ge_iff_le, k8, k9]
    rw[<-hK,Z6 (on S _ _ [2,3,4,10,11] (by decide) rfl) rfl _ _ _ _ _ _ _ _ _ rfl]
    simp only[eG,go_sem,Z2 S,Z1 S,zN0,zN1,zN2,zN3,zN4,zI0,zI1,zI2,zI3,reduceCtorEq,AH S,ZF he,Zv S,wi k (by omega),h1,h2,ge_iff_le]
    exact ih (k+1) fuel out junk q (by omega) (by omega) ho hq
def MF {α:Type}:Option α->Bool
 | some _=>true
 | none=>false
def F0:Option (List Int)->List Int
 | some l=>l
 | none=>[]
theorem Zay (dp:Nat)(p:Prog)(sk:List Int)(l:List Ent)(i:Int)(hl:l.length<1073741824)(hs:sk.length<1073741824):Z7 E fn (dp+2) 120 [ZP p,rD sk,rD l,vi i] (.tup [rD (F0 (Md.real p sk l i)),vb (MF (Md.real p sk l i))]):=by
 unfold Z7
 show Zz (Z5 E fn (dp+1+1) 120 [.d (ZP p),.d (rD sk),.d (rD l),.d (vi i)] [])=_
 rw[Yx,S.W5,Yw,Xv,Yq _ _ _ _ _ _ _ _ rfl]
 have fin:∀ X:Option (List Int),DV.tup [rD (F0 X),vb (MF X)]=Pz X:=fun X=>by cases X<;>rfl
 rw[fin]
 by_cases h0:sk.length=0
 ·have : sk = [] := List.length_eq_zero_iff.1 h0
  subst this
  simp only[eG,go_sem,Z2 S,Z1 S,zN0,zN1,zN2,zN3,zN4,zI0,zI1,zI2,zI3,reduceCtorEq,AH S,YE]
  rw[ZU,Z6 (on S _ _ [2,3,4,10,11] (by decide) rfl) rfl _ _ _ _ _ _ _ _ _ rfl]
  simp only[eG,go_sem,Z2 S,Z1 S,zN0,zN1,zN2,zN3,zN4,zI0,zI1,zI2,zI3,reduceCtorEq,AH S]
  refine Z2x S dp p l i hl _ ?_ (Md.cut l i).length 0 _ [] [] (some 0) (by omega) (by have:=Rk l i;omega) (by simp) (.inr ⟨rfl,rfl,rfl⟩)
  intro T out junk k h
  simp only[go_sem,Z2 S,Z1 S,zN0,zN1,zN2,zN3,zN4,zI0,zI1,zI2,zI3,reduceCtorEq,AH S,h]
  exact Z7h rfl
 ·have l1 : sk.length * 8 <= Z4 := by unfold Z4; omega
  have l2:sk.length<=Z4:=by unfold Z4;omega
  have l3:(((rC sk).map AV.d).all AV.one)=true:=HR _
  simp only[eG,go_sem,Z2 S,Z1 S,zN0,zN1,zN2,zN3,zN4,zI0,zI1,zI2,zI3,reduceCtorEq,AH S,YE,CA (cs:=[]),l1,l2,l3,ne_eq,h0,not_false_eq_true]
  rw[ZU,Z6 (on S _ _ [2,3,4,10,11] (by decide) rfl) rfl _ _ _ _ _ _ _ _ _ rfl]
  simp only[eG,go_sem,Z2 S,Z1 S,zN0,zN1,zN2,zN3,zN4,zI0,zI1,zI2,zI3,reduceCtorEq,AH S]
  have:=Z2x S dp p l i hl (KE 0 (cQ (Z3 [st 58 (oV (.t 10)),st 8 (oV (.t 58)),st 9 (oV (.c (.v (.bool true))))]) cZ (Zj E 120) (Z5 E fn (dp+1)) (YD 0 [.tmp 8,.tmp 9]) (fun _ _ _=>none) (YD 0 [.tmp 8,.tmp 9])) (fun _ _ _=>none)) ?_ (Md.cut l i).length 0 999999999999999999999999999999 sk [] none (by omega) (by have:=Rk l i;omega) hs (.inl rfl)
  ·rw [List.append_nil] at this
   exact this
  intro T out junk k h
  simp only[go_sem,Z2 S,Z1 S,zN0,zN1,zN2,zN3,zN4,zI0,zI1,zI2,zI3,reduceCtorEq,AH S,h]
  exact Z7h rfl
theorem QY (dp:Nat)(p_w p_wn p_fu p_r0 p_r1 p_r2 p_r3:Int)(p_ms:List MemT)(p_ls:List Label)(p_is:List Ins)(sk:List Int)(l:List Ent)(i:Int)(hl:l.length<1073741824)(hs:sk.length<1073741824)(A:List Blk)(nb:Nat):ZX false E (Z5 E fn (dp+2)) 120 A nb (some ([.agg [vi p_w,vi p_wn,vi p_fu,vi p_r0,vi p_r1,vi p_r2,vi p_r3,rD p_ms,rD p_ls,rD p_is],rD sk,rD l,vi i],[]))=some (.made (.d (.tup [rD (F0 (Md.real (⟨p_w,p_wn,p_fu,⟨p_r0,p_r1,p_r2,p_r3⟩,p_ms,p_ls,p_is⟩:Prog) sk l i)),vb (MF (Md.real (⟨p_w,p_wn,p_fu,⟨p_r0,p_r1,p_r2,p_r3⟩,p_ms,p_ls,p_is⟩:Prog) sk l i))])) []):=
 Z7.deep (Zay S dp (⟨p_w,p_wn,p_fu,⟨p_r0,p_r1,p_r2,p_r3⟩,p_ms,p_ls,p_is⟩:Prog) sk l i hl hs) (np S 120 (by decide)) A nb
end
variable {E:Env} {fn:FuncId->Option (Env->cT->cT)}
section
variable (S:Sur E fn)
include S
theorem Zaz (dp:Nat)(l:List Int)(x:Int)(hl:l.length<1073741823):Z7 E fn (dp+1) 121 [rD l,vi x] (rD (Md.push l x)):=by
 unfold Z7
 show Zz (Z5 E fn (dp+1) 121 [.d (rD l),.d (vi x)] [])=_
 rw[Yx,S.Z4j,Yw,Z84,Yq _ _ _ _ _ _ _ _ rfl]
 by_cases h0:l.length=0
 ·have : l = [] := List.length_eq_zero_iff.1 h0
  subst this
  have bd:=Z6y 1 .i64 0 (by omega) (by omega)
  have w1:max (IntKind.i64.wrap (((0+1:Nat):Int)-2)) 0=0:=by decide
  simp only[eG,go_sem,Z2 S,Z1 S,Nat.reduceLT,Nat.reduceEqDiff,Nat.reduceAdd,Nat.reduceMul,Nat.reduceLeDiff,Int.reduceEq,Int.reduceLT,Int.reduceLE,Int.reduceNeg,reduceCtorEq,YE,Zq,CA (cs:=[]),ne_eq,Nat.succ_ne_zero,not_false_eq_true,show(1:Nat)*8<=Z4 by decide,show(1:Nat)<=Z4 by decide,Int.natCast_one,Nat.zero_add,Int.reduceSub,show IntKind.i64.wrap (-1)= -1 by decide,show max (-1:Int) 0=0 by decide,bd,Int.toNat_zero,and_false,not_true_eq_false,false_and,Nat.zero_mul,Nat.sub_zero,Nat.add_zero,Md.push,List.drop_zero,YJ,Nat.one_mul,Nat.le_refl,Nat.zero_ne_one,Nat.one_ne_zero]
  rfl
 ·have l1 : l.length * 8 <= Z4 := by unfold Z4; omega
  have l2:l.length<=Z4:=by unfold Z4;omega
  have l3:(((rC l).map AV.d).all AV.one)=true:=HR _
  have l4:(l.length+1)*8<=Z4:=by unfold Z4;omega
  have l5:l.length+1<=Z4:=by unfold Z4;omega
  have w1:max (IntKind.i64.wrap (((l.length+1:Nat):Int)-2)) 0=((l.length-1:Nat):Int):=by rw[YM (by omega) (by omega)];omega
  have bd:=Z6y (l.length+1) .i64 ((l.length-1:Nat):Int) (by omega) (by omega)
  have n1:¬(l.length-1=l.length+1):=by omega
  simp only[eG,go_sem,Z2 S,Z1 S,Nat.reduceLT,Nat.reduceEqDiff,Nat.reduceAdd,Nat.reduceMul,Nat.reduceLeDiff,Int.reduceEq,Int.reduceLT,Int.reduceLE,Int.reduceNeg,reduceCtorEq,YE,Zq,CA (cs:=[]),l1,l2,l3,ne_eq,h0,not_false_eq_true,RK,l4,l5,w1,bd,Int.toNat_natCast,n1,false_and,Nat.mul_one,Nat.zero_add]
  have e1:l++[x]=(l++[x]).take (l.length-1)++((l++[x]).drop (l.length-1)++[]):=by rw[List.append_nil,List.take_append_drop]
  have hd:∀ j A,A[j]? =some (.cells ((rC (l++[x])).map .d) 0 false)->deep A 8 (.sref j 0 (l.length-1) (l.length+1-(l.length-1)) 1 none)=some (.lst (rC ((l++[x]).drop (l.length-1))) (l.length+1-(l.length-1)) none,[j]):=by
   intro j A hA
   refine WF (pre:=(l++[x]).take (l.length-1)) (junk:=[]) (by rw[<-e1];exact hA) ?_ 6 _ _ _ _ rfl ?_ ?_
   ·intro h
    have:=congrArg List.length h
    simp at this
    omega
   ·simp[Ze3];omega
   ·simp
  have:=hd 0 [.cells ((rC (l++[x])).map .d) 0 false] rfl
  rw[this]
  have e2:l.length+1-(l.length-1)=(Md.push l x).length:=by simp[Md.push]
  rw[e2]
  rfl
theorem Gw (dp:Nat)(l:List Int)(x:Int)(hl:l.length<1073741823)(A:List Blk)(nb:Nat):ZX false E (Z5 E fn (dp+1)) 121 A nb (some ([rD l,vi x],[]))=some (.made (.d (rD (Md.push l x))) []):=
 Z7.deep (Zaz S dp l x hl) (np S 121 (by decide)) A nb
end
theorem VM {l:List Int}(h:l.length≠0):l[l.length-1]? =some (Md.G1 l):=by
 unfold Md.G1
 rw[List.getLast?_eq_getElem?]
 obtain⟨e,he⟩:=QB (show l.length-1<l.length by omega)
 rw[he];rfl
theorem VG {A:List Blk}{i:Nat}{b:Blk}(h:A[i]? =some b):¬A.length<=i:=by
 intro hl
 rw[List.getElem?_eq_none hl] at h
 cases h
theorem Zj6 {L:List Ent}{A:List Blk}{j v len:Nat}{k:Option Nat}{r0 r1 r2 r3 mm sk pc rb en x:DV}
  (hA:A[j]? =some (.cells ((rC L).map .d) v false)) (h0:L≠[]) (hl:len=L.length) (f0:[r0,r1,r2,r3,mm,sk,pc,rb,en].map (fk 2)=[r0,r1,r2,r3,mm,sk,pc,rb,en]) (fx:fk 3 x=x):
  Zz (Cj 0 (some (.tup [.agg [.d r0,.d r1,.d r2,.d r3,.d mm,.d sk,.d pc,.sref j v 0 len 8 k,.d rb,.d en],.d x],A)))=some (.tup [.agg [r0,r1,r2,r3,mm,sk,pc,rD L,rb,en],x]):=by
 subst hl
 have hi:=VG hA
 have hd:=Ck L h0 L.length rfl 4 8 k rfl
 simp only[List.map_cons,List.map_nil,List.cons.injEq,and_true] at f0
 simp only[eG,go_sem,Mv,hA,hi,List.not_mem_nil,false_or,or_false,Nat.not_lt_zero,if_false,hd,f0,fx]
 rfl
theorem Zj5 {L:List Ent}{R:List Int}{A:List Blk}{j v len j2 v2 len2:Nat}{k k2:Option Nat}{r0 r1 r2 r3 mm sk pc en x:DV}
  (hA:A[j]? =some (.cells ((rC L).map .d) v false)) (h0:L≠[]) (hl:len=L.length) (hB:A[j2]? =some (.cells ((rC R).map .d) v2 false)) (h2:len2=R.length) (hj:j≠j2) (f0:[r0,r1,r2,r3,mm,sk,pc,en].map (fk 2)=[r0,r1,r2,r3,mm,sk,pc,en]) (fx:fk 3 x=x):
  Zz (Cj 0 (some (.tup [.agg [.d r0,.d r1,.d r2,.d r3,.d mm,.d sk,.d pc,.sref j v 0 len 8 k,.sref j2 v2 0 len2 1 k2,.d en],.d x],A)))=some (.tup [.agg [r0,r1,r2,r3,mm,sk,pc,rD L,rD R,en],x]):=by
 subst hl h2
 have hi:=VG hA
 have hi2:=VG hB
 have hj':j2≠j:=fun e=>hj e.symm
 have hd:deep [.cells ((rC L).map .d) 0 false,.cells ((rC R).map .d) 0 false] 6 (.sref 0 0 0 L.length 8 k)=some (.lst (rC L) L.length k,[0]):=Cq rfl h0 4 _ 8 k rfl rfl
 simp only[List.map_cons,List.map_nil,List.cons.injEq,and_true] at f0
 by_cases hR:R=[]
 ·subst hR
  simp only[eG,go_sem,Mv,hA,hB,hi,hi2,hj,hj',List.not_mem_nil,List.mem_cons,false_or,or_false,Nat.not_lt_zero,if_false,f0,fx] at hd ⊢
  simp only[hd,go_sem,f0,fx]
  rfl
 ·have hd2 : deep [.cells ((rC L).map .d) 0 false, .cells ((rC R).map .d) 0 false] 6 (.sref 1 0 0 R.length 1 k2) = some (.lst (rC R) R.length k2, [1]) := Cq rfl hR 4 _ 1 k2 rfl rfl
  simp only[eG,go_sem,Mv,hA,hB,hi,hi2,hj,hj',List.not_mem_nil,List.mem_cons,false_or,or_false,Nat.not_lt_zero,if_false,hd,hd2,f0,fx]
  rfl
theorem AS {l:List Ent}{e:Ent}{D:DV}{A:List Blk}{j v len:Nat}{k:Option Nat}{r0 r1 r2 r3 mm sk pc rb en x:DV}
  (hA:A[j]? =some (.cells ((rC (l++[e])).map .d) v false)) (hD:D=.tup [.agg [r0,r1,r2,r3,mm,sk,pc,rD (l++[e]),rb,en],x]) (f0:[r0,r1,r2,r3,mm,sk,pc,rb,en].map (fk 2)=[r0,r1,r2,r3,mm,sk,pc,rb,en]) (hl:len=(l++[e]).length) (fx:fk 3 x=x) (_:0=0):
  Zz (Cj 0 (some (.tup [.agg [.d r0,.d r1,.d r2,.d r3,.d mm,.d sk,.d pc,.sref j v 0 len 8 k,.d rb,.d en],.d x],A)))=some D:=by
 rw[hD];exact Zj6 hA (by simp) hl f0 fx
theorem U1 {l:List Ent}{e:Ent}{R:List Int}{D:DV}{A:List Blk}{j v len j2 v2 len2:Nat}{k k2:Option Nat}{r0 r1 r2 r3 mm sk pc en x:DV}
  (hA:A[j]? =some (.cells ((rC (l++[e])).map .d) v false)) (hB:A[j2]? =some (.cells ((rC R).map .d) v2 false)) (hD:D=.tup [.agg [r0,r1,r2,r3,mm,sk,pc,rD (l++[e]),rD R,en],x]) (hj:j≠j2) (hl:len=(l++[e]).length) (f0:[r0,r1,r2,r3,mm,sk,pc,en].map (fk 2)=[r0,r1,r2,r3,mm,sk,pc,en]) (fx:fk 3 x=x) (h2:len2=R.length:=by first | rfl | simp):
  Zz (Cj 0 (some (.tup [.agg [.d r0,.d r1,.d r2,.d r3,.d mm,.d sk,.d pc,.sref j v 0 len 8 k,.sref j2 v2 0 len2 1 k2,.d en],.d x],A)))=some D:=by
 rw[hD];exact Zj5 hA (by simp) hl hB h2 hj f0 fx
def R3 (p:Prog)(c:Conf)(g:Int):Conf:=bif Md.Ew p c g then Md.fetch p c g else Md.Eq
variable {E:Env} {fn:FuncId->Option (Env->cT->cT)}
section
variable (S:Sur E fn)
include S
theorem E4:E.lives 75 7=none/\E.lives 75 19=none/\E.lives 75 21=none/\E.lives 75 25=none/\E.lives 75 29=none/\E.lives 75 33=none/\E.lives 75 39=none/\E.lives 75 45=none/\E.lives 75 53=none/\E.lives 75 55=none:=⟨off S 75 7 (by decide) rfl,off S 75 19 (by decide) rfl,off S 75 21 (by decide) rfl,off S 75 25 (by decide) rfl,off S 75 29 (by decide) rfl,off S 75 33 (by decide) rfl,off S 75 39 (by decide) rfl,off S 75 45 (by decide) rfl,off S 75 53 (by decide) rfl,off S 75 55 (by decide) rfl⟩
theorem Zb5 (dp:Nat)(p:Prog)(c:Conf)(g:Int)(hi:p.ins.length<1073741824)(hb:c.buf.length<1073741823)(hs:c.state.stack.length<1073741824)(hr:c.rsb.length<1073741823):Z7 E fn (dp+3) 75 [ZP p,ZY c,vi g] (.tup [ZY (R3 p c g),vb (Md.Ew p c g)]):=by
 unfold Z7
 show Zz (Z5 E fn (dp+2+1) 75 [.d (ZP p),.d (ZY c),.d (vi g)] [])=_
 rw[Yx,S.Z4p,Yw,Z8a,Yq _ _ _ _ _ _ _ _ rfl]
 have hb':c.buf.length<1073741824:=by omega
 by_cases g0:g<0
 ·simp only[eG,go_sem,Z2 S,Z1 S,zN0,zN1,zN2,zN3,zN4,zI0,zI1,zI2,zI3,reduceCtorEq,E4 S,g0,R3,Md.Ew,show ¬0<=g by omega,Md.Eq]
 by_cases g1:g>=Md.J7 p c
 ·simp only[eG,go_sem,Z2 S,Z1 S,zN0,zN1,zN2,zN3,zN4,zI0,zI1,zI2,zI3,reduceCtorEq,E4 S,g0,g1,R3,Md.Ew,show ¬g<Md.J7 p c by omega,Md.Eq,CN S,hi]
 have hc:Md.Ew p c g=true:=by simp[Md.Ew];omega
 unfold R3
 rw[hc,cond_true]
 by_cases h0:c.buf.length=0
 ·have hbn : c.buf = [] := List.length_eq_zero_iff.1 h0
  simp only[go_sem,Z2 S,Z1 S,zN0,zN1,zN2,zN3,zN4,zI0,zI1,zI2,zI3,reduceCtorEq,E4 S,g0,g1,CN S,hi,Zv S,QY S,Gw S,hb,hb',hs,hr,YE,Zq,show(1:Nat)*48<=Z4 by decide,show(1:Nat)<=Z4 by decide,ne_eq,not_false_eq_true,Nat.one_ne_zero,Md.Y1,Md.fetch,Md.J8,if_true,if_false,EC,CA (cs:=[]),false_and,and_false,h0]
  by_cases k5:(Md.at_ p c.state.pc).kind=5
  ·by_cases hg : g = 1
   ·simp only [k5, hg, decide_true, decide_false, cond_true, cond_false, if_true, if_false, zI0, or_self, or_true, true_or]
    rw[hbn]
    refine AS (l:=[]) ?_ rfl rfl ?_ rfl rfl
    ·rfl
    ·first | rfl | simp
   ·simp only [k5, hg, decide_true, decide_false, cond_true, cond_false, if_true, if_false, zI0, or_self, or_true, true_or]
    rw[hbn]
    refine AS (l:=[]) ?_ rfl rfl ?_ rfl rfl
    ·rfl
    ·first | rfl | simp
  by_cases k6:(Md.at_ p c.state.pc).kind=6
  ·simp only [k6, decide_true, decide_false, cond_true, cond_false, if_true, if_false, zI0, or_self, or_true, true_or]
   rw[hbn]
   refine AS (l:=[]) ?_ rfl rfl ?_ rfl rfl
   ·rfl
   ·first | rfl | simp
  by_cases k7:(Md.at_ p c.state.pc).kind=7
  ·simp only [k7, decide_true, decide_false, cond_true, cond_false, if_true, if_false, zI0, or_self, or_true, true_or]
   rw[hbn]
   refine AS (l:=[]) ?_ rfl rfl ?_ rfl rfl
   ·rfl
   ·first | rfl | simp
  by_cases k9:(Md.at_ p c.state.pc).kind=9
  ·by_cases hz : c.rsb.length = 0
   ·simp only [k9, hz, decide_true, decide_false, cond_true, cond_false, if_true, if_false, zI0, or_self, or_true, true_or, show ¬ ((0 : Nat) : Int) > 0 by omega]
    rw[hbn]
    refine AS (l:=[]) ?_ rfl rfl ?_ rfl rfl
    ·rfl
    ·first | rfl | simp
   ·have w2 : IntKind.i64.wrap ((c.rsb.length : Int) - 1) = ((c.rsb.length - 1 : Nat) : Int) := by rw [YM (by omega) (by omega)]; omega
    have bd:=MG c.rsb.length .i64 ((c.rsb.length-1:Nat):Int) (by omega) (by omega)
    have hlast:=VM hz
    have hdl:c.rsb.take (c.rsb.length-1)=c.rsb.dropLast:=List.dropLast_eq_take.symm
    simp only[k9,hz,decide_true,decide_false,cond_true,cond_false,if_true,if_false,zI0,or_self,or_true,true_or,show(c.rsb.length:Int)>0 by omega]
    by_cases hq:c.rsb.dropLast.length=0
    ·have hq2 : c.rsb.dropLast = [] := List.length_eq_zero_iff.1 hq
     simp only[go_sem,Z2 S,Z1 S,zN0,zN1,zN2,zN3,zN4,zI0,zI1,zI2,zI3,reduceCtorEq,E4 S,g0,g1,CN S,hi,Zv S,QY S,Gw S,hb,hb',hs,hr,YE,Zq,show(1:Nat)*48<=Z4 by decide,show(1:Nat)<=Z4 by decide,ne_eq,not_false_eq_true,Nat.one_ne_zero,Md.Y1,Md.fetch,Md.J8,if_true,if_false,EC,CA (cs:=[]),false_and,and_false,h0,w2,bd,ZF hlast,Int.toNat_natCast,List.drop_zero,Nat.sub_zero,hdl,hq2]
     rw[hbn]
     refine U1 (l:=[]) (R:=[]) ?_ ?_ rfl ?_ ?_ rfl rfl ?_
     ·rfl
     ·rfl
     ·decide
     ·first | rfl | simp
     ·first | rfl | simp
    ·have q1 : c.rsb.dropLast.length * 8 <= Z4 := by unfold Z4; simp; omega
     have q2:c.rsb.dropLast.length<=Z4:=by unfold Z4;simp;omega
     have q3:(((rC c.rsb.dropLast).map AV.d).all AV.one)=true:=HR _
     simp only[go_sem,Z2 S,Z1 S,zN0,zN1,zN2,zN3,zN4,zI0,zI1,zI2,zI3,reduceCtorEq,E4 S,g0,g1,CN S,hi,Zv S,QY S,Gw S,hb,hb',hs,hr,YE,Zq,show(1:Nat)*48<=Z4 by decide,show(1:Nat)<=Z4 by decide,ne_eq,not_false_eq_true,Nat.one_ne_zero,Md.Y1,Md.fetch,Md.J8,if_true,if_false,EC,CA (cs:=[]),false_and,and_false,h0,w2,bd,ZF hlast,Int.toNat_natCast,List.drop_zero,Nat.sub_zero,hdl,hq,q1,q2,q3]
     rw[hbn]
     refine U1 (l:=[]) (R:=c.rsb.dropLast) ?_ ?_ rfl ?_ ?_ rfl rfl ?_
     ·rfl
     ·rfl
     ·decide
     ·first | rfl | simp
     ·first | rfl | simp
  by_cases k8:(Md.at_ p c.state.pc).kind=8
  ·simp only [k8, decide_true, decide_false, cond_true, cond_false, if_true, if_false, zI0, or_self, or_true, true_or]
   cases hreal:Md.real p c.state.stack c.buf c.buf.length with
   | none=>
    rw[h0] at hreal
    have hr4:=hreal
    simp only[go_sem,Z2 S,Z1 S,zN0,zN1,zN2,zN3,zN4,zI0,zI1,zI2,zI3,reduceCtorEq,E4 S,g0,g1,CN S,hi,Zv S,QY S,Gw S,hb,hb',hs,hr,YE,Zq,show(1:Nat)*48<=Z4 by decide,show(1:Nat)<=Z4 by decide,ne_eq,not_false_eq_true,Nat.one_ne_zero,Md.Y1,Md.fetch,Md.J8,if_true,if_false,EC,CA (cs:=[]),false_and,and_false,h0,hreal,F0,MF,hr4]
    rw[hbn]
    refine AS (l:=[]) ?_ rfl rfl ?_ rfl rfl
    ·rfl
    ·first | rfl | simp
   | some r=>
    have hr4:decide ((r.length:Int)>=4)=decide (4<=r.length):=decide_eq_decide.2 (by omega)
    rw[h0] at hreal
    simp only[go_sem,Z2 S,Z1 S,zN0,zN1,zN2,zN3,zN4,zI0,zI1,zI2,zI3,reduceCtorEq,E4 S,g0,g1,CN S,hi,Zv S,QY S,Gw S,hb,hb',hs,hr,YE,Zq,show(1:Nat)*48<=Z4 by decide,show(1:Nat)<=Z4 by decide,ne_eq,not_false_eq_true,Nat.one_ne_zero,Md.Y1,Md.fetch,Md.J8,if_true,if_false,EC,CA (cs:=[]),false_and,and_false,h0,hreal,F0,MF,hr4]
    rw[hbn]
    refine AS (l:=[]) ?_ rfl rfl ?_ rfl rfl
    ·rfl
    ·first | rfl | simp
  by_cases k11:(Md.at_ p c.state.pc).kind=11
  ·simp only [k11, decide_true, decide_false, cond_true, cond_false, if_true, if_false, zI0, or_self, or_true, true_or]
   rw[hbn]
   refine AS (l:=[]) ?_ rfl rfl ?_ rfl rfl
   ·rfl
   ·first | rfl | simp
  by_cases k12:(Md.at_ p c.state.pc).kind=12
  ·simp only [k12, decide_true, decide_false, cond_true, cond_false, if_true, if_false, zI0, or_self, or_true, true_or]
   rw[hbn]
   refine AS (l:=[]) ?_ rfl rfl ?_ rfl rfl
   ·rfl
   ·first | rfl | simp
  ·simp only [k5, k6, k7, k8, k9, k11, k12, decide_true, decide_false, cond_true, cond_false, if_true, if_false, zI0, or_self, or_true, true_or]
   rw[hbn]
   refine AS (l:=[]) ?_ rfl rfl ?_ rfl rfl
   ·rfl
   ·first | rfl | simp
 ·have l1 : c.buf.length * 48 <= Z4 := by unfold Z4; omega
  have l2:c.buf.length<=Z4:=by unfold Z4;omega
  have l3:(((rC c.buf).map AV.d).all AV.one)=true:=HR _
  have l4:(c.buf.length+1)*48<=Z4:=by unfold Z4;omega
  have l5:c.buf.length+1<=Z4:=by unfold Z4;omega
  simp only[go_sem,Z2 S,Z1 S,zN0,zN1,zN2,zN3,zN4,zI0,zI1,zI2,zI3,reduceCtorEq,E4 S,g0,g1,CN S,hi,Zv S,QY S,Gw S,hb,hb',hs,hr,YE,Zq,show(1:Nat)*48<=Z4 by decide,show(1:Nat)<=Z4 by decide,ne_eq,not_false_eq_true,Nat.one_ne_zero,Md.Y1,Md.fetch,Md.J8,if_true,if_false,EC,CA (cs:=[]),false_and,and_false,h0,l1,l2,l3,l4,l5]
  by_cases k5:(Md.at_ p c.state.pc).kind=5
  ·by_cases hg : g = 1
   ·simp only [k5, hg, decide_true, decide_false, cond_true, cond_false, if_true, if_false, zI0, or_self, or_true, true_or]
    refine AS (l:=c.buf) ?_ rfl rfl ?_ rfl rfl
    ·rfl
    ·first | rfl | simp
   ·simp only [k5, hg, decide_true, decide_false, cond_true, cond_false, if_true, if_false, zI0, or_self, or_true, true_or]
    refine AS (l:=c.buf) ?_ rfl rfl ?_ rfl rfl
    ·rfl
    ·first | rfl | simp
  by_cases k6:(Md.at_ p c.state.pc).kind=6
  ·simp only [k6, decide_true, decide_false, cond_true, cond_false, if_true, if_false, zI0, or_self, or_true, true_or]
   refine AS (l:=c.buf) ?_ rfl rfl ?_ rfl rfl
   ·rfl
   ·first | rfl | simp
  by_cases k7:(Md.at_ p c.state.pc).kind=7
  ·simp only [k7, decide_true, decide_false, cond_true, cond_false, if_true, if_false, zI0, or_self, or_true, true_or]
   refine AS (l:=c.buf) ?_ rfl rfl ?_ rfl rfl
   ·rfl
   ·first | rfl | simp
  by_cases k9:(Md.at_ p c.state.pc).kind=9
  ·by_cases hz : c.rsb.length = 0
   ·simp only [k9, hz, decide_true, decide_false, cond_true, cond_false, if_true, if_false, zI0, or_self, or_true, true_or, show ¬ ((0 : Nat) : Int) > 0 by omega]
    refine AS (l:=c.buf) ?_ rfl rfl ?_ rfl rfl
    ·rfl
    ·first | rfl | simp
   ·have w2 : IntKind.i64.wrap ((c.rsb.length : Int) - 1) = ((c.rsb.length - 1 : Nat) : Int) := by rw [YM (by omega) (by omega)]; omega
    have bd:=MG c.rsb.length .i64 ((c.rsb.length-1:Nat):Int) (by omega) (by omega)
    have hlast:=VM hz
    have hdl:c.rsb.take (c.rsb.length-1)=c.rsb.dropLast:=List.dropLast_eq_take.symm
    simp only[k9,hz,decide_true,decide_false,cond_true,cond_false,if_true,if_false,zI0,or_self,or_true,true_or,show(c.rsb.length:Int)>0 by omega]
    by_cases hq:c.rsb.dropLast.length=0
    ·have hq2 : c.rsb.dropLast = [] := List.length_eq_zero_iff.1 hq
     simp only[go_sem,Z2 S,Z1 S,zN0,zN1,zN2,zN3,zN4,zI0,zI1,zI2,zI3,reduceCtorEq,E4 S,g0,g1,CN S,hi,Zv S,QY S,Gw S,hb,hb',hs,hr,YE,Zq,show(1:Nat)*48<=Z4 by decide,show(1:Nat)<=Z4 by decide,ne_eq,not_false_eq_true,Nat.one_ne_zero,Md.Y1,Md.fetch,Md.J8,if_true,if_false,EC,CA (cs:=[]),false_and,and_false,h0,l1,l2,l3,l4,l5,w2,bd,ZF hlast,Int.toNat_natCast,List.drop_zero,Nat.sub_zero,hdl,hq2]
     refine U1 (l:=c.buf) (R:=[]) ?_ ?_ rfl ?_ ?_ rfl rfl ?_
     ·rfl
     ·rfl
     ·decide
     ·first | rfl | simp
     ·first | rfl | simp
    ·have q1 : c.rsb.dropLast.length * 8 <= Z4 := by unfold Z4; simp; omega
     have q2:c.rsb.dropLast.length<=Z4:=by unfold Z4;simp;omega
     have q3:(((rC c.rsb.dropLast).map AV.d).all AV.one)=true:=HR _
     simp only[go_sem,Z2 S,Z1 S,zN0,zN1,zN2,zN3,zN4,zI0,zI1,zI2,zI3,reduceCtorEq,E4 S,g0,g1,CN S,hi,Zv S,QY S,Gw S,hb,hb',hs,hr,YE,Zq,show(1:Nat)*48<=Z4 by decide,show(1:Nat)<=Z4 by decide,ne_eq,not_false_eq_true,Nat.one_ne_zero,Md.Y1,Md.fetch,Md.J8,if_true,if_false,EC,CA (cs:=[]),false_and,and_false,h0,l1,l2,l3,l4,l5,w2,bd,ZF hlast,Int.toNat_natCast,List.drop_zero,Nat.sub_zero,hdl,hq,q1,q2,q3]
     refine U1 (l:=c.buf) (R:=c.rsb.dropLast) ?_ ?_ rfl ?_ ?_ rfl rfl ?_
     ·rfl
     ·rfl
     ·decide
     ·first | rfl | simp
     ·first | rfl | simp
  by_cases k8:(Md.at_ p c.state.pc).kind=8
  ·simp only [k8, decide_true, decide_false, cond_true, cond_false, if_true, if_false, zI0, or_self, or_true, true_or]
   cases hreal:Md.real p c.state.stack c.buf c.buf.length with
   | none=>
    have hr4:=hreal
    simp only[go_sem,Z2 S,Z1 S,zN0,zN1,zN2,zN3,zN4,zI0,zI1,zI2,zI3,reduceCtorEq,E4 S,g0,g1,CN S,hi,Zv S,QY S,Gw S,hb,hb',hs,hr,YE,Zq,show(1:Nat)*48<=Z4 by decide,show(1:Nat)<=Z4 by decide,ne_eq,not_false_eq_true,Nat.one_ne_zero,Md.Y1,Md.fetch,Md.J8,if_true,if_false,EC,CA (cs:=[]),false_and,and_false,h0,l1,l2,l3,l4,l5,hreal,F0,MF,hr4]
    refine AS (l:=c.buf) ?_ rfl rfl ?_ rfl rfl
    ·rfl
    ·first | rfl | simp
   | some r=>
    have hr4:decide ((r.length:Int)>=4)=decide (4<=r.length):=decide_eq_decide.2 (by omega)
    simp only[go_sem,Z2 S,Z1 S,zN0,zN1,zN2,zN3,zN4,zI0,zI1,zI2,zI3,reduceCtorEq,E4 S,g0,g1,CN S,hi,Zv S,QY S,Gw S,hb,hb',hs,hr,YE,Zq,show(1:Nat)*48<=Z4 by decide,show(1:Nat)<=Z4 by decide,ne_eq,not_false_eq_true,Nat.one_ne_zero,Md.Y1,Md.fetch,Md.J8,if_true,if_false,EC,CA (cs:=[]),false_and,and_false,h0,l1,l2,l3,l4,l5,hreal,F0,MF,hr4]
    refine AS (l:=c.buf) ?_ rfl rfl ?_ rfl rfl
    ·rfl
    ·first | rfl | simp
  by_cases k11:(Md.at_ p c.state.pc).kind=11
  ·simp only [k11, decide_true, decide_false, cond_true, cond_false, if_true, if_false, zI0, or_self, or_true, true_or]
   refine AS (l:=c.buf) ?_ rfl rfl ?_ rfl rfl
   ·rfl
   ·first | rfl | simp
  by_cases k12:(Md.at_ p c.state.pc).kind=12
  ·simp only [k12, decide_true, decide_false, cond_true, cond_false, if_true, if_false, zI0, or_self, or_true, true_or]
   refine AS (l:=c.buf) ?_ rfl rfl ?_ rfl rfl
   ·rfl
   ·first | rfl | simp
  ·simp only [k5, k6, k7, k8, k9, k11, k12, decide_true, decide_false, cond_true, cond_false, if_true, if_false, zI0, or_self, or_true, true_or]
   refine AS (l:=c.buf) ?_ rfl rfl ?_ rfl rfl
   ·rfl
   ·first | rfl | simp
end
section
variable (S:Sur E fn)
include S
theorem Z28:E.lives 123 7=none:=off S 123 7 (by decide) rfl
theorem G4 (dp:Nat)(l:List Ent)(e:Ent)(i to r0 r1 r2 r3 pc en:Int)(mm sk rb:List Int)(h0:0<=i)(h1:i.toNat<l.length)(hl:l.length<1073741824):
  Z5 E fn (dp+1) 123 [.agg [.d (vi r0),.d (vi r1),.d (vi r2),.d (vi r3),.d (rD mm),.d (rD sk),.d (vi pc),.sref 0 0 0 l.length 8 none,.d (rD rb),.d (vi en)],.d (vi i),.d (vi to)] [.cells ((rC (l.set i.toNat e)).map .d) 0 false]=
  bif decide (e.next=to) then some (.tup [.agg [.d (vi r0),.d (vi r1),.d (vi r2),.d (vi r3),.d (rD mm),.d (rD sk),.d (vi pc),.sref 0 0 0 l.length 8 none,.d (rD rb),.d (vi en)],.d (.lst [vi 3,vi to] 1 (some 1))],[.cells ((rC (l.set i.toNat e)).map .d) 0 false])
  else some (.tup [.agg [.d (vi r0),.d (vi r1),.d (vi r2),.d (vi r3),.d (rD mm),.d (rD sk),.d (vi to),.sref 0 0 0 (i.toNat+1) 8 none,.d (rD rb),.d (vi en)],.d (.lst [vi 3,vi to] 1 (some 1))],[.cells ((rC (l.set i.toNat { e with next:=to })).map .d) 0 false]):=by
 have hi:i<l.length:=by omega
 have w1:IntKind.i64.wrap (i+1)=i+1:=YM (by omega) (by omega)
 have bd:=MG l.length .i64 (i+1) (by omega) (by omega)
 have t1:(i+1).toNat=i.toNat+1:=by omega
 rw[Yx,S.Z4d,Yw,Z7y,Yq _ _ _ _ _ _ _ _ rfl]
 by_cases h:e.next=to
 ·simp only[go_sem,Z2 S,Z1 S,Nat.reduceLT,Nat.reduceEqDiff,Nat.reduceAdd,Nat.reduceMul,Nat.reduceLeDiff,Int.reduceEq,Int.reduceLT,Int.reduceLE,Int.reduceNeg,reduceCtorEq,Z28 S,Z5q,Z0b,Z0c,Z1g,Z1h,List.take_succ_cons,List.take_zero,ZB,ZC,ZD,ZE,Zq,Option.map_some,h0,hi,Z36 h1,h,Bool.not_true,Nat.zero_add]
 ·simp only[go_sem,Z2 S,Z1 S,Nat.reduceLT,Nat.reduceEqDiff,Nat.reduceAdd,Nat.reduceMul,Nat.reduceLeDiff,Int.reduceEq,Int.reduceLT,Int.reduceLE,Int.reduceNeg,reduceCtorEq,Z28 S,Z5q,Z0b,Z0c,Z1g,Z1h,List.take_succ_cons,List.take_zero,ZB,ZC,ZD,ZE,Zq,Option.map_some,h0,hi,Z36 h1,h,Bool.not_false,Nat.zero_add,Z93 h1,w1,bd,t1,Nat.zero_mul,Nat.add_zero,Nat.sub_zero,Option.map_none,ne_eq,not_true_eq_false,and_false]
end
def ZT (l:List MemT):Int:=(l.map fun m=>min (max m.n 0) 16).sum
theorem MC:∀ l:List MemT,0<=ZT l/\ZT l<=16*l.length
 | []=>by simp[ZT]
 | m::l=>by
  have:=MC l
  simp only[ZT,List.map_cons,List.sum_cons,List.length_cons] at this ⊢
  omega
theorem WM {l:List MemT}{i:Nat}{m:MemT}(h:l[i]? =some m):ZT (l.take (i+1))=ZT (l.take i)+min (max m.n 0) 16:=by
 unfold ZT
 rw[Z03 h,List.map_append,List.sum_append]
 simp
variable {E:Env} {fn:FuncId->Option (Env->cT->cT)}
section
variable (S:Sur E fn)
include S
end
section
variable (S:Sur E fn)
include S
end
end Go.Aug.Mc
