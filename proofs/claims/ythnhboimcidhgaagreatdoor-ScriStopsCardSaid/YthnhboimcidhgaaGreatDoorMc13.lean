import Derived.Test.YthnhboimcidhgaaGreatDoorMc10
import Derived.Test.YthnhboimcidhgaaGreatDoorMc6
namespace Go.Aug.Mc
open Go Go.Aug
open Nat renaming reduceLT -> zN0, reduceEqDiff -> zN1, reduceAdd -> zN2, reduceMul -> zN3, reduceLeDiff -> zN4
open Int renaming reduceEq -> zI0, reduceLT -> zI1, reduceLE -> zI2, reduceNeg -> zI3
set_option linter.unusedSimpArgs false
set_option linter.unusedVariables false
set_option maxHeartbeats 40000000
variable {E:Env} {fn:FuncId->Option (Env->cT->cT)}
section
variable (S:Sur E fn)
include S
theorem Z2h:E.lives 207 1=none/\E.lives 207 19=none/\E.lives 207 25=none:=⟨off S 207 1 (by decide) rfl,off S 207 19 (by decide) rfl,off S 207 25 (by decide) rfl⟩
theorem Z2i:E.lives 155 1=none/\E.lives 155 15=none:=⟨off S 155 1 (by decide) rfl,off S 155 15 (by decide) rfl⟩
theorem Zr3 (dp:Nat)(p:Prog)(mem:List Int)(l:List Ent)(addr:Int)(hl:l.length<1073741824)(kx:Nat->K)
  (hx:∀ T,Z01 .bot T 1=.d (rD mem)->Z01 .bot T 4=aI addr->∀ A,Zh (kx 0 (mk .bot 65 T) (.cells ((Yd p).map .d) 0 false::A))=some (.tup [vi (Md.loadGo p mem addr []).1,vi (Md.loadGo p mem addr []).2.1,vb (Md.loadGo p mem addr []).2.2])):
  ∀(k fuel:Nat),k<=l.length->k<fuel->Zh (Z15 (inn E 207) (evC E fn (dp+1)) (Zi 8 Z15 (inn E 207) (evC E fn (dp+1)) kx (Z0u 0 [.tmp 10,.tmp 11,.tmp 12]) fuel) kx (Z0u 0 [.tmp 10,.tmp 11,.tmp 12])
   (mk .bot 65 [(1,.d (rD mem)),(4,aI addr),(5,.ref 0 0 0),(13,.d (rD l)),(14,aI ((k:Int)-1))]) [.cells ((Yd p).map .d) 0 false])=
   some (.tup [vi (Md.loadGo p mem addr (l.take k).reverse).1,vi (Md.loadGo p mem addr (l.take k).reverse).2.1,vb (Md.loadGo p mem addr (l.take k).reverse).2.2]):=by
 intro k
 induction k with
 | zero=>
  intro fuel _ hf
  generalize Zi 8 Z15 _ _ kx _ fuel=KK
  rw[Z15]
  simp only[eG,go_sem,thq S,nbr S,zN0,zN1,zN2,zN3,zN4,zI0,zI1,zI2,zI3,reduceCtorEq,Z2h S,show ¬(((0:Nat):Int)-1>=0) by omega,List.take_zero,List.reverse_nil]
  exact hx _ rfl rfl []
 | succ k ih=>
  intro fuel hk hf
  obtain⟨e,he⟩:=Yz (show k<l.length by omega)
  obtain⟨fuel,rfl⟩:∃ m,fuel=m+1:=⟨fuel-1,by omega⟩
  rw[show(((k+1:Nat):Int)-1)=(k:Int) by omega,Zbo he]
  generalize hK:Zi 8 Z15 _ _ kx _ (fuel+1)=KK
  rw[Z15]
  have hlen:(l.take k).reverse.length=k:=by simp;omega
  by_cases h1:(Md.at_ p e.pc).kind=3
  ·cases h2 : e.known with
   | true=>
    by_cases h3:e.addr=addr
    ·cases h4:e.done<;>simp only[eG,go_sem,thq S,nbr S,zN0,zN1,zN2,zN3,zN4,zI0,zI1,zI2,zI3,reduceCtorEq,Z2h S,Q4 he,Z8 S,Int.natCast_nonneg,ge_iff_le,wd k (by omega),Bool.not_true,Bool.not_false,h1,h2,eq_true h3,h4,Md.loadGo,Md.hitS,hlen]
    ·simp only [eG, go_sem, thq S, nbr S, zN0, zN1, zN2, zN3, zN4, zI0, zI1, zI2, zI3, reduceCtorEq, Z2h S, Q4 he, Z8 S, Int.natCast_nonneg, ge_iff_le, wd k (by omega), Bool.not_true, Bool.not_false, h1, h2, eq_false h3, Md.loadGo, Md.hitS]
     rw[<-hK,Z1 (on S _ _ [1,4,5,13,14] (by decide) rfl) rfl _ _ _ _ _ _ _ _ _ rfl]
     simp only[eG,go_sem,thq S,nbr S,zN0,zN1,zN2,zN3,zN4,zI0,zI1,zI2,zI3,reduceCtorEq,Z2h S,Q4 he,Z8 S,Int.natCast_nonneg,ge_iff_le,wd k (by omega),Bool.not_true,Bool.not_false]
     exact ih fuel (by omega) (by omega)
   | false=>
    simp only[eG,go_sem,thq S,nbr S,zN0,zN1,zN2,zN3,zN4,zI0,zI1,zI2,zI3,reduceCtorEq,Z2h S,Q4 he,Z8 S,Int.natCast_nonneg,ge_iff_le,wd k (by omega),Bool.not_true,Bool.not_false,h1,h2,Md.loadGo,Md.hitS]
    rw[<-hK,Z1 (on S _ _ [1,4,5,13,14] (by decide) rfl) rfl _ _ _ _ _ _ _ _ _ rfl]
    simp only[eG,go_sem,thq S,nbr S,zN0,zN1,zN2,zN3,zN4,zI0,zI1,zI2,zI3,reduceCtorEq,Z2h S,Q4 he,Z8 S,Int.natCast_nonneg,ge_iff_le,wd k (by omega),Bool.not_true,Bool.not_false]
    exact ih fuel (by omega) (by omega)
  ·simp only [eG, go_sem, thq S, nbr S, zN0, zN1, zN2, zN3, zN4, zI0, zI1, zI2, zI3, reduceCtorEq, Z2h S, Q4 he, Z8 S, Int.natCast_nonneg, ge_iff_le, wd k (by omega), Bool.not_true, Bool.not_false, eq_false h1, Md.loadGo, Md.hitS]
   rw[<-hK,Z1 (on S _ _ [1,4,5,13,14] (by decide) rfl) rfl _ _ _ _ _ _ _ _ _ rfl]
   simp only[eG,go_sem,thq S,nbr S,zN0,zN1,zN2,zN3,zN4,zI0,zI1,zI2,zI3,reduceCtorEq,Z2h S,Q4 he,Z8 S,Int.natCast_nonneg,ge_iff_le,wd k (by omega),Bool.not_true,Bool.not_false]
   exact ih fuel (by omega) (by omega)
theorem Zhm (dp:Nat)(p:Prog)(mem:List Int)(l:List Ent)(i addr:Int)(hl:l.length<1073741824):Zk E fn (dp+3) 207 [Zn p,rD mem,rD l,vi i,vi addr] (.tup [vi (Md.load p mem l i addr).1,vi (Md.load p mem l i addr).2.1,vb (Md.load p mem l i addr).2.2]):=by
 unfold Zk
 show Zh (evC E fn (dp+2+1) 207 [.d (Zn p),.d (rD mem),.d (rD l),.d (vi i),.d (vi addr)] [])=_
 rw[Z2,S.Zdk,Z3,Zee,Z6 _ _ _ _ _ _ _ _ rfl]
 have hcl:=Z4d l i
 have e:(Md.cut l i).take (Md.cut l i).length=Md.cut l i:=List.take_of_length_le (by omega)
 have e2:Md.load p mem l i addr=Md.loadGo p mem addr ((Md.cut l i).take (Md.cut l i).length).reverse:=by rw[e];rfl
 rw[e2]
 simp only[eG,go_sem,thq S,nbr S,zN0,zN1,zN2,zN3,zN4,zI0,zI1,zI2,zI3,reduceCtorEq,Z2h S,Z2n S,hl,wd _ (show(Md.cut l i).length<4611686018427387904 by omega)]
 rw[Y2,Z1 (on S _ _ [1,4,5,13,14] (by decide) rfl) rfl _ _ _ _ _ _ _ _ _ rfl]
 simp only[eG,go_sem,thq S,nbr S,zN0,zN1,zN2,zN3,zN4,zI0,zI1,zI2,zI3,reduceCtorEq,Z2h S]
 refine Zr3 S (dp+1) p mem (Md.cut l i) addr (by omega) _ ?_ _ _ (Nat.le_refl _) (by omega)
 intro T h1 h4 A
 by_cases h:addr<0
 ·simp only[eG,go_sem,thq S,nbr S,zN0,zN1,zN2,zN3,zN4,zI0,zI1,zI2,zI3,reduceCtorEq,Z2h S,h1,h4,h,Md.loadGo]
 ·by_cases h2 : (mem.length : Int) <= addr
  ·simp only[eG,go_sem,thq S,nbr S,zN0,zN1,zN2,zN3,zN4,zI0,zI1,zI2,zI3,reduceCtorEq,Z2h S,h1,h4,h,ge_iff_le,h2,Md.loadGo]
  ·obtain ⟨e, he⟩ := Yz (show addr.toNat < mem.length by omega)
   simp only[eG,go_sem,thq S,nbr S,zN0,zN1,zN2,zN3,zN4,zI0,zI1,zI2,zI3,reduceCtorEq,Z2h S,h1,h4,h,ge_iff_le,h2,Md.loadGo,Z7r (show 0<=addr by omega) he,he,Option.getD_some]
theorem Zob (dp:Nat)(p_w p_wn p_fu p_r0 p_r1 p_r2 p_r3:Int)(p_ms:List MemT)(p_ls:List Label)(p_is:List Ins)(mem:List Int)(l:List Ent)(i addr:Int)(hl:l.length<1073741824)(A:List Blk)(nb:Nat)(us:List Nat):Zb false E (evC E fn (dp+3)) 207 A nb (some ([.agg [vi p_w,vi p_wn,vi p_fu,vi p_r0,vi p_r1,vi p_r2,vi p_r3,rD p_ms,rD p_ls,rD p_is],rD mem,rD l,vi i,vi addr],us))=some (.made (.d (.tup [vi (Md.load (⟨p_w,p_wn,p_fu,⟨p_r0,p_r1,p_r2,p_r3⟩,p_ms,p_ls,p_is⟩:Prog) mem l i addr).1,vi (Md.load (⟨p_w,p_wn,p_fu,⟨p_r0,p_r1,p_r2,p_r3⟩,p_ms,p_ls,p_is⟩:Prog) mem l i addr).2.1,vb (Md.load (⟨p_w,p_wn,p_fu,⟨p_r0,p_r1,p_r2,p_r3⟩,p_ms,p_ls,p_is⟩:Prog) mem l i addr).2.2])) []):=
 Zk.flat (Zhm S dp (⟨p_w,p_wn,p_fu,⟨p_r0,p_r1,p_r2,p_r3⟩,p_ms,p_ls,p_is⟩:Prog) mem l i addr hl) (np S 207 (by decide)) (rfl) A nb us
theorem Zt8 (dp:Nat)(p:Prog)(l:List Ent)(i addr:Int)(hl:l.length<1073741824)(kx:Nat->K)
  (hx:∀ T A,Zh (kx 0 (mk .bot 51 T) A)=some (.tup [vi 0,vb false])):
  ∀(m k fuel:Nat),(k+m=l.length∨(m=0/\l.length<=k))->k<=l.length+1->m<=fuel->Zh (Jz (inn E 155) (evC E fn (dp+1)) (Zi 6 Jz (inn E 155) (evC E fn (dp+1)) kx (Z0u 0 [.tmp 8,.tmp 9]) fuel) kx (Z0u 0 [.tmp 8,.tmp 9])
   (mk .bot 51 [(1,.d (rD l)),(2,aI i),(3,aI addr),(4,.ref 0 0 0),(10,aI k)]) [.cells ((Yd p).map .d) 0 false])=
   some (.tup [vi (Md.hazGo p i addr k (l.drop k)).1,vb (Md.hazGo p i addr k (l.drop k)).2]):=by
 intro m
 induction m with
 | zero=>
  intro k fuel hk hk2 _
  generalize Zi 6 Jz _ _ kx _ fuel=KK
  rw[Jz,List.drop_of_length_le (by omega)]
  simp only[eG,go_sem,thq S,nbr S,zN0,zN1,zN2,zN3,zN4,zI0,zI1,zI2,zI3,reduceCtorEq,Z2i S,show ¬(k:Int)<l.length by omega,Md.hazGo]
  exact hx _ _
 | succ m ih=>
  intro k fuel hk hk2 hf
  obtain⟨e,he⟩:=Yz (show k<l.length by omega)
  obtain⟨fuel,rfl⟩:∃ m,fuel=m+1:=⟨fuel-1,by omega⟩
  generalize hK:Zi 6 Jz _ _ kx _ (fuel+1)=KK
  rw[Jz,Z02 he]
  have h2:(k:Int)<l.length:=by omega
  by_cases k2:(Md.at_ p e.pc).kind=2
  ·cases hk : e.known with
   | true=>
    by_cases ha:e.addr=addr
    ·by_cases hfr : e.frm < i
     ·simp only[eG,go_sem,thq S,nbr S,zN0,zN1,zN2,zN3,zN4,zI0,zI1,zI2,zI3,reduceCtorEq,Z2i S,Q4 he,Z8 S,wi k (by omega),h2,k2,hk,eq_true ha,hfr,Md.hazGo,Md.hitL]
     ·simp only [eG, go_sem, thq S, nbr S, zN0, zN1, zN2, zN3, zN4, zI0, zI1, zI2, zI3, reduceCtorEq, Z2i S, Q4 he, Z8 S, wi k (by omega), h2, k2, hk, eq_true ha, hfr, Md.hazGo, Md.hitL]
      rw[<-hK,Z1 (on S _ _ [1,2,3,4,10] (by decide) rfl) rfl _ _ _ _ _ _ _ _ _ rfl]
      simp only[eG,go_sem,thq S,nbr S,zN0,zN1,zN2,zN3,zN4,zI0,zI1,zI2,zI3,reduceCtorEq,Z2i S,Q4 he,Z8 S,wi k (by omega),h2]
      exact ih (k+1) fuel (by omega) (by omega) (by omega)
    ·simp only [eG, go_sem, thq S, nbr S, zN0, zN1, zN2, zN3, zN4, zI0, zI1, zI2, zI3, reduceCtorEq, Z2i S, Q4 he, Z8 S, wi k (by omega), h2, k2, hk, eq_false ha, Md.hazGo, Md.hitL]
     rw[<-hK,Z1 (on S _ _ [1,2,3,4,10] (by decide) rfl) rfl _ _ _ _ _ _ _ _ _ rfl]
     simp only[eG,go_sem,thq S,nbr S,zN0,zN1,zN2,zN3,zN4,zI0,zI1,zI2,zI3,reduceCtorEq,Z2i S,Q4 he,Z8 S,wi k (by omega),h2]
     exact ih (k+1) fuel (by omega) (by omega) (by omega)
   | false=>
    simp only[eG,go_sem,thq S,nbr S,zN0,zN1,zN2,zN3,zN4,zI0,zI1,zI2,zI3,reduceCtorEq,Z2i S,Q4 he,Z8 S,wi k (by omega),h2,k2,hk,Md.hazGo,Md.hitL]
    rw[<-hK,Z1 (on S _ _ [1,2,3,4,10] (by decide) rfl) rfl _ _ _ _ _ _ _ _ _ rfl]
    simp only[eG,go_sem,thq S,nbr S,zN0,zN1,zN2,zN3,zN4,zI0,zI1,zI2,zI3,reduceCtorEq,Z2i S,Q4 he,Z8 S,wi k (by omega),h2]
    exact ih (k+1) fuel (by omega) (by omega) (by omega)
  ·simp only [eG, go_sem, thq S, nbr S, zN0, zN1, zN2, zN3, zN4, zI0, zI1, zI2, zI3, reduceCtorEq, Z2i S, Q4 he, Z8 S, wi k (by omega), h2, eq_false k2, Md.hazGo, Md.hitL]
   rw[<-hK,Z1 (on S _ _ [1,2,3,4,10] (by decide) rfl) rfl _ _ _ _ _ _ _ _ _ rfl]
   simp only[eG,go_sem,thq S,nbr S,zN0,zN1,zN2,zN3,zN4,zI0,zI1,zI2,zI3,reduceCtorEq,Z2i S,Q4 he,Z8 S,wi k (by omega),h2]
   exact ih (k+1) fuel (by omega) (by omega) (by omega)
theorem Zci (dp:Nat)(p:Prog)(l:List Ent)(i addr:Int)(hl:l.length<1073741824)(hi0:i<4611686018427387904)(hi1: -4611686018427387904<i):Zk E fn (dp+2) 155 [Zn p,rD l,vi i,vi addr] (.tup [vi (Md.hazard p l i addr).1,vb (Md.hazard p l i addr).2]):=by
 unfold Zk
 show Zh (evC E fn (dp+1+1) 155 [.d (Zn p),.d (rD l),.d (vi i),.d (vi addr)] [])=_
 rw[Z2,S.Z92,Z3,Z9i,Z6 _ _ _ _ _ _ _ _ rfl]
 have hh:Md.hazAt l i<=l.length+1:=by unfold Md.hazAt;omega
 have hr:max (IntKind.i64.wrap (min i (l.length:Int)+1)) 0=(Md.hazAt l i:Int):=by rw[Zt (by omega) (by omega)];unfold Md.hazAt;omega
 simp only[eG,go_sem,thq S,nbr S,zN0,zN1,zN2,zN3,zN4,zI0,zI1,zI2,zI3,reduceCtorEq,Z2i S,hr]
 rw[Y2,Z1 (on S _ _ [1,2,3,4,10] (by decide) rfl) rfl _ _ _ _ _ _ _ _ _ rfl]
 simp only[eG,go_sem,thq S,nbr S,zN0,zN1,zN2,zN3,zN4,zI0,zI1,zI2,zI3,reduceCtorEq,Z2i S]
 refine Zt8 S dp p l i addr hl _ ?_ (l.length-Md.hazAt l i) (Md.hazAt l i) _ (by omega) hh (by omega)
 intro T A
 simp only[eG,go_sem,thq S,nbr S,zN0,zN1,zN2,zN3,zN4,zI0,zI1,zI2,zI3,reduceCtorEq,Z2i S]
theorem Z9b (dp:Nat)(p_w p_wn p_fu p_r0 p_r1 p_r2 p_r3:Int)(p_ms:List MemT)(p_ls:List Label)(p_is:List Ins)(l:List Ent)(i addr:Int)(hl:l.length<1073741824)(hi0:i<4611686018427387904)(hi1: -4611686018427387904<i)(A:List Blk)(nb:Nat)(us:List Nat):Zb false E (evC E fn (dp+2)) 155 A nb (some ([.agg [vi p_w,vi p_wn,vi p_fu,vi p_r0,vi p_r1,vi p_r2,vi p_r3,rD p_ms,rD p_ls,rD p_is],rD l,vi i,vi addr],us))=some (.made (.d (.tup [vi (Md.hazard (⟨p_w,p_wn,p_fu,⟨p_r0,p_r1,p_r2,p_r3⟩,p_ms,p_ls,p_is⟩:Prog) l i addr).1,vb (Md.hazard (⟨p_w,p_wn,p_fu,⟨p_r0,p_r1,p_r2,p_r3⟩,p_ms,p_ls,p_is⟩:Prog) l i addr).2])) []):=
 Zk.flat (Zci S dp (⟨p_w,p_wn,p_fu,⟨p_r0,p_r1,p_r2,p_r3⟩,p_ms,p_ls,p_is⟩:Prog) l i addr hl hi0 hi1) (np S 155 (by decide)) (rfl) A nb us
end
theorem Zcp {α:Type} [Cl α] {l:List α}(h:l.length=0)(i:Nat):Z3m i l=.d (.lst [] 0 (some 0)):=by rw[List.length_eq_zero_iff.1 h];rfl
theorem Zco {α:Type} [Cl α] {l:List α}(h:l.length=0):Z30 l=[]:=by rw[List.length_eq_zero_iff.1 h];rfl
variable {E:Env} {fn:FuncId->Option (Env->cT->cT)}
section
variable (S:Sur E fn)
include S
theorem Znl:E.lives 242 7=none/\E.lives 242 17=none/\E.lives 242 19=none:=⟨off S 242 7 (by decide) rfl,off S 242 17 (by decide) rfl,off S 242 19 (by decide) rfl⟩
theorem Zvb (dp:Nat)(r0 r1 r2 r3:Int)(mm sk:List Int)(pc:Int)(hm:mm.length<1073741824)(hs:sk.length<1073741824):
  evC E fn (dp+1) 84 [.d (.agg [vi r0,vi r1,vi r2,vi r3,rD mm,rD sk,vi pc])] []=some (.agg [aI r0,aI r1,aI r2,aI r3,Z3m 0 mm,Z3m (Z30 mm).length sk,aI pc],Z30 mm++Z30 sk):=by
 rw[Z2,S.Zar,Z3,Zbb,Z6 _ _ _ _ _ _ _ _ rfl]
 by_cases h1:mm.length=0<;>by_cases h2:sk.length=0
 ·simp only[eG,go_sem,thq S,nbr S,zN0,zN1,zN2,zN3,zN4,zI0,zI1,zI2,zI3,reduceCtorEq,Z0f S hm,Z0f S hs,Zcp h1,Zco h1,Zcp h2,Zco h2]
 ·simp only[eG,go_sem,thq S,nbr S,zN0,zN1,zN2,zN3,zN4,zI0,zI1,zI2,zI3,reduceCtorEq,Z0f S hm,Z0f S hs,Zcp h1,Zco h1,Za h2,Z9 h2]
 ·simp only[eG,go_sem,thq S,nbr S,zN0,zN1,zN2,zN3,zN4,zI0,zI1,zI2,zI3,reduceCtorEq,Z0f S hm,Z0f S hs,Za h1,Z9 h1,Zcp h2,Zco h2]
 ·simp only[eG,go_sem,thq S,nbr S,zN0,zN1,zN2,zN3,zN4,zI0,zI1,zI2,zI3,reduceCtorEq,Z0f S hm,Z0f S hs,Za h1,Z9 h1,Za h2,Z9 h2]
theorem Z3w (dp:Nat)(r0 r1 r2 r3:Int)(mm sk:List Int)(pc:Int)(hm:mm.length<1073741824)(hs:sk.length<1073741824)(A:List Blk)(nb:Nat):
  Zb true E (evC E fn (dp+1)) 84 A nb (some ([.agg [vi r0,vi r1,vi r2,vi r3,rD mm,rD sk,vi pc]],[]))=some (.made (.agg [aI r0,aI r1,aI r2,aI r3,Z3m nb mm,Z3m (nb+(Z30 mm).length) sk,aI pc]) (Z30 mm++Z30 sk)):=by
 have h:=Zvb S dp r0 r1 r2 r3 mm sk pc hm hs
 have hr:Z2c E (evC E fn (dp+1)) 84 [.agg [vi r0,vi r1,vi r2,vi r3,rD mm,rD sk,vi pc]]=some (.agg [aI r0,aI r1,aI r2,aI r3,Z3m 0 mm,Z3m (Z30 mm).length sk,aI pc],Z30 mm++Z30 sk):=by
  unfold Z2c
  rw[np S 84 (by decide)]
  exact h
 simp only[Zb,hr,Z4r,cond_true]
 by_cases h1:mm.length=0<;>by_cases h2:sk.length=0
 ·have e1 : mm = [] := List.length_eq_zero_iff.1 h1
  have e2:sk=[]:=List.length_eq_zero_iff.1 h2
  subst e1 e2
  rfl
 ·have e1 : mm = [] := List.length_eq_zero_iff.1 h1
  subst e1
  simp[Zz,Zy,Za h2,Z9 h2,Zc3,Zmk,Z3l,Qg,Z1b,Cl.n]
 ·have e2 : sk = [] := List.length_eq_zero_iff.1 h2
  subst e2
  simp[Zz,Zy,Za h1,Z9 h1,Zc3,Zmk,Z3l,Qg,Z1b,Cl.n]
 ·simp[Za h1,Z9 h1,Za h2,Z9 h2,Zc3,Zmk,Z3l,Qg,Z1b,Cl.n]
theorem Zoz (dp:Nat)(r0 r1 r2 r3:Int)(mm sk:List Int)(pc:Int)(bf:List Ent)(rb:List Int)(en:Int)(hm:mm.length<1073741824)(hs:sk.length<1073741824)(hb:bf.length<1073741824)(hr:rb.length<1073741824):
  evC E fn (dp+2) 45 [.d (.agg [vi r0,vi r1,vi r2,vi r3,rD mm,rD sk,vi pc,rD bf,rD rb,vi en])] []=some (.agg [aI r0,aI r1,aI r2,aI r3,Z3m 0 mm,Z3m (Z30 mm).length sk,aI pc,.d (rD bf),.d (rD rb),aI en],Z30 mm++Z30 sk):=by
 rw[Z2,S.Zap,Z3,Zb9,Z6 _ _ _ _ _ _ _ _ rfl]
 by_cases h1:mm.length=0<;>by_cases h2:sk.length=0
 ·simp only[eG,go_sem,thq S,nbr S,zN0,zN1,zN2,zN3,zN4,zI0,zI1,zI2,zI3,reduceCtorEq,Z3w S,hm,hs,Z9d S hb,Z9c S hr,Zcp h1,Zco h1,Zcp h2,Zco h2]
 ·simp only[eG,go_sem,thq S,nbr S,zN0,zN1,zN2,zN3,zN4,zI0,zI1,zI2,zI3,reduceCtorEq,Z3w S,hm,hs,Z9d S hb,Z9c S hr,Zcp h1,Zco h1,Za h2,Z9 h2]
 ·simp only[eG,go_sem,thq S,nbr S,zN0,zN1,zN2,zN3,zN4,zI0,zI1,zI2,zI3,reduceCtorEq,Z3w S,hm,hs,Z9d S hb,Z9c S hr,Za h1,Z9 h1,Zcp h2,Zco h2]
 ·simp only[eG,go_sem,thq S,nbr S,zN0,zN1,zN2,zN3,zN4,zI0,zI1,zI2,zI3,reduceCtorEq,Z3w S,hm,hs,Z9d S hb,Z9c S hr,Za h1,Z9 h1,Za h2,Z9 h2]
theorem Zes (dp:Nat)(c:Conf)(hm:c.state.mem.length<1073741824)(hs:c.state.stack.length<1073741824)(hb:c.buf.length<1073741824)(hr:c.rsb.length<1073741824):Zk E fn (dp+2) 45 [Zv c] (Zv c):=by
 unfold Zk
 show Zh (evC E fn (dp+1+1) 45 [.d (Zv c)] [])=_
 have h:=Zoz S dp c.state.regs.r0 c.state.regs.r1 c.state.regs.r2 c.state.regs.r3 c.state.mem c.state.stack c.state.pc c.buf c.rsb c.end_ hm hs hb hr
 show Zh (evC E fn (dp+2) 45 [.d (.agg [vi c.state.regs.r0,vi c.state.regs.r1,vi c.state.regs.r2,vi c.state.regs.r3,rD c.state.mem,rD c.state.stack,vi c.state.pc,rD c.buf,rD c.rsb,vi c.end_])] [])=_
 rw[h]
 by_cases h1:c.state.mem.length=0<;>by_cases h2:c.state.stack.length=0
 ·have e1 : c.state.mem = [] := List.length_eq_zero_iff.1 h1
  have e2:c.state.stack=[]:=List.length_eq_zero_iff.1 h2
  simp only[eG,go_sem,thq S,nbr S,zN0,zN1,zN2,zN3,zN4,zI0,zI1,zI2,zI3,reduceCtorEq,e1,e2,Zz,Zy]
 ·have e1 : c.state.mem = [] := List.length_eq_zero_iff.1 h1
  have n2:c.state.stack≠[]:=fun e=>h2 (by rw[e];rfl)
  have d2:deep [.cells ((rC c.state.stack).map .d) 0 false] 7 (.sref 0 0 0 c.state.stack.length 1 none)=some (.lst (rC c.state.stack) c.state.stack.length none,[0]):=Q8 rfl n2 5 _ 1 none rfl rfl
  simp only[eG,go_sem,thq S,nbr S,zN0,zN1,zN2,zN3,zN4,zI0,zI1,zI2,zI3,reduceCtorEq,e1,Zz,Zy,Za h2,Z9 h2,d2];rfl
 ·have e2 : c.state.stack = [] := List.length_eq_zero_iff.1 h2
  have n1:c.state.mem≠[]:=fun e=>h1 (by rw[e];rfl)
  have d1:deep [.cells ((rC c.state.mem).map .d) 0 false] 7 (.sref 0 0 0 c.state.mem.length 1 none)=some (.lst (rC c.state.mem) c.state.mem.length none,[0]):=Q8 rfl n1 5 _ 1 none rfl rfl
  simp only[eG,go_sem,thq S,nbr S,zN0,zN1,zN2,zN3,zN4,zI0,zI1,zI2,zI3,reduceCtorEq,e2,Zz,Zy,Za h1,Z9 h1,d1];rfl
 ·have n2 : c.state.stack ≠ [] := fun e => h2 (by rw [e]; rfl)
  have n1:c.state.mem≠[]:=fun e=>h1 (by rw[e];rfl)
  have d1:deep [.cells ((rC c.state.mem).map .d) 0 false,.cells ((rC c.state.stack).map .d) 0 false] 7 (.sref 0 0 0 c.state.mem.length 1 none)=some (.lst (rC c.state.mem) c.state.mem.length none,[0]):=Q8 rfl n1 5 _ 1 none rfl rfl
  have d2:deep [.cells ((rC c.state.mem).map .d) 0 false,.cells ((rC c.state.stack).map .d) 0 false] 7 (.sref 1 0 0 c.state.stack.length 1 none)=some (.lst (rC c.state.stack) c.state.stack.length none,[1]):=Q8 rfl n2 5 _ 1 none rfl rfl
  simp only[eG,go_sem,thq S,nbr S,zN0,zN1,zN2,zN3,zN4,zI0,zI1,zI2,zI3,reduceCtorEq,Za h1,Z9 h1,Za h2,Z9 h2,d1,d2];rfl
theorem Z41 (dp:Nat)(c_r0 c_r1 c_r2 c_r3:Int)(c_mm c_st:List Int)(c_pc:Int)(c_bf:List Ent)(c_rb:List Int)(c_en:Int)(hm:(⟨⟨⟨c_r0,c_r1,c_r2,c_r3⟩,c_mm,c_st,c_pc⟩,c_bf,c_rb,c_en⟩:Conf).state.mem.length<1073741824)(hs:(⟨⟨⟨c_r0,c_r1,c_r2,c_r3⟩,c_mm,c_st,c_pc⟩,c_bf,c_rb,c_en⟩:Conf).state.stack.length<1073741824)(hb:(⟨⟨⟨c_r0,c_r1,c_r2,c_r3⟩,c_mm,c_st,c_pc⟩,c_bf,c_rb,c_en⟩:Conf).buf.length<1073741824)(hr:(⟨⟨⟨c_r0,c_r1,c_r2,c_r3⟩,c_mm,c_st,c_pc⟩,c_bf,c_rb,c_en⟩:Conf).rsb.length<1073741824)(A:List Blk)(nb:Nat):Zb false E (evC E fn (dp+2)) 45 A nb (some ([.agg [vi c_r0,vi c_r1,vi c_r2,vi c_r3,rD c_mm,rD c_st,vi c_pc,rD c_bf,rD c_rb,vi c_en]],[]))=some (.made (.d (Zv (⟨⟨⟨c_r0,c_r1,c_r2,c_r3⟩,c_mm,c_st,c_pc⟩,c_bf,c_rb,c_en⟩:Conf))) []):=
 Zk.deep (Zes S dp (⟨⟨⟨c_r0,c_r1,c_r2,c_r3⟩,c_mm,c_st,c_pc⟩,c_bf,c_rb,c_en⟩:Conf) hm hs hb hr) (np S 45 (by decide)) A nb
theorem Zre (dp:Nat)(l:List Ent)(A:List Blk)(nb:Nat):Zb false E (evC E fn (dp+1)) 263 A nb (some ([rD l],[]))=some (.made (.d (.fn (.func 275) [.vptr [rD l]])) []):=by
 have h:Zk E fn (dp+1) 263 [rD l] (.fn (.func 275) [.vptr [rD l]]):=by
  unfold Zk
  show Zh (evC E fn (dp+1) 263 [.d (rD l)] [])=_
  rw[Z2,S.Jp,Z3,Jr,Z6 _ _ _ _ _ _ _ _ rfl]
  simp only[eG,go_sem,thq S,nbr S,zN0,zN1,zN2,zN3,zN4,zI0,zI1,zI2,zI3,reduceCtorEq,Zu]
 exact h.deep (np S 263 (by decide)) A nb
theorem Zmt (dp:Nat)(p:Prog)(of:Regs)(l:List Ent)(r:Int)(hl:l.length<1073741824)(kn:K)(kx:Nat->K)(D:Int)(d:AV)(T:List (Nat×AV))
  (h5:Z01 d T 5=.ref 0 0 0) (h9:Z01 d T 9=.ref 2 0 0) (h10:Z01 d T 10=.ref 3 0 0) (h11:Z01 d T 11=.ref 4 0 0)
  (hx:∀ A,Zh (kn (mk d 50 T) (.cells ((Yd p).map .d) 0 false:: .cells ((Z5u of).map .d) 0 false:: .cells [aI r] 0 false:: .cells [zi] 0 false:: .cells [zb] 0 false::A))=some (.tup [vi D,vb true])):
  ∀(k:Nat),k<=l.length->∀ es,Qh (rC l) 8 true k=some es->∀ A,Zh (Z4z Z5b Z5a [26,27] (inn E 242) (evC E fn (dp+1)) kn kx (Z0u 0 [.cell 10 false 1,.cell 11 false 1]) (mk d 50 T) es (.cells ((Yd p).map .d) 0 false:: .cells ((Z5u of).map .d) 0 false:: .cells [aI r] 0 false:: .cells [zi] 0 false:: .cells [zb] 0 false::A))=
   some (.tup [vi (Md.regGo p r D (l.take k).reverse).1,vb (Md.regGo p r D (l.take k).reverse).2]):=by
 intro k
 induction k with
 | zero=>
  intro _ es hes A
  have:es=[]:=by simpa [Qh] using hes.symm
  subst this
  exact hx A
 | succ k ih=>
  intro hk es hes A
  obtain⟨e,he⟩:=Yz (show k<l.length by omega)
  obtain⟨es0,h0⟩:=Ze0 (s:=8) rfl l k (by omega)
  have:=Zud (s:=8) rfl he h0 hes
  subst this
  rw[Zbo he]
  have ih':=fun A'=>ih (by omega) es0 h0 A'
  rw[Z4z]
  generalize hK:(fun(x:List AV) (A2:List Blk)=>Z4z Z5b Z5a [26,27] (inn E 242) (evC E fn (dp+1)) kn kx (Z0u 0 [.cell 10 false 1,.cell 11 false 1]) (mk d 50 T) es0 A2)=KK
  rw[Z5b,Z5a]
  by_cases h1:Md.destK (Md.at_ p e.pc)=true
  ·by_cases h2 : (Md.at_ p e.pc).d = r
   ·cases h3:e.done<;>simp only[eG,go_sem,thq S,nbr S,zN0,zN1,zN2,zN3,zN4,zI0,zI1,zI2,zI3,reduceCtorEq,Znl S,h5,h9,h10,h11,Z8 S,Z85 S,Md.regGo,Md.dest,h1,eq_true h2,h3]
   ·simp only [eG, go_sem, thq S, nbr S, zN0, zN1, zN2, zN3, zN4, zI0, zI1, zI2, zI3, reduceCtorEq, Znl S, h5, h9, h10, h11, Z8 S, Z85 S, Md.regGo, Md.dest, h1, eq_false h2]
    rw[<-hK]
    exact ih' _
  ·have h1' : Md.destK (Md.at_ p e.pc) = false := by simpa using h1
   simp only[eG,go_sem,thq S,nbr S,zN0,zN1,zN2,zN3,zN4,zI0,zI1,zI2,zI3,reduceCtorEq,Znl S,h5,h9,h10,h11,Z8 S,Z85 S,Md.regGo,Md.dest,h1']
   rw[<-hK]
   exact ih' _
end
def Y2w (Z:Option (AV×List Blk)):Option (List Int)->Prop
 | none=>Z=some (.tup [.d (.lst [] 0 (some 0)),Q7 false],[])
 | some out=>∃ junk k,Z=some (.tup [.sref 0 0 0 out.length 1 k,Q7 true],[.cells ((rC (out++junk)).map .d) 0 false])
theorem Zhr (Z:Option (AV×List Blk)):Y2w Z none=(Z=some (.tup [.d (.lst [] 0 (some 0)),Q7 false],[])):=id rfl
theorem Zoy {Z:Option (AV×List Blk)}{out:List Int}(junk:List Int)(k:Option Nat)(h:Z=some (.tup [.sref 0 0 0 out.length 1 k,Q7 true],[.cells ((rC (out++junk)).map .d) 0 false])):Y2w Z (some out):=⟨junk,k,h⟩
theorem Zto {i:Nat}{out junk:List Int}{k:Option Nat}{A:List Blk}{b:Bool}(hA:A[i]? =some (.cells ((rC (out++junk)).map .d) 0 false)):
  Zl7 0 (some (.tup [.sref i 0 0 out.length 1 k,Q7 b],A))=some (.tup [.sref 0 0 0 out.length 1 k,Q7 b],[.cells ((rC (out++junk)).map .d) 0 false]):=by
 have hi:¬A.length<=i:=by
  intro h;rw[List.getElem?_eq_none h] at hA;cases hA
 simp only[eG,go_sem,Z82,hA,hi,List.not_mem_nil,false_or,or_false,Nat.not_lt_zero,if_false]
variable {E:Env} {fn:FuncId->Option (Env->cT->cT)}
section
variable (S:Sur E fn)
include S
theorem Z05:E.lives 133 1=none/\E.lives 133 17=none/\E.lives 133 19=none/\E.lives 133 25=none/\E.lives 133 27=none:=⟨off S 133 1 (by decide) rfl,off S 133 17 (by decide) rfl,off S 133 19 (by decide) rfl,off S 133 25 (by decide) rfl,off S 133 27 (by decide) rfl⟩
theorem Zk7 (dp:Nat)(p:Prog)(l:List Ent)(i:Int)(hl:l.length<1073741824)(kx:Nat->K)
  (hx:∀ T out junk k,Z01 .bot T 10=.sref 1 0 0 (out:List Int).length 1 k->Y2w (kx 0 (mk .bot 59 T) [.cells ((Yd p).map .d) 0 false,.cells ((rC (out++junk)).map .d) 0 false]) (some out)):
  ∀(m k fuel:Nat) (out junk:List Int) (q:Option Nat),k+m=(Md.cut l i).length->m<=fuel->out.length<1073741824->(q=none∨q=some 0/\out=[]/\junk=[])->Y2w (Jf (inn E 133) (evC E fn (dp+1)) (Zi 8 Jf (inn E 133) (evC E fn (dp+1)) kx (Z0u 0 [.tmp 8,.tmp 9]) fuel) kx (Z0u 0 [.tmp 8,.tmp 9])
   (mk .bot 59 [(2,.d (rD l)),(3,aI i),(4,.ref 0 0 0),(10,.sref 1 0 0 out.length 1 q),(11,aI k)]) [.cells ((Yd p).map .d) 0 false,.cells ((rC (out++junk)).map .d) 0 false])
   (Md.realGo p ((Md.cut l i).drop k) out):=by
 intro m
 have hcl:(Md.cut l i).length=min i.toNat l.length:=by simp[Md.cut]
 induction m with
 | zero=>
  intro k fuel out junk q hk _ ho hq
  generalize Zi 8 Jf _ _ kx _ fuel=KK
  rw[Jf,List.drop_of_length_le (by omega)]
  by_cases h1:(k:Int)<i
  ·simp only [eG, go_sem, thq S, nbr S, zN0, zN1, zN2, zN3, zN4, zI0, zI1, zI2, zI3, reduceCtorEq, Z05 S, h1, show ¬ (k : Int) < l.length by omega, Md.realGo]
   exact hx _ _ _ q rfl
  ·simp only [eG, go_sem, thq S, nbr S, zN0, zN1, zN2, zN3, zN4, zI0, zI1, zI2, zI3, reduceCtorEq, Z05 S, h1, Md.realGo]
   exact hx _ _ _ q rfl
 | succ m ih=>
  intro k fuel out junk q hk hf ho hq
  obtain⟨e,he⟩:=Yz (show k<l.length by omega)
  have hc:(Md.cut l i)[k]? =some e:=by unfold Md.cut;rw[List.getElem?_take,if_pos (by omega),he]
  obtain⟨fuel,rfl⟩:∃ m,fuel=m+1:=⟨fuel-1,by omega⟩
  generalize hK:Zi 8 Jf _ _ kx _ (fuel+1)=KK
  rw[Jf,Z02 hc,Md.realGo]
  have h1:(k:Int)<i:=by omega
  have h2:(k:Int)<l.length:=by omega
  by_cases k8:(Md.at_ p e.pc).kind=8
  ·by_cases h4 : 4 <= out.length
   ·simp only[eG,go_sem,thq S,nbr S,zN0,zN1,zN2,zN3,zN4,zI0,zI1,zI2,zI3,reduceCtorEq,Z05 S,Q4 he,cA7 S,wi k (by omega),h1,h2,ge_iff_le,k8,h4,show(4:Int)<=out.length by omega,Zhr]
   ·have l1 : (out.length + 1) * 8 <= Zf := by unfold Zf; omega
    have l2:out.length+1<=Zf:=by unfold Zf;omega
    rcases hq with rfl | ⟨rfl,rfl,rfl⟩
    ·cases junk with
     | nil=>
      simp only[List.append_nil]
      simp only[eG,go_sem,thq S,nbr S,zN0,zN1,zN2,zN3,zN4,zI0,zI1,zI2,zI3,reduceCtorEq,Z05 S,Q4 he,cA7 S,wi k (by omega),h1,h2,ge_iff_le,k8,h4,show ¬(4:Int)<=out.length by omega,Zl,Qp,l1,l2]
      rw[<-hK,Z1 (on S _ _ [2,3,4,10,11] (by decide) rfl) rfl _ _ _ _ _ _ _ _ _ rfl]
      simp only[eG,go_sem,thq S,nbr S,zN0,zN1,zN2,zN3,zN4,zI0,zI1,zI2,zI3,reduceCtorEq,Z05 S,Q4 he,cA7 S,wi k (by omega),h1,h2,ge_iff_le]
      have e1:out.length+1=(out++[Md.w64 (e.pc+1)]).length:=by simp
      have:=ih (k+1) fuel (out++[Md.w64 (e.pc+1)]) [] none (by omega) (by omega) (by simp;omega) (.inl rfl)
      rw[<-e1,List.append_nil] at this
      exact this
     | cons y junk=>
      simp only[eG,go_sem,thq S,nbr S,zN0,zN1,zN2,zN3,zN4,zI0,zI1,zI2,zI3,reduceCtorEq,Z05 S,Q4 he,cA7 S,wi k (by omega),h1,h2,ge_iff_le,k8,h4,show ¬(4:Int)<=out.length by omega,Zl,Zoe (y:=y) (junk:=junk),l1,l2]
      rw[<-hK,Z1 (on S _ _ [2,3,4,10,11] (by decide) rfl) rfl _ _ _ _ _ _ _ _ _ rfl]
      simp only[eG,go_sem,thq S,nbr S,zN0,zN1,zN2,zN3,zN4,zI0,zI1,zI2,zI3,reduceCtorEq,Z05 S,Q4 he,cA7 S,wi k (by omega),h1,h2,ge_iff_le]
      have e1:out.length+1=(out++[Md.w64 (e.pc+1)]).length:=by simp
      have:=ih (k+1) fuel (out++[Md.w64 (e.pc+1)]) junk none (by omega) (by omega) (by simp;omega) (.inl rfl)
      rw[<-e1,List.append_assoc] at this
      exact this
    ·simp only [eG, go_sem, thq S, nbr S, zN0, zN1, zN2, zN3, zN4, zI0, zI1, zI2, zI3, reduceCtorEq, Z05 S, Q4 he, cA7 S, wi k (by omega), h1, h2, ge_iff_le, k8, List.length_nil, show ¬ (4 : Int) <= (0 : Nat) by omega, Zl, Jq (cs := []), Nat.succ_ne_zero, show (1 : Nat) * 8 <= Zf by decide, show (1 : Nat) <= Zf by decide, ne_eq, not_false_eq_true]
     rw[<-hK,Z1 (on S _ _ [2,3,4,10,11] (by decide) rfl) rfl _ _ _ _ _ _ _ _ _ rfl]
     simp only[eG,go_sem,thq S,nbr S,zN0,zN1,zN2,zN3,zN4,zI0,zI1,zI2,zI3,reduceCtorEq,Z05 S,Q4 he,cA7 S,wi k (by omega),h1,h2,ge_iff_le]
     exact ih (k+1) fuel [Md.w64 (e.pc+1)] [] none (by omega) (by omega) (by simp) (.inl rfl)
  ·by_cases k9 : (Md.at_ p e.pc).kind = 9
   ·cases hr : out.reverse with
    | nil=>
     have:out=[]:=List.reverse_eq_nil_iff.1 hr
     subst this
     simp only[eG,go_sem,thq S,nbr S,zN0,zN1,zN2,zN3,zN4,zI0,zI1,zI2,zI3,reduceCtorEq,Z05 S,Q4 he,cA7 S,wi k (by omega),h1,h2,ge_iff_le,k8,k9,List.length_nil,Zhr,zI0,Int.natCast_eq_zero]
    | cons y r=>
     have e0:out=r.reverse++[y]:=by rw[<-List.reverse_reverse out,hr,List.reverse_cons]
     subst e0
     have e1:(r.reverse++[y]).dropLast=r.reverse:=List.dropLast_concat
     have e2:(r.reverse++[y]).length=r.reverse.length+1:=by simp
     rcases hq with rfl | ⟨_,h,_⟩
     ·have w1 : IntKind.i64.wrap (((r.reverse.length + 1 : Nat) : Int) - 1) = (r.reverse.length : Int) := by rw [e2] at ho; rw [Zt (by omega) (by omega)]; omega
      have bd:=Z2w (r.reverse.length+1) .i64 (r.reverse.length:Int) (by omega) (by omega)
      rw[e2,e1]
      simp only[eG,go_sem,thq S,nbr S,zN0,zN1,zN2,zN3,zN4,zI0,zI1,zI2,zI3,reduceCtorEq,Z05 S,Q4 he,cA7 S,wi k (by omega),h1,h2,ge_iff_le,k8,k9,w1,bd,Int.toNat_natCast,Nat.succ_ne_zero,Int.natCast_eq_zero,ne_eq,not_true_eq_false,and_false,Nat.zero_mul,Nat.sub_zero,Nat.add_zero,Nat.zero_add]
      rw[<-hK,Z1 (on S _ _ [2,3,4,10,11] (by decide) rfl) rfl _ _ _ _ _ _ _ _ _ rfl]
      simp only[eG,go_sem,thq S,nbr S,zN0,zN1,zN2,zN3,zN4,zI0,zI1,zI2,zI3,reduceCtorEq,Z05 S,Q4 he,cA7 S,wi k (by omega),h1,h2,ge_iff_le]
      have:=ih (k+1) fuel r.reverse ([y]++junk) none (by omega) (by omega) (by omega) (.inl rfl)
      rw[<-List.append_assoc] at this
      exact this
     ·simp at h
   ·simp only [eG, go_sem, thq S, nbr S, zN0, zN1, zN2, zN3, zN4, zI0, zI1, zI2, zI3, reduceCtorEq, Z05 S, Q4 he, cA7 S, wi k (by omega), h1, h2, ge_iff_le, k8, k9]
    rw[<-hK,Z1 (on S _ _ [2,3,4,10,11] (by decide) rfl) rfl _ _ _ _ _ _ _ _ _ rfl]
    simp only[eG,go_sem,thq S,nbr S,zN0,zN1,zN2,zN3,zN4,zI0,zI1,zI2,zI3,reduceCtorEq,Z05 S,Q4 he,cA7 S,wi k (by omega),h1,h2,ge_iff_le]
    exact ih (k+1) fuel out junk q (by omega) (by omega) ho hq
theorem Zp0 (dp:Nat)(p:Prog)(sk:List Int)(l:List Ent)(i:Int)(hl:l.length<1073741824)(hs:sk.length<1073741824):
  Y2w (evC E fn (dp+2) 133 [.d (Zn p),.d (rD sk),.d (rD l),aI i] []) (Md.real p sk l i):=by
 rw[Z2,S.Zdg,Z3,Zea,Z6 _ _ _ _ _ _ _ _ rfl]
 by_cases h0:sk.length=0
 ·have : sk = [] := List.length_eq_zero_iff.1 h0
  subst this
  simp only[eG,go_sem,thq S,nbr S,zN0,zN1,zN2,zN3,zN4,zI0,zI1,zI2,zI3,reduceCtorEq,Z05 S,J3]
  rw[Y2,Z1 (on S _ _ [2,3,4,10,11] (by decide) rfl) rfl _ _ _ _ _ _ _ _ _ rfl]
  simp only[eG,go_sem,thq S,nbr S,zN0,zN1,zN2,zN3,zN4,zI0,zI1,zI2,zI3,reduceCtorEq,Z05 S]
  refine Zk7 S dp p l i hl _ ?_ (Md.cut l i).length 0 _ [] [] (some 0) (by omega) (by have:=Z4d l i;omega) (by simp) (.inr ⟨rfl,rfl,rfl⟩)
  intro T out junk k h
  refine Zoy junk k ?_
  simp only[go_sem,thq S,nbr S,zN0,zN1,zN2,zN3,zN4,zI0,zI1,zI2,zI3,reduceCtorEq,Z05 S,h]
  exact Zto rfl
 ·have l1 : sk.length * 8 <= Zf := by unfold Zf; omega
  have l2:sk.length<=Zf:=by unfold Zf;omega
  have l3:(((rC sk).map AV.d).all AV.one)=true:=Z45 _
  simp only[eG,go_sem,thq S,nbr S,zN0,zN1,zN2,zN3,zN4,zI0,zI1,zI2,zI3,reduceCtorEq,Z05 S,J3,Jq (cs:=[]),l1,l2,l3,ne_eq,h0,not_false_eq_true]
  rw[Y2,Z1 (on S _ _ [2,3,4,10,11] (by decide) rfl) rfl _ _ _ _ _ _ _ _ _ rfl]
  simp only[eG,go_sem,thq S,nbr S,zN0,zN1,zN2,zN3,zN4,zI0,zI1,zI2,zI3,reduceCtorEq,Z05 S]
  have:=Zk7 S dp p l i hl (Z6k 0 (cQ (cOz [st 58 (oV (.t 10)),st 8 (oV (.t 58)),st 9 (oV (.c (.v (.bool true))))]) cZ (inn E 133) (evC E fn (dp+1)) (Z0u 0 [.tmp 8,.tmp 9]) (fun _ _ _=>none) (Z0u 0 [.tmp 8,.tmp 9])) (fun _ _ _=>none)) ?_ (Md.cut l i).length 0 999999999999999999999999999999 sk [] none (by omega) (by have:=Z4d l i;omega) hs (.inl rfl)
  ·rw [List.append_nil] at this
   exact this
  intro T out junk k h
  refine Zoy junk k ?_
  simp only[go_sem,thq S,nbr S,zN0,zN1,zN2,zN3,zN4,zI0,zI1,zI2,zI3,reduceCtorEq,Z05 S,h]
  exact Zto rfl
theorem Znj (dp:Nat)(p:Prog)(sk:List Int)(l:List Ent)(i:Int)(hl:l.length<1073741824)(hs:sk.length<1073741824)(h:Md.real p sk l i=none)(A:List Blk)(nb:Nat)(us:List Nat):
  Zb true E (evC E fn (dp+2)) 133 A nb (some ([Zn p,rD sk,rD l,vi i],us))=some (.made (.tup [.d (.lst [] 0 (some 0)),Q7 false]) []):=by
 have h1:=Zp0 S dp p sk l i hl hs
 rw[h,Zhr] at h1
 have hr:Z2c E (evC E fn (dp+2)) 133 [Zn p,rD sk,rD l,vi i]=some (.tup [.d (.lst [] 0 (some 0)),Q7 false],[]):=by
  unfold Z2c
  rw[np S 133 (by decide)]
  exact h1
 simp only[Zb,hr,Z4r,cond_true]
 show Z3l A us (some (.tup [.d (.lst [] 0 (some 0)),Q7 false],[],[]))=_
 show(bif Qg us || true then _ else _)=_
 rw[Bool.or_true];rfl
theorem Zni (dp:Nat)(p:Prog)(sk:List Int)(l:List Ent)(i:Int)(hl:l.length<1073741824)(hs:sk.length<1073741824)(r:List Int)(h:Md.real p sk l i=some r):
  ∃ junk k,∀(A:List Blk) (nb:Nat) (us:List Nat),Zb true E (evC E fn (dp+2)) 133 A nb (some ([Zn p,rD sk,rD l,vi i],us))=some (.made (.tup [.sref nb 0 0 r.length 1 k,Q7 true]) [.cells ((rC (r++junk)).map .d) 0 false]):=by
 have h1:=Zp0 S dp p sk l i hl hs
 rw[h] at h1
 obtain⟨junk,k,h1⟩:=h1
 refine⟨junk,k,fun A nb us=> ?_⟩
 have hr:Z2c E (evC E fn (dp+2)) 133 [Zn p,rD sk,rD l,vi i]=some (.tup [.sref 0 0 0 r.length 1 k,Q7 true],[.cells ((rC (r++junk)).map .d) 0 false]):=by
  unfold Z2c
  rw[np S 133 (by decide)]
  exact h1
 simp only[Zb,hr,Z4r,cond_true]
 have ht:Zc3 [.cells ((rC (r++junk)).map .d) 0 false] nb 6 (.tup [.sref 0 0 0 r.length 1 k,Q7 true]) [] []=some (.tup [.sref nb 0 0 r.length 1 k,Q7 true],[.cells ((rC (r++junk)).map .d) 0 false],[0]):=by
  simp[Zc3,Zmk,Z1b]
 rw[ht]
 have hf:Z7b [.cells ((rC (r++junk)).map .d) 0 false]=true:=by
  show(((rC (r++junk)).map AV.d).all _&&true)=true
  rw[Bool.and_true,List.all_map]
  exact Zcc (r++junk)
 show(bif Qg us || (true&&Z7b [.cells ((rC (r++junk)).map .d) 0 false]) then _ else _)=_
 rw[hf,Bool.and_true,Bool.or_true]
 rfl
end
def Zi3 (p:Prog):Nat->List Ent->Int
 | _,[]=> -1
 | k,e::l=>bif Md.isFence p e then(k:Int) else Zi3 p (k+1) l
theorem Zkd (p:Prog):∀(l:List Ent) (k:Nat),decide (Zi3 p k l>=0)=l.any (Md.isFence p)
 | [],_=>rfl
 | e::l,k=>by
  rw[Zi3,List.any_cons]
  cases h:Md.isFence p e with
  | true=>simp
  | false=>
   rw[cond_false,Bool.false_or]
   exact Zkd p l (k+1)
variable {E:Env} {fn:FuncId->Option (Env->cT->cT)}
section
variable (S:Sur E fn)
include S
theorem Z7y:E.lives 242 7=none/\E.lives 242 17=none/\E.lives 242 19=none:=⟨off S 242 7 (by decide) rfl,off S 242 17 (by decide) rfl,off S 242 19 (by decide) rfl⟩
theorem Zye:E.lives 203 7=none:=off S 203 7 (by decide) rfl
theorem Z7x:E.lives 262 1=none/\E.lives 262 13=none:=⟨off S 262 1 (by decide) rfl,off S 262 13 (by decide) rfl⟩
theorem Zjl (dp:Nat)(p:Prog)(of:Regs)(l:List Ent)(i r:Int)(hl:l.length<1073741824):Zk E fn (dp+3) 242 [Zn p,.agg (Z5u of),rD l,vi i,vi r] (.tup [vi (Md.reg p of l i r).1,vb (Md.reg p of l i r).2]):=by
 unfold Zk
 show Zh (evC E fn (dp+2+1) 242 [.d (Zn p),.d (.agg (Z5u of)),.d (rD l),.d (vi i),.d (vi r)] [])=_
 rw[Z2,S.Zfz,Z3,Zgs,Z6 _ _ _ _ _ _ _ _ rfl]
 have hcl:=Z4d l i
 by_cases h:r<0
 ·simp only[eG,go_sem,thq S,nbr S,zN0,zN1,zN2,zN3,zN4,zI0,zI1,zI2,zI3,reduceCtorEq,Z7y S,h,Md.reg]
 by_cases h2:r>=4
 ·simp only[eG,go_sem,thq S,nbr S,zN0,zN1,zN2,zN3,zN4,zI0,zI1,zI2,zI3,reduceCtorEq,Z7y S,h,h2,Md.reg,show 4<=r by omega]
 ·have e1 : (Md.cut l i).take (Md.cut l i).length = Md.cut l i := List.take_of_length_le (by omega)
  have e:Md.reg p of l i r=Md.regGo p r (Md.getR of r) ((Md.cut l i).take (Md.cut l i).length).reverse:=by
   unfold Md.reg;rw[if_neg (by omega),e1]
  rw[e]
  obtain⟨es,hes⟩:=Ze0 (s:=8) rfl (Md.cut l i) (Md.cut l i).length (Nat.le_refl _)
  have hr:=Ztq (E:=inn E 242) (ag:=true) S.bk rfl (Md.cut l i) (by unfold Zf;omega) (by decide) (by simp) []
  rw[hes] at hr
  simp only[eG,go_sem,thq S,nbr S,zN0,zN1,zN2,zN3,zN4,zI0,zI1,zI2,zI3,reduceCtorEq,Z7y S,h,h2,Z2n S,hl,Zre S,hr]
  refine Zmt S (dp+1) p of (Md.cut l i) r (by omega) _ _ (Md.getR of r) Z26 _ rfl rfl rfl rfl ?_ _ (Nat.le_refl _) es hes []
  intro A
  obtain rfl | rfl | rfl | rfl:r=0∨r=1∨r=2∨r=3:=by omega
  ·simp only[eG,go_sem,thq S,nbr S,zN0,zN1,zN2,zN3,zN4,zI0,zI1,zI2,zI3,reduceCtorEq,Z7y S,Int.toNat_zero,Int.reduceToNat,Nat.zero_mul,Md.getR];rfl
  ·simp only[eG,go_sem,thq S,nbr S,zN0,zN1,zN2,zN3,zN4,zI0,zI1,zI2,zI3,reduceCtorEq,Z7y S,Int.reduceToNat,Nat.one_mul,Md.getR];rfl
  ·simp only[eG,go_sem,thq S,nbr S,zN0,zN1,zN2,zN3,zN4,zI0,zI1,zI2,zI3,reduceCtorEq,Z7y S,Int.reduceToNat,Md.getR];rfl
  ·simp only[eG,go_sem,thq S,nbr S,zN0,zN1,zN2,zN3,zN4,zI0,zI1,zI2,zI3,reduceCtorEq,Z7y S,Int.reduceToNat,Md.getR];rfl
theorem Zra (dp:Nat)(p_w p_wn p_fu p_r0 p_r1 p_r2 p_r3:Int)(p_ms:List MemT)(p_ls:List Label)(p_is:List Ins)(of_r0 of_r1 of_r2 of_r3:Int)(l:List Ent)(i r:Int)(hl:l.length<1073741824)(A:List Blk)(nb:Nat)(us:List Nat):Zb false E (evC E fn (dp+3)) 242 A nb (some ([.agg [vi p_w,vi p_wn,vi p_fu,vi p_r0,vi p_r1,vi p_r2,vi p_r3,rD p_ms,rD p_ls,rD p_is],.agg [vi of_r0,vi of_r1,vi of_r2,vi of_r3],rD l,vi i,vi r],us))=some (.made (.d (.tup [vi (Md.reg (⟨p_w,p_wn,p_fu,⟨p_r0,p_r1,p_r2,p_r3⟩,p_ms,p_ls,p_is⟩:Prog) (⟨of_r0,of_r1,of_r2,of_r3⟩:Regs) l i r).1,vb (Md.reg (⟨p_w,p_wn,p_fu,⟨p_r0,p_r1,p_r2,p_r3⟩,p_ms,p_ls,p_is⟩:Prog) (⟨of_r0,of_r1,of_r2,of_r3⟩:Regs) l i r).2])) []):=
 Zk.flat (Zjl S dp (⟨p_w,p_wn,p_fu,⟨p_r0,p_r1,p_r2,p_r3⟩,p_ms,p_ls,p_is⟩:Prog) (⟨of_r0,of_r1,of_r2,of_r3⟩:Regs) l i r hl) (np S 242 (by decide)) (rfl) A nb us
theorem Zjk (dp:Nat)(p:Prog)(of:Regs)(l:List Ent)(i:Int)(v:Val)(hl:l.length<1073741824):Zk E fn (dp+4) 203 [Zn p,.agg (Z5u of),rD l,vi i,.agg (Cl.cells v)] (.tup [vi (Md.val p of l i v).1,vb (Md.val p of l i v).2]):=by
 unfold Zk
 show Zh (evC E fn (dp+3+1) 203 [.d (Zn p),.d (.agg (Z5u of)),.d (rD l),.d (vi i),.d (.agg (Cl.cells v))] [])=_
 rw[Z2,S.Zfy,Z3,Zgr,Z6 _ _ _ _ _ _ _ _ rfl]
 cases h:v.reg<;>simp only[eG,go_sem,thq S,nbr S,zN0,zN1,zN2,zN3,zN4,zI0,zI1,zI2,zI3,reduceCtorEq,Zye S,h,Md.val,Zra S,hl,Z84 S]
theorem Zr9 (dp:Nat)(p_w p_wn p_fu p_r0 p_r1 p_r2 p_r3:Int)(p_ms:List MemT)(p_ls:List Label)(p_is:List Ins)(of_r0 of_r1 of_r2 of_r3:Int)(l:List Ent)(i:Int)(v_g:Bool)(v_n:Int)(hl:l.length<1073741824)(A:List Blk)(nb:Nat)(us:List Nat):Zb false E (evC E fn (dp+4)) 203 A nb (some ([.agg [vi p_w,vi p_wn,vi p_fu,vi p_r0,vi p_r1,vi p_r2,vi p_r3,rD p_ms,rD p_ls,rD p_is],.agg [vi of_r0,vi of_r1,vi of_r2,vi of_r3],rD l,vi i,.agg [vb v_g,vi v_n]],us))=some (.made (.d (.tup [vi (Md.val (⟨p_w,p_wn,p_fu,⟨p_r0,p_r1,p_r2,p_r3⟩,p_ms,p_ls,p_is⟩:Prog) (⟨of_r0,of_r1,of_r2,of_r3⟩:Regs) l i (⟨v_g,v_n⟩:Val)).1,vb (Md.val (⟨p_w,p_wn,p_fu,⟨p_r0,p_r1,p_r2,p_r3⟩,p_ms,p_ls,p_is⟩:Prog) (⟨of_r0,of_r1,of_r2,of_r3⟩:Regs) l i (⟨v_g,v_n⟩:Val)).2])) []):=
 Zk.flat (Zjk S dp (⟨p_w,p_wn,p_fu,⟨p_r0,p_r1,p_r2,p_r3⟩,p_ms,p_ls,p_is⟩:Prog) (⟨of_r0,of_r1,of_r2,of_r3⟩:Regs) l i (⟨v_g,v_n⟩:Val) hl) (np S 203 (by decide)) (rfl) A nb us
theorem Z8i (dp:Nat)(e:Ent)(p:Prog):Zk E fn (dp+2) 241 [.agg (Cl.cells e),.vptr (Yd p)] (vb (Md.isFence p e)):=by
 unfold Zk
 show Zh (evC E fn (dp+1+1) 241 [.d (.agg (Cl.cells e)),.d (.vptr (Yd p))] [])=_
 rw[Z2,S.Z5g,Z3,Z5o,Z6 _ _ _ _ _ _ _ _ rfl]
 simp only[eG,go_sem,thq S,nbr S,zN0,zN1,zN2,zN3,zN4,zI0,zI1,zI2,zI3,reduceCtorEq,Z8 S,Md.isFence]
theorem Z5l (dp:Nat)(e_pc e_vl e_ad e_fr e_nx:Int)(e_dn e_kn e_ft:Bool)(p_w p_wn p_fu p_r0 p_r1 p_r2 p_r3:Int)(p_ms:List MemT)(p_ls:List Label)(p_is:List Ins)(A:List Blk)(nb:Nat)(us:List Nat):Zb false E (evC E fn (dp+2)) 241 A nb (some ([.agg [vi e_pc,vi e_vl,vi e_ad,vi e_fr,vi e_nx,vb e_dn,vb e_kn,vb e_ft],.vptr [vi p_w,vi p_wn,vi p_fu,vi p_r0,vi p_r1,vi p_r2,vi p_r3,rD p_ms,rD p_ls,rD p_is]],us))=some (.made (.d (vb (Md.isFence (⟨p_w,p_wn,p_fu,⟨p_r0,p_r1,p_r2,p_r3⟩,p_ms,p_ls,p_is⟩:Prog) (⟨e_pc,e_vl,e_ad,e_fr,e_nx,e_dn,e_kn,e_ft⟩:Ent)))) []):=
 Zk.flat (Z8i S dp (⟨e_pc,e_vl,e_ad,e_fr,e_nx,e_dn,e_kn,e_ft⟩:Ent) (⟨p_w,p_wn,p_fu,⟨p_r0,p_r1,p_r2,p_r3⟩,p_ms,p_ls,p_is⟩:Prog) ) (np S 241 (by decide)) (rfl) A nb us
theorem Zvp (dp:Nat)(p:Prog)(l:List Ent)(hl:l.length<1073741824)(kx:Nat->K)
  (hx:∀ T,Zh (kx 0 (mk .bot 19 T) [])=some (vi (-1))):
  ∀(m k fuel:Nat),k+m=l.length->m<=fuel->Zh (Zq (inn E 262) (evC E fn (dp+2)) (Zi 6 Zq (inn E 262) (evC E fn (dp+2)) kx (Z0u 0 [.tmp 4]) fuel) kx (Z0u 0 [.tmp 4])
   (mk .bot 19 [(0,.d (rD l)),(1,.d (.fn (.func 241) [.vptr (Yd p)])),(7,aI l.length),(8,aI k)]) [])=some (vi (Zi3 p k (l.drop k))):=by
 intro m
 induction m with
 | zero=>
  intro k fuel hk _
  generalize Zi 6 Zq _ _ kx _ fuel=KK
  rw[Zq,List.drop_of_length_le (by omega)]
  simp only[eG,go_sem,thq S,nbr S,zN0,zN1,zN2,zN3,zN4,zI0,zI1,zI2,zI3,reduceCtorEq,Z7x S,show ¬(k:Int)<l.length by omega,Zi3]
  exact hx _
 | succ m ih=>
  intro k fuel hk hf
  obtain⟨e,he⟩:=Yz (show k<l.length by omega)
  obtain⟨fuel,rfl⟩:∃ m,fuel=m+1:=⟨fuel-1,by omega⟩
  generalize hK:Zi 6 Zq _ _ kx _ (fuel+1)=KK
  rw[Zq,Z02 he]
  cases h0:Md.isFence p e with
  | false=>
   simp only[eG,go_sem,thq S,nbr S,zN0,zN1,zN2,zN3,zN4,zI0,zI1,zI2,zI3,reduceCtorEq,Z7x S,show(k:Int)<l.length by omega,Q4 he,Z5l S,h0,Zi3,wi k (by omega)]
   rw[<-hK,Z1 (on S _ _ [0,1,7,8] (by decide) rfl) rfl _ _ _ _ _ _ _ _ _ rfl]
   simp only[eG,go_sem,thq S,nbr S,zN0,zN1,zN2,zN3,zN4,zI0,zI1,zI2,zI3,reduceCtorEq,Z7x S]
   exact ih (k+1) fuel (by omega) (by omega)
  | true=>simp only[eG,go_sem,thq S,nbr S,zN0,zN1,zN2,zN3,zN4,zI0,zI1,zI2,zI3,reduceCtorEq,Z7x S,show(k:Int)<l.length by omega,Q4 he,Z5l S,h0,Zi3,wi k (by omega)]
theorem Z1c (dp:Nat)(l:List Ent)(p:Prog)(hl:l.length<1073741824):Zk E fn (dp+3) 262 [rD l,.fn (.func 241) [.vptr (Yd p)]] (vi (Zi3 p 0 l)):=by
 unfold Zk
 show Zh (evC E fn (dp+2+1) 262 [.d (rD l),.d (.fn (.func 241) [.vptr (Yd p)])] [])=_
 rw[Z2,S.Jk,Z3,Jl,Z6 _ _ _ _ _ _ _ _ rfl]
 simp only[eG,go_sem,thq S,nbr S,zN0,zN1,zN2,zN3,zN4,zI0,zI1,zI2,zI3,reduceCtorEq,Z7x S]
 rw[Y2,Z1 (on S _ _ [0,1,7,8] (by decide) rfl) rfl _ _ _ _ _ _ _ _ _ rfl]
 simp only[eG,go_sem,thq S,nbr S,zN0,zN1,zN2,zN3,zN4,zI0,zI1,zI2,zI3,reduceCtorEq,Z7x S]
 have:=Zvp S dp p l hl (Z6k 0 (cQ (cOz [st 4 (oV (ci (-1)))]) cZ (inn E 262) (evC E fn (dp+2)) (Z0u 0 [.tmp 4]) (fun _ _ _=>none) (Z0u 0 [.tmp 4])) (fun _ _ _=>none)) ?_ l.length 0 999999999999999999999999999999 (by omega) (by omega)
 ·rw [List.drop_zero] at this
  exact this
 intro T
 simp only[eG,go_sem,thq S,nbr S,zN0,zN1,zN2,zN3,zN4,zI0,zI1,zI2,zI3,reduceCtorEq,Z7x S]
theorem Z1t (dp:Nat)(l:List Ent)(p_w p_wn p_fu p_r0 p_r1 p_r2 p_r3:Int)(p_ms:List MemT)(p_ls:List Label)(p_is:List Ins)(hl:l.length<1073741824)(A:List Blk)(nb:Nat)(us:List Nat):Zb false E (evC E fn (dp+3)) 262 A nb (some ([rD l,.fn (.func 241) [.vptr [vi p_w,vi p_wn,vi p_fu,vi p_r0,vi p_r1,vi p_r2,vi p_r3,rD p_ms,rD p_ls,rD p_is]]],us))=some (.made (.d (vi (Zi3 (⟨p_w,p_wn,p_fu,⟨p_r0,p_r1,p_r2,p_r3⟩,p_ms,p_ls,p_is⟩:Prog) 0 l))) []):=
 Zk.flat (Z1c S dp l (⟨p_w,p_wn,p_fu,⟨p_r0,p_r1,p_r2,p_r3⟩,p_ms,p_ls,p_is⟩:Prog) hl) (np S 262 (by decide)) (rfl) A nb us
theorem Z0z (dp:Nat)(l:List Ent)(p:Prog)(hl:l.length<1073741824):Zk E fn (dp+4) 240 [rD l,.fn (.func 241) [.vptr (Yd p)]] (vb (l.any (Md.isFence p))):=by
 unfold Zk
 show Zh (evC E fn (dp+3+1) 240 [.d (rD l),.d (.fn (.func 241) [.vptr (Yd p)])] [])=_
 rw[Z2,S.J5,Z3,J6,Z6 _ _ _ _ _ _ _ _ rfl]
 rw[<-Zkd p l 0]
 simp only[eG,go_sem,thq S,nbr S,zN0,zN1,zN2,zN3,zN4,zI0,zI1,zI2,zI3,reduceCtorEq,Z1t S,hl]
theorem Z1a (dp:Nat)(l:List Ent)(p_w p_wn p_fu p_r0 p_r1 p_r2 p_r3:Int)(p_ms:List MemT)(p_ls:List Label)(p_is:List Ins)(hl:l.length<1073741824)(A:List Blk)(nb:Nat)(us:List Nat):Zb false E (evC E fn (dp+4)) 240 A nb (some ([rD l,.fn (.func 241) [.vptr [vi p_w,vi p_wn,vi p_fu,vi p_r0,vi p_r1,vi p_r2,vi p_r3,rD p_ms,rD p_ls,rD p_is]]],us))=some (.made (.d (vb (l.any (Md.isFence (⟨p_w,p_wn,p_fu,⟨p_r0,p_r1,p_r2,p_r3⟩,p_ms,p_ls,p_is⟩:Prog))))) []):=
 Zk.flat (Z0z S dp l (⟨p_w,p_wn,p_fu,⟨p_r0,p_r1,p_r2,p_r3⟩,p_ms,p_ls,p_is⟩:Prog) hl) (np S 240 (by decide)) (rfl) A nb us
theorem Zbf (dp:Nat)(p:Prog)(l:List Ent)(i:Int)(hl:l.length<1073741824):Zk E fn (dp+5) 202 [Zn p,rD l,vi i] (vb (Md.blocked p l i)):=by
 unfold Zk
 show Zh (evC E fn (dp+4+1) 202 [.d (Zn p),.d (rD l),.d (vi i)] [])=_
 rw[Z2,S.Z7e,Z3,Z7n,Z6 _ _ _ _ _ _ _ _ rfl]
 have hcl:=Z4d l i
 simp only[eG,go_sem,thq S,nbr S,zN0,zN1,zN2,zN3,zN4,zI0,zI1,zI2,zI3,reduceCtorEq,Z2n S,hl,Zu,Z1a S,show(Md.cut l i).length<1073741824 by omega,Md.blocked]
theorem Z7l (dp:Nat)(p_w p_wn p_fu p_r0 p_r1 p_r2 p_r3:Int)(p_ms:List MemT)(p_ls:List Label)(p_is:List Ins)(l:List Ent)(i:Int)(hl:l.length<1073741824)(A:List Blk)(nb:Nat)(us:List Nat):Zb false E (evC E fn (dp+5)) 202 A nb (some ([.agg [vi p_w,vi p_wn,vi p_fu,vi p_r0,vi p_r1,vi p_r2,vi p_r3,rD p_ms,rD p_ls,rD p_is],rD l,vi i],us))=some (.made (.d (vb (Md.blocked (⟨p_w,p_wn,p_fu,⟨p_r0,p_r1,p_r2,p_r3⟩,p_ms,p_ls,p_is⟩:Prog) l i))) []):=
 Zk.flat (Zbf S dp (⟨p_w,p_wn,p_fu,⟨p_r0,p_r1,p_r2,p_r3⟩,p_ms,p_ls,p_is⟩:Prog) l i hl) (np S 202 (by decide)) (rfl) A nb us
end
end Go.Aug.Mc
