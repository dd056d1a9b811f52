import Derived.Test.YtmfdoekbjkgckaaGreatMc36
import Derived.Test.YtmfdoekbjkgckaaGreatMc40
import Derived.Test.YtmfdoekbjkgckaaGreatMk4
import Derived.Test.YtmfdoekbjkgckaaGreatMk6
import Derived.Test.YtmfdoekbjkgckaaGreatMc33
import Derived.Test.YtmfdoekbjkgckaaGreatMc12
import Derived.Test.YtmfdoekbjkgckaaGreatMl
namespace Go.Aug.Mc
open Go Go.Aug
set_option linter.unusedSimpArgs false
set_option linter.unusedVariables false
set_option maxHeartbeats 40000000
set_option maxRecDepth 200000
theorem Z3n (n:Int):((Md.H6 n).reg=true->0<=(Md.H6 n).n/\(Md.H6 n).n<=3):=by
 obtain⟨r,h1,h2⟩:=Md.N1 n
 intro _
 unfold Md.H6
 split<;>(simp only[h2];omega)
theorem Zow:∀ k<18,1<=Md.MV.getD k 0/\Md.MV.getD k 0<=11:=by decide
theorem Zp7 (x:Int)(n:Nat):1<=(Md.AE x n).kind/\(Md.AE x n).kind<=12/\0<=(Md.AE x n).d/\(Md.AE x n).d<=3/\0<=(Md.AE x n).target/\(Md.AE x n).target<=n/\((Md.AE x n).a.reg=true->0<=(Md.AE x n).a.n/\(Md.AE x n).a.n<=3)/\((Md.AE x n).b.reg=true->0<=(Md.AE x n).b.n/\(Md.AE x n).b.n<=3):=by
 obtain⟨d,d1,d2⟩:=Md.N1 (Md.Y0 x 14)
 have ht:=Md.RR (Md.Y0 x 18) (show 0<n+1 by omega)
 have hk:=Zow _ (Md.RR x (show 0<18 by decide))
 have ha:=Z3n (Md.Y0 x 8)
 have hb:=Z3n (Md.Y0 x 11)
 have h0:(Md.v0).reg=true->0<=(Md.v0).n/\(Md.v0).n<=3:=fun h=>by cases h
 unfold Md.AE
 simp only
 generalize Md.MV.getD (Md.YW x 18) 0=k at hk
 rw[d2]
 split
 ·exact⟨(by show(1:Int)<=1;decide),(by show(1:Int)<=12;decide),by show(0:Int)<=d;omega,by show(d:Int)<=3;omega,Int.le_refl _,by show(0:Int)<=n;omega,ha,hb⟩
 split
 ·exact⟨hk.1,by show k<=12;omega,by show(0:Int)<=d;omega,by show(d:Int)<=3;omega,Int.le_refl _,by show(0:Int)<=n;omega,ha,hb⟩
 split
 ·exact⟨(by show(1:Int)<=5;decide),(by show(5:Int)<=12;decide),Int.le_refl _,(by show(0:Int)<=3;decide),by show(0:Int)<=(Md.YW (Md.Y0 x 18) (n+1):Nat);omega,by show((Md.YW (Md.Y0 x 18) (n+1):Nat):Int)<=n;omega,ha,hb⟩
 split
 ·exact⟨hk.1,by show k<=12;omega,Int.le_refl _,(by show(0:Int)<=3;decide),by show(0:Int)<=(Md.YW (Md.Y0 x 18) (n+1):Nat);omega,by show((Md.YW (Md.Y0 x 18) (n+1):Nat):Int)<=n;omega,h0,h0⟩
 split
 ·exact⟨(by show(1:Int)<=7;decide),(by show(7:Int)<=12;decide),Int.le_refl _,(by show(0:Int)<=3;decide),Int.le_refl _,by show(0:Int)<=n;omega,ha,h0⟩
 ·exact⟨hk.1,by show k<=12;omega,Int.le_refl _,(by show(0:Int)<=3;decide),Int.le_refl _,by show(0:Int)<=n;omega,h0,h0⟩
theorem Znm (l:List Int):Md.Fine (Md.make l):=by
 have hn:=Znl l
 have hl3:=Md.RR (Md.Y0 (Md.kM l 0) 1) (show 0<3 by decide)
 have hlen:(Md.make l).ins.length=Md.nM l:=by show((List.range (Md.nM l)).map _).length=_;rw[List.length_map,List.length_range]
 refine⟨Zni l,⟨?_,?_⟩,by omega,fun x hx=> ?_⟩
 ·show(1:Int)<=(Md.YW (Md.Y0 (Md.kM l 0) 1) 3:Nat)+1;omega
 ·show((Md.YW (Md.Y0 (Md.kM l 0) 1) 3:Nat):Int)+1<=3;omega
 ·have hx : x ∈ (List.range (Md.nM l)).map fun i : Nat => Md.AE (Md.kM l (i + 2)) (Md.nM l) := hx
  obtain⟨i,_,rfl⟩:=List.mem_map.1 hx
  have:=Zp7 (Md.kM l (i+2)) (Md.nM l)
  rw[hlen]
  exact this
theorem Znn (l:List Int):Z7 (Md.make l).mems<=1000:=by
 have h:=(Nk (Md.make l).mems).2
 have h2:(Md.make l).mems.length<=2:=by
  show(Md.JC l (Md.Zx l)).length<=2
  have h1:(Md.Bz l (Md.Zx l)).length<=1:=by unfold Md.Bz;split<;>simp
  unfold Md.JC
  split
  ·rw[List.length_append,List.length_singleton];omega
  ·omega
 omega
theorem SOk.inv {N:Int}{p:Prog}(hp:Md.Fine p){s:State}(h:SOk N s):Md.Inv N p (Md.KT s):=Md.Inv.begin hp h.mem h.mv h.rg h.stk h.pc
def NV (l:List Ent)(e:Ent)(n:Int):List Ent:=if(l.length:Int)>=n then[] else l++[e]
variable {E:Env} {fn:FuncId->Option (Env->cT->cT)}
section
variable (S:Sur E fn)
include S
theorem Z0n:E.lives 114 7=none:=off S 114 7 (by decide) rfl
theorem Zit (dp:Nat)(l:List Ent)(e:Ent)(n:Int)(hl:l.length<1073741823):Z6 E fn (dp+1) 114 [rD l,.agg (Cl.cells e),vi n] (.tup [rD (NV l e n),vb (!decide ((l.length:Int)>=n))]):=by
 unfold Z6
 show Zk (Z4 E fn (dp+1) 114 [.d (rD l),.d (.agg (Cl.cells e)),.d (vi n)] [])=_
 rw[ZK,S.Z8t,ZM,Ze3,ZP _ _ _ _ _ _ _ _ rfl]
 have hl2:l.length<1073741824:=by omega
 by_cases h:(l.length:Int)>=n
 ·simp only[eG,go_sem,Z3 S,Z2 S,Nat.reduceLT,Nat.reduceEqDiff,Nat.reduceAdd,Nat.reduceMul,Nat.reduceLeDiff,Int.reduceEq,Int.reduceLT,Int.reduceLE,Int.reduceNeg,reduceCtorEq,Z0n S,h,NV,Bool.not_true,Bool.not_false]
 ·by_cases h0 : l.length = 0
  ·have : l = [] := List.length_eq_zero_iff.1 h0
   have oa:∀ i,YJ i l=.d (.lst [] 0 (some 0)):=fun i=>by rw[this];rfl
   have ob:Yw l=[]:=by rw[this];rfl
   have hle:l++[e]=[e]:=by rw[this];rfl
   have hd:deep [.cells [.d (vi e.pc),.d (vi e.val),.d (vi e.addr),.d (vi e.frm),.d (vi e.next),.d (vb e.done),.d (vb e.known),.d (vb e.fault)] 0 false] 7 (.sref 0 0 0 1 8 none)=some (.lst (rC [e]) 1 none,[0]):=CA [e] (by simp) 1 rfl 5 8 none rfl
   simp only[eG,go_sem,Z3 S,Z2 S,Nat.reduceLT,Nat.reduceEqDiff,Nat.reduceAdd,Nat.reduceMul,Nat.reduceLeDiff,Int.reduceEq,Int.reduceLT,Int.reduceLE,Int.reduceNeg,reduceCtorEq,Z0n S,h,NV,Bool.not_true,Bool.not_false,RC S hl2,oa,ob,hle,hd,Z9,Z1b,Z1c,Nat.zero_add,Nat.one_mul,Nat.zero_mul,and_self,true_and]
   try rfl
  ·have hne : l.length ≠ 0 := h0
   have k1:(l.length+1)*48<=Z5:=by unfold Z5;omega
   have k2:l.length+1<=Z5:=by unfold Z5;omega
   have hd:deep [.cells ((rC (l++[e])).map .d) 0 false] 7 (.sref 0 0 0 (l.length+1) 8 none)=some (.lst (rC (l++[e])) (l++[e]).length none,[0]):=CA _ (by simp) _ (by simp) 5 8 none rfl
   simp only[eG,go_sem,Z3 S,Z2 S,Nat.reduceLT,Nat.reduceEqDiff,Nat.reduceAdd,Nat.reduceMul,Nat.reduceLeDiff,Int.reduceEq,Int.reduceLT,Int.reduceLE,Int.reduceNeg,reduceCtorEq,Z0n S,h,NV,Bool.not_true,Bool.not_false,RC S hl2,ZC hne,ZB hne,Z9,FT,k1,k2,hd,Jv]
theorem Zrr (dp:Nat)(l:List Ent)(e_pc e_vl e_ad e_fr e_nx:Int)(e_dn e_kn e_ft:Bool)(n:Int)(hl:l.length<1073741823)(A:List Blk)(nb:Nat):ZH false E (Z4 E fn (dp+1)) 114 A nb (some ([rD l,.agg [vi e_pc,vi e_vl,vi e_ad,vi e_fr,vi e_nx,vb e_dn,vb e_kn,vb e_ft],vi n],[]))=some (.made (.d (.tup [rD (NV l (⟨e_pc,e_vl,e_ad,e_fr,e_nx,e_dn,e_kn,e_ft⟩:Ent) n),vb (!decide ((l.length:Int)>=n))])) []):=
 Z6.deep (Zit S dp l (⟨e_pc,e_vl,e_ad,e_fr,e_nx,e_dn,e_kn,e_ft⟩:Ent) n hl) (np S 114 (by decide)) A nb
end
open Nat renaming reduceLT -> zN0, reduceEqDiff -> zN1, reduceAdd -> zN2, reduceMul -> zN3, reduceLeDiff -> zN4
open Int renaming reduceEq -> zI0, reduceLT -> zI1, reduceLE -> zI2, reduceNeg -> zI3
theorem Z7a {l:List Ent}{k:Nat}{e:Ent}(h:k<l.length):BH true 8 (((rC (l.set k e)).map AV.d).drop (k*8))=some (.agg [.d (vi e.pc),.d (vi e.val),.d (vi e.addr),.d (vi e.frm),.d (vi e.next),.d (vb e.done),.d (vb e.known),.d (vb e.fault)]):=by
 have:=TP (e:=e) h 0 (by decide)
 rw[Nat.add_zero] at this;rw[this];rfl
theorem Zop {l:List Ent}{k:Nat}{e:Ent}(h:k<l.length):BH false 1 (((rC (l.set k e)).map AV.d).drop (k*8+3))=some (.d (vi e.frm)):=by rw[TP h 3 (by decide)];rfl
theorem Zhi {l:List Ent}{k:Nat}{e:Ent}(h:l[k]? =some e):l.set k e=l:=by
 obtain⟨hi,rfl⟩:=List.getElem?_eq_some_iff.1 h
 exact List.set_getElem_self hi
variable {E:Env} {fn:FuncId->Option (Env->cT->cT)}
section
variable (S:Sur E fn)
include S
theorem GN:E.lives 110 1=none/\E.lives 110 7=none/\E.lives 110 19=none:=⟨off S 110 1 (by decide) rfl,off S 110 7 (by decide) rfl,off S 110 19 (by decide) rfl⟩
theorem Zlt (dp:Nat)(l:List Ent)(n:Nat)(hn:n<1073741824)(kx:Nat->K)(P:Option (AV×List Blk)->Prop)(R:List Ent)
  (hx:∀ T,ZT .bot T 0=.d (rD l)->ZT .bot T 2=.ref 0 0 0->ZT .bot T 5=.sref 1 0 0 n 8 none->P (kx 0 (mk .bot 38 T) [.cells [zi,zi,zi,zi,zi,zb,zb,zb] 0 false,.cells ((rC R).map .d) 0 false])):
  ∀(m k f:Nat) (L:List Ent),k+m=n->m<=f->L.length=n->L.take k++(L.drop k).map Md.JF=R->
  P (Gv (Zq E 110) (Z4 E fn dp) (Zj 12 Gv (Zq E 110) (Z4 E fn dp) kx (ZX 0 [.cell 2 true 8,.tmp 3,.tmp 4]) f) kx (ZX 0 [.cell 2 true 8,.tmp 3,.tmp 4]) (mk .bot 38 [(0,.d (rD l)),(2,.ref 0 0 0),(5,.sref 1 0 0 n 8 none),(15,.sref 1 0 0 n 8 none),(16,aI n),(17,aI k)]) [.cells [zi,zi,zi,zi,zi,zb,zb,zb] 0 false,.cells ((rC L).map .d) 0 false]):=by
 intro m
 induction m with
 | zero=>
  intro k f L hk _ hL hr
  rw[List.drop_of_length_le (by omega),List.take_of_length_le (by omega)] at hr
  have hr:L=R:=by simpa using hr
  subst hr
  generalize Zj 12 Gv _ _ kx _ f=KK
  first | (conv=>lhs;rw[Gv]) | rw[Gv]
  simp only[eG,go_sem,Z3 S,Z2 S,zN0,zN1,zN2,zN3,zN4,zI0,zI1,zI2,zI3,reduceCtorEq,GN S,show ¬(k:Int)<n by omega]
  exact hx _ rfl rfl rfl
 | succ m ih=>
  intro k f L hk hf hL hr
  have hkL:k<L.length:=by omega
  obtain⟨e,he⟩:=YX hkL
  obtain⟨f,rfl⟩:∃ g,f=g+1:=⟨f-1,by omega⟩
  have hkg:(k:Int)<n:=by omega
  have h0:(0:Int)<=k:=by omega
  have hr':(L.set k (Md.JF e)).take (k+1)++((L.set k (Md.JF e)).drop (k+1)).map Md.JF=R:=by
   rw[<-hr,XH (List.getElem?_set_self hkL),List.take_set_of_le (Nat.le_refl k),List.drop_set_of_lt (by omega),JQ he,List.map_cons,List.append_assoc];rfl
  have next:=ih (k+1) f (L.set k (Md.JF e)) (by omega) (by omega) (by rw[List.length_set];exact hL) hr'
  generalize hK:Zj 12 Gv _ _ kx _ (f+1)=KK
  first | (conv=>lhs;rw[Gv]) | rw[Gv]
  rw[<-Zhi he]
  by_cases h:0<=e.frm
  ·have hp : Md.JF e = { e with frm := Md.ZY (e.frm - 1) } := by unfold Md.JF; rw [if_pos h]
   rw[hp] at next
   simp only[eG,go_sem,Z3 S,Z2 S,zN0,zN1,zN2,zN3,zN4,zI0,zI1,zI2,zI3,reduceCtorEq,GN S,hkg,h0,ge_iff_le,h,Z7a hkL,Zop hkL,CU hkL,wi k (by omega),Int.toNat_natCast,Nat.zero_add]
   rw[<-hK,Z8 (on S _ _ [0,2,5,15,16,17] (by decide) rfl) rfl _ _ _ _ _ _ _ _ _ rfl]
   simp only[eG,go_sem,Z3 S,Z2 S,zN0,zN1,zN2,zN3,zN4,zI0,zI1,zI2,zI3,reduceCtorEq,GN S]
   exact next
  ·have hp : Md.JF e = e := by unfold Md.JF; rw [if_neg h]
   rw[hp] at next
   simp only[eG,go_sem,Z3 S,Z2 S,zN0,zN1,zN2,zN3,zN4,zI0,zI1,zI2,zI3,reduceCtorEq,GN S,hkg,h0,ge_iff_le,h,Z7a hkL,wi k (by omega),Int.toNat_natCast,Nat.zero_add]
   rw[<-hK,Z8 (on S _ _ [0,2,5,15,16,17] (by decide) rfl) rfl _ _ _ _ _ _ _ _ _ rfl]
   simp only[eG,go_sem,Z3 S,Z2 S,zN0,zN1,zN2,zN3,zN4,zI0,zI1,zI2,zI3,reduceCtorEq,GN S]
   exact next
theorem Ziu (dp:Nat)(l:List Ent)(hl:l.length<1073741823)(h0:0<l.length):Z6 E fn (dp+1) 110 [rD l] (.tup [.agg (Cl.cells (Md.ZW l 0)),rD (Md.JA l),vb true]):=by
 unfold Z6
 show Zk (Z4 E fn (dp+1) 110 [.d (rD l)] [])=_
 rw[ZK,S.Z8u,ZM,Ze4,ZP _ _ _ _ _ _ _ _ rfl]
 obtain⟨e,he⟩:=YX h0
 have he0:Md.ZW l 0=e:=by unfold Md.ZW;rw[show(0:Int).toNat=0 from rfl,he];rfl
 have w0:=E5 (l:=l) (i:=0) (by decide) he .i64 8 rfl
 have hdl:(l.drop 1).length=l.length-1:=List.length_drop
 have hd2:(l.drop 1).length<1073741824:=by omega
 have hne:(l.length:Int)≠0:=by omega
 have bd:=PF l.length .i64 1 (by omega) (by omega)
 have h1:(1:Int).toNat=1:=rfl
 have n1:(l.drop 1).length*48<=Z5:=by unfold Z5;omega
 rw[he0]
 have htk:(l.drop 1).take (l.length-1)=l.drop 1:=List.take_of_length_le (by omega)
 by_cases hz:(l.drop 1).length=0
 ·have hz1 : l.drop 1 = [] := List.length_eq_zero_iff.1 hz
  have hpop:Md.JA l=[]:=by unfold Md.JA;rw[hz1];rfl
  have oa:∀ i,YJ i (l.drop 1)=.d (.lst [] 0 (some 0)):=fun i=>by rw[hz1];rfl
  have ob:Yw (l.drop 1)=[]:=by rw[hz1];rfl
  rw[hpop]
  simp only[eG,go_sem,Z3 S,Z2 S,zN0,zN1,zN2,zN3,zN4,zI0,zI1,zI2,zI3,reduceCtorEq,GN S,htk,hne,bd,h1,w0,RC S hd2,Nat.zero_add,Nat.one_mul,Nat.zero_mul,Bool.not_true,Bool.not_false,List.drop_drop,oa,ob]
  rw[Y9,Z8 (on S _ _ [0,2,5,15,16,17] (by decide) rfl) rfl _ _ _ _ _ _ _ _ _ rfl]
  simp only[eG,go_sem,Z3 S,Z2 S,zN0,zN1,zN2,zN3,zN4,zI0,zI1,zI2,zI3,reduceCtorEq,GN S]
  generalize Zj 12 Gv _ _ _ _ _=KK
  first | (conv=>lhs;rw[Gv]) | rw[Gv]
  simp only[eG,go_sem,Z3 S,Z2 S,zN0,zN1,zN2,zN3,zN4,zI0,zI1,zI2,zI3,reduceCtorEq,GN S,w0,show ¬(0:Int)<((0:Nat):Int) by decide]
 ·simp only [eG, go_sem, Z3 S, Z2 S, zN0, zN1, zN2, zN3, zN4, zI0, zI1, zI2, zI3, reduceCtorEq, GN S, htk, hne, bd, h1, w0, RC S hd2, Nat.zero_add, Nat.one_mul, Nat.zero_mul, Bool.not_true, Bool.not_false, List.drop_drop, ZC hz, ZB hz]
  rw[Y9,Z8 (on S _ _ [0,2,5,15,16,17] (by decide) rfl) rfl _ _ _ _ _ _ _ _ _ rfl]
  simp only[eG,go_sem,Z3 S,Z2 S,zN0,zN1,zN2,zN3,zN4,zI0,zI1,zI2,zI3,reduceCtorEq,GN S]
  have go:=fun(kx:Nat->K) (P:Option (AV×List Blk)->Prop) hx=>Zlt S dp l (l.drop 1).length hd2 kx P (Md.JA l) hx (l.drop 1).length 0 999999999999999999999999999999 (l.drop 1) (by omega) (by omega) rfl (by rw[List.take_zero];rfl)
  simp only[Int.cast_ofNat_Int] at go
  refine go _ (fun r=>Zk r=_) ?_
  intro T t0 t2 t5
  have hpl:(Md.JA l).length=(l.drop 1).length:=by unfold Md.JA;rw[List.length_map]
  have hd:deep [.cells ((rC (Md.JA l)).map .d) 0 false] 7 (.sref 0 0 0 (l.drop 1).length 8 none)=some (.lst (rC (Md.JA l)) (Md.JA l).length none,[0]):=CA (Md.JA l) (fun h=>hz (by rw[<-hpl,h];rfl)) _ hpl.symm 5 8 none rfl
  simp only[eG,go_sem,Z3 S,Z2 S,zN0,zN1,zN2,zN3,zN4,zI0,zI1,zI2,zI3,reduceCtorEq,GN S,htk,hne,bd,h1,w0,RC S hd2,Nat.zero_add,Nat.one_mul,Nat.zero_mul,Bool.not_true,Bool.not_false,List.drop_drop,t0,t2,t5,hd]
  rfl
theorem Ew (dp:Nat)(l:List Ent)(hl:l.length<1073741823)(h0:0<l.length)(A:List Blk)(nb:Nat):ZH false E (Z4 E fn (dp+1)) 110 A nb (some ([rD l],[]))=some (.made (.d (.tup [.agg (Cl.cells (Md.ZW l 0)),rD (Md.JA l),vb true])) []):=
 Z6.deep (Ziu S dp l hl h0) (np S 110 (by decide)) A nb
end
theorem GF (rs:List IRes)(c:CT)(E:Env)(call:cT)(f:FuncId)(x y z:AV)(A:List Blk):ZJ 80 rs c E call f [x,y,z] A=c { E with live:=E.lives f,nb0:=A.length } call (ZX A.length rs) (fun _ _ _=>none) (ZX A.length rs) (mk JX 80 (MN 0 [x,y,z])) A:=ZP _ _ _ _ _ _ _ _ rfl
variable {E:Env} {fn:FuncId->Option (Env->cT->cT)}
section
variable (S:Sur E fn)
include S
theorem DX:E.lives 65 7=none/\E.lives 65 21=none:=⟨off S 65 7 (by decide) rfl,off S 65 21 (by decide) rfl⟩
theorem E8 (dp:Nat)(r0 r1 r2 r3:Int)(mm sk:List Int)(pc:Int)(bf:List Ent)(rb:List Int)(en:Int)(hm:mm.length<1073741824)(hs:sk.length<1073741824)(hb:bf.length<1073741824)(hr:rb.length<1073741824)(A:List Blk)(nb:Nat):
  ZH true E (Z4 E fn (dp+2)) 67 A nb (some ([.agg [vi r0,vi r1,vi r2,vi r3,rD mm,rD sk,vi pc,rD bf,rD rb,vi en]],[]))=some (.made (.agg [aI r0,aI r1,aI r2,aI r3,YJ nb mm,YJ (nb+(Yw mm).length) sk,aI pc,.d (rD bf),.d (rD rb),aI en]) (Yw mm++Yw sk)):=by
 have h:=Z5n S dp r0 r1 r2 r3 mm sk pc bf rb en hm hs hb hr
 have hr:JN E (Z4 E fn (dp+2)) 67 [.agg [vi r0,vi r1,vi r2,vi r3,rD mm,rD sk,vi pc,rD bf,rD rb,vi en]]=some (.agg [aI r0,aI r1,aI r2,aI r3,YJ 0 mm,YJ (Yw mm).length sk,aI pc,.d (rD bf),.d (rD rb),aI en],Yw mm++Yw sk):=by
  unfold JN
  rw[np S 67 (by decide)]
  exact h
 simp only[ZH,hr,F0,cond_true]
 by_cases h1:mm.length=0<;>by_cases h2:sk.length=0
 ·have e1 : mm = [] := List.length_eq_zero_iff.1 h1
  have e2:sk=[]:=List.length_eq_zero_iff.1 h2
  subst e1 e2
  rfl
 ·have e1 : mm = [] := List.length_eq_zero_iff.1 h1
  subst e1
  simp[Y4,Y3,ZC h2,ZB h2,Av,DY,DS,B5,Yj,Cl.n]
 ·have e2 : sk = [] := List.length_eq_zero_iff.1 h2
  subst e2
  simp[Y4,Y3,ZC h1,ZB h1,Av,DY,DS,B5,Yj,Cl.n]
 ·simp[ZC h1,ZB h1,ZC h2,ZB h2,Av,DY,DS,B5,Yj,Cl.n]
theorem Zix (dp:Nat)(p:Prog)(c:Conf)(hl:c.buf.length<1073741823)(hm:c.state.mem.length<1073741824)(hs:c.state.stack.length<1073741823)(hr:c.rsb.length<1073741824)(hd:0<=(Md.at_ p (Md.ZW c.buf 0).pc).d/\(Md.at_ p (Md.ZW c.buf 0).pc).d<=3):Z6 E fn (dp+5) 65 [Zw p,ZA c] (.tup [ZA (J8 p c),vb (Md.Qv p c)]):=by
 unfold Z6
 show Zk (Z4 E fn (dp+4+1) 65 [.d (Zw p),.d (ZA c)] [])=_
 rw[ZK,S.Z8y,ZM,Ze7,ZP _ _ _ _ _ _ _ _ rfl]
 cases hcan:Md.Qv p c with
 | false=>simp only[eG,go_sem,Z3 S,Z2 S,zN0,zN1,zN2,zN3,zN4,zI0,zI1,zI2,zI3,reduceCtorEq,DX S,Jz S,hcan,Bool.not_false,J8,Md.QH]
 | true=>
  obtain⟨e,he,he0,hend⟩:=UX hcan
  have hl1:c.buf.length<1073741824:=by omega
  have hs1:c.state.stack.length<1073741824:=by omega
  have hlen:0<c.buf.length:=(List.getElem?_eq_some_iff.1 he).1
  rw[he0] at hd
  generalize hxx:Md.at_ p e.pc=x at *
  have run:=fun a b d A=>(show Z4 E fn (dp+4) 112 [a,b,d] A=FV E (Z4 E fn (dp+3)) 112 [a,b,d] A by rw[ZK,S.Z8x,ZM])
  have e1:c.state.mem.length=0->c.state.mem=[]:=List.length_eq_zero_iff.1
  have e2:c.state.stack.length=0->c.state.stack=[]:=List.length_eq_zero_iff.1
  have d4:x.d=0∨x.d=1∨x.d=2∨x.d=3:=by omega
  have d0:=hd.1
  have d1:x.d<4:=by omega
  have hst:∀(A:List Blk) (m s q b r n:AV),storeAt A 0 0 (x.d.toNat*1) [.d (vi e.val)] 1 (some (.cells [.d (vi c.state.regs.r0),.d (vi c.state.regs.r1),.d (vi c.state.regs.r2),.d (vi c.state.regs.r3),m,s,q,b,r,n] 0 false))=some (A.set 0 (.cells [.d (vi (Md.CH c.state.regs x.d e.val).r0),.d (vi (Md.CH c.state.regs x.d e.val).r1),.d (vi (Md.CH c.state.regs x.d e.val).r2),.d (vi (Md.CH c.state.regs x.d e.val).r3),m,s,q,b,r,n] 0 false)):=fun A m s q b r n=>by
   rcases d4 with d | d | d | d<;>rw[d]<;>rfl
  have n1:c.state.mem.length*8<=Z5:=by unfold Z5;omega
  have n2:c.state.mem.length<=Z5:=by unfold Z5;omega
  have n5:(c.state.stack.length+1)*8<=Z5:=by unfold Z5;omega
  have n6:c.state.stack.length+1<=Z5:=by unfold Z5;omega
  have hdl:∀ b,deep [b,.cells ((rC (c.state.stack++[IntKind.i64.wrap (e.pc+1)])).map .d) 0 false] 6 (.sref 1 0 0 (c.state.stack.length+1) 1 none)=some (.lst (rC (c.state.stack++[IntKind.i64.wrap (e.pc+1)])) (c.state.stack++[IntKind.i64.wrap (e.pc+1)]).length none,[1]):=fun b=>by
   rw[show c.state.stack.length+1=(c.state.stack++[IntKind.i64.wrap (e.pc+1)]).length by simp]
   exact BS rfl (by simp) 4 _ 1 none rfl rfl
  have cp0:∀(A:List Blk) (nb:Nat),ZH false E (Z4 E fn (dp+3)) 136 A nb (some ([.lst [] 0 none],[]))=some (.made (.d (.tup [vi 0,.lst [] 0 none,vb false])) []):=fun A nb=>S3 S (dp+2) [] (by decide) A nb
  have cpF:c.state.stack.dropLast.length=0->∀(A:List Blk) (nb:Nat) (us:List Nat),ZH false E (Z4 E fn (dp+3)) 136 A nb (some ([rD c.state.stack],us))=some (.made (.d (.tup [vi (Md.Cz c.state.stack),rD c.state.stack.dropLast,vb (decide (c.state.stack.length≠0))])) []):=fun h A nb us=>
   Z6.flat (Z04 S (dp+2) c.state.stack hs1) (np S 136 (by decide)) (by rw[List.length_eq_zero_iff.1 h];rfl) A nb us
  have cpU:¬c.state.stack.dropLast.length=0->∀(A:List Blk) (nb ui:Nat) (us:List Nat),ZH false E (Z4 E fn (dp+3)) 136 A nb (some ([rD c.state.stack],ui::us))=some (.turned (.d (.tup [vi (Md.Cz c.state.stack),rD c.state.stack.dropLast,vb (decide (c.state.stack.length≠0))])) (YT A (ui::us))):=fun h A nb ui us=>
   Zgp S (dp+2) c.state.stack hs1 (by
    cases hq:c.state.stack.dropLast with
    | nil=>rw[hq] at h;exact absurd rfl h
    | cons a l=>rfl) A nb ui us
  have hap1:(c.state.stack.length+1)*1<=(List.map AV.d (rC (c.state.stack++[IntKind.i64.wrap (e.pc+1)]))).length:=A5 _ _ (by simp)
  have hap2:(c.state.stack++[IntKind.i64.wrap (e.pc+1)]).take (c.state.stack.length+1)=c.state.stack++[IntKind.i64.wrap (e.pc+1)]:=List.take_of_length_le (by simp)
  have hap3:DV.lst (rC (c.state.stack++[IntKind.i64.wrap (e.pc+1)])) (c.state.stack.length+1) none=rD (c.state.stack++[IntKind.i64.wrap (e.pc+1)]):=by unfold rD;rw[List.length_append];rfl
  have hmem:(c.state.mem.length=0/\(∀ i,YJ i c.state.mem=.d (.lst [] 0 (some 0)))/\Yw c.state.mem=[])∨(¬c.state.mem.length=0/\(∀ i,YJ i c.state.mem=.sref i 0 0 c.state.mem.length 1 none)/\Yw c.state.mem=[.cells ((rC c.state.mem).map .d) 0 false]):=by
   by_cases h:c.state.mem.length=0
   ·exact .inl ⟨h,GK h,GJ h⟩
   ·exact .inr ⟨h,fun i=>ZC h i,ZB h⟩
  have hsk:(c.state.stack.length=0/\(∀ i,YJ i c.state.stack=.d (.lst [] 0 (some 0)))/\Yw c.state.stack=[])∨(¬c.state.stack.length=0/\(∀ i,YJ i c.state.stack=.sref i 0 0 c.state.stack.length 1 none)/\Yw c.state.stack=[.cells ((rC c.state.stack).map .d) 0 false]):=by
   by_cases h:c.state.stack.length=0
   ·exact .inl ⟨h,GK h,GJ h⟩
   ·exact .inr ⟨h,fun i=>ZC h i,ZB h⟩
  rcases hmem with⟨m0,mA,mB⟩ | ⟨m0,mA,mB⟩<;>rcases hsk with⟨s0,sA,sB⟩ | ⟨s0,sA,sB⟩
  all_goals
   generalize hB:(cQ (Z1 [st 44 (oA (.t 3) 0),st 45 (oL (.t 6) true 8),st 46 (oL (.t 9) true 9),st 47 (oK (.f 112) [(.t 44),(.t 45),(.t 46)])]) _:CT)=BB
   simp only[eG,go_sem,Z3 S,Z2 S,zN0,zN1,zN2,zN3,zN4,zI0,zI1,zI2,zI3,reduceCtorEq,DX S,Jz S,hcan,Bool.not_true,Bool.not_false,E8 S,hm,hs,hs1,hr,hl,hl1,hlen,Ew S,he0,Yx S,hxx,Ev S,J8,Md.J7,Md.Jx,Q1,YZ,Q0,YY,eq_true hend,mA,mB,sA,sB,m0,s0]
   rw[<-hB]
   clear hB BB
   cases hf:e.fault with
   | true=>simp only[eG,go_sem,Z3 S,Z2 S,zN0,zN1,zN2,zN3,zN4,zI0,zI1,zI2,zI3,reduceCtorEq,DX S,Jz S,hcan,Bool.not_true,Bool.not_false,E8 S,hm,hs,hs1,hr,hl,hl1,hlen,Ew S,he0,Yx S,hxx,Ev S,J8,Md.J7,Md.Jx,Q1,YZ,Q0,YY,eq_true hend,Yk,A5,AJ,Nat.le_refl,Option.bind_some,Option.map_none,AF,AA,AG,List.take_length,Jv,List.length_set,DA,BX,Ak,n1,n2,n5,n6,ne_eq,not_false_eq_true,not_true_eq_false,Nat.zero_mul,Nat.one_mul,m0,s0,hf];((try rw[hend]);(first | done | rfl | (rw[e1 m0];rfl) | (rw[e2 s0];rfl) | (rw[e1 m0,e2 s0];rfl)))
   | false=>
    by_cases k12:x.kind=12
    ·simp only[eG,go_sem,Z3 S,Z2 S,zN0,zN1,zN2,zN3,zN4,zI0,zI1,zI2,zI3,reduceCtorEq,DX S,Jz S,hcan,Bool.not_true,Bool.not_false,E8 S,hm,hs,hs1,hr,hl,hl1,hlen,Ew S,he0,Yx S,hxx,Ev S,J8,Md.J7,Md.Jx,Q1,YZ,Q0,YY,eq_true hend,Yk,A5,AJ,Nat.le_refl,Option.bind_some,Option.map_none,AF,AA,AG,List.take_length,Jv,List.length_set,DA,BX,Ak,n1,n2,n5,n6,ne_eq,not_false_eq_true,not_true_eq_false,Nat.zero_mul,Nat.one_mul,m0,s0,hf,k12];((try rw[hend]);(first | done | rfl | (rw[e1 m0];rfl) | (rw[e2 s0];rfl) | (rw[e1 m0,e2 s0];rfl)))
    by_cases k11:x.kind=11
    ·simp only[eG,go_sem,Z3 S,Z2 S,zN0,zN1,zN2,zN3,zN4,zI0,zI1,zI2,zI3,reduceCtorEq,DX S,Jz S,hcan,Bool.not_true,Bool.not_false,E8 S,hm,hs,hs1,hr,hl,hl1,hlen,Ew S,he0,Yx S,hxx,Ev S,J8,Md.J7,Md.Jx,Q1,YZ,Q0,YY,eq_true hend,Yk,A5,AJ,Nat.le_refl,Option.bind_some,Option.map_none,AF,AA,AG,List.take_length,Jv,List.length_set,DA,BX,Ak,n1,n2,n5,n6,ne_eq,not_false_eq_true,not_true_eq_false,Nat.zero_mul,Nat.one_mul,m0,s0,hf,k11];((try rw[hend]);(first | done | rfl | (rw[e1 m0];rfl) | (rw[e2 s0];rfl) | (rw[e1 m0,e2 s0];rfl)))
    by_cases k1:x.kind=1
    ·simp only[eG,go_sem,Z3 S,Z2 S,zN0,zN1,zN2,zN3,zN4,zI0,zI1,zI2,zI3,reduceCtorEq,DX S,Jz S,hcan,Bool.not_true,Bool.not_false,E8 S,hm,hs,hs1,hr,hl,hl1,hlen,Ew S,he0,Yx S,hxx,Ev S,J8,Md.J7,Md.Jx,Q1,YZ,Q0,YY,eq_true hend,show Nat.ble 1 1=true from rfl,show Nat.ble 2 2=true from rfl,show Nat.ble 3 3=true from rfl,show Nat.ble 1 2=true from rfl,show Nat.ble 2 3=true from rfl,List.getElem?_nil,List.getD_nil,Nat.reduceSub,Nat.sub_self,run,FV,GF,off S 112 9 (by decide) rfl,off S 112 11 (by decide) rfl,off S 112 13 (by decide) rfl,off S 112 15 (by decide) rfl,off S 112 19 (by decide) rfl,off S 112 21 (by decide) rfl,off S 112 25 (by decide) rfl,off S 112 29 (by decide) rfl,J1,Aj,AN,B3,EC,AP,Aq,Ax,AZ,B0,AS,AU,AQ,AR,AW,AX,Az,Aw,AC,AY,Eq,YR,YG,YH,YK,YM,List.take_succ_cons,List.take_zero,List.drop_succ_cons,List.drop_zero,List.getD_cons_zero,List.getD_cons_succ,ZD,ZE,ZF,ZG,Z9,Option.map_some,Nat.zero_add,Nat.add_zero,hst,d0,d1,Z2 S,Yk,A5,AJ,Nat.le_refl,Option.bind_some,Option.map_none,AF,AA,AG,List.take_length,Jv,List.length_set,DA,BX,Ak,n1,n2,n5,n6,ne_eq,not_false_eq_true,not_true_eq_false,Nat.zero_mul,Nat.one_mul,Int.cast_ofNat_Int,true_and,Md.AK,Md.ZY,m0,s0,hf,k1];((try rw[hend]);(first | done | rfl | (rw[e1 m0];rfl) | (rw[e2 s0];rfl) | (rw[e1 m0,e2 s0];rfl)))
    by_cases k2:x.kind=2
    ·simp only[eG,go_sem,Z3 S,Z2 S,zN0,zN1,zN2,zN3,zN4,zI0,zI1,zI2,zI3,reduceCtorEq,DX S,Jz S,hcan,Bool.not_true,Bool.not_false,E8 S,hm,hs,hs1,hr,hl,hl1,hlen,Ew S,he0,Yx S,hxx,Ev S,J8,Md.J7,Md.Jx,Q1,YZ,Q0,YY,eq_true hend,show Nat.ble 1 1=true from rfl,show Nat.ble 2 2=true from rfl,show Nat.ble 3 3=true from rfl,show Nat.ble 1 2=true from rfl,show Nat.ble 2 3=true from rfl,List.getElem?_nil,List.getD_nil,Nat.reduceSub,Nat.sub_self,run,FV,GF,off S 112 9 (by decide) rfl,off S 112 11 (by decide) rfl,off S 112 13 (by decide) rfl,off S 112 15 (by decide) rfl,off S 112 19 (by decide) rfl,off S 112 21 (by decide) rfl,off S 112 25 (by decide) rfl,off S 112 29 (by decide) rfl,J1,Aj,AN,B3,EC,AP,Aq,Ax,AZ,B0,AS,AU,AQ,AR,AW,AX,Az,Aw,AC,AY,Eq,YR,YG,YH,YK,YM,List.take_succ_cons,List.take_zero,List.drop_succ_cons,List.drop_zero,List.getD_cons_zero,List.getD_cons_succ,ZD,ZE,ZF,ZG,Z9,Option.map_some,Nat.zero_add,Nat.add_zero,hst,d0,d1,Z2 S,Yk,A5,AJ,Nat.le_refl,Option.bind_some,Option.map_none,AF,AA,AG,List.take_length,Jv,List.length_set,DA,BX,Ak,n1,n2,n5,n6,ne_eq,not_false_eq_true,not_true_eq_false,Nat.zero_mul,Nat.one_mul,Int.cast_ofNat_Int,true_and,Md.AK,Md.ZY,m0,s0,hf,k2];((try rw[hend]);(first | done | rfl | (rw[e1 m0];rfl) | (rw[e2 s0];rfl) | (rw[e1 m0,e2 s0];rfl)))
    by_cases k4:x.kind=4
    ·simp only[eG,go_sem,Z3 S,Z2 S,zN0,zN1,zN2,zN3,zN4,zI0,zI1,zI2,zI3,reduceCtorEq,DX S,Jz S,hcan,Bool.not_true,Bool.not_false,E8 S,hm,hs,hs1,hr,hl,hl1,hlen,Ew S,he0,Yx S,hxx,Ev S,J8,Md.J7,Md.Jx,Q1,YZ,Q0,YY,eq_true hend,show Nat.ble 1 1=true from rfl,show Nat.ble 2 2=true from rfl,show Nat.ble 3 3=true from rfl,show Nat.ble 1 2=true from rfl,show Nat.ble 2 3=true from rfl,List.getElem?_nil,List.getD_nil,Nat.reduceSub,Nat.sub_self,run,FV,GF,off S 112 9 (by decide) rfl,off S 112 11 (by decide) rfl,off S 112 13 (by decide) rfl,off S 112 15 (by decide) rfl,off S 112 19 (by decide) rfl,off S 112 21 (by decide) rfl,off S 112 25 (by decide) rfl,off S 112 29 (by decide) rfl,J1,Aj,AN,B3,EC,AP,Aq,Ax,AZ,B0,AS,AU,AQ,AR,AW,AX,Az,Aw,AC,AY,Eq,YR,YG,YH,YK,YM,List.take_succ_cons,List.take_zero,List.drop_succ_cons,List.drop_zero,List.getD_cons_zero,List.getD_cons_succ,ZD,ZE,ZF,ZG,Z9,Option.map_some,Nat.zero_add,Nat.add_zero,hst,d0,d1,Z2 S,Yk,A5,AJ,Nat.le_refl,Option.bind_some,Option.map_none,AF,AA,AG,List.take_length,Jv,List.length_set,DA,BX,Ak,n1,n2,n5,n6,ne_eq,not_false_eq_true,not_true_eq_false,Nat.zero_mul,Nat.one_mul,Int.cast_ofNat_Int,true_and,Md.AK,Md.ZY,m0,s0,hf,k4];((try rw[hend]);(first | done | rfl | (rw[e1 m0];rfl) | (rw[e2 s0];rfl) | (rw[e1 m0,e2 s0];rfl)))
    by_cases k3:x.kind=3
    ·by_cases a : 0 <= e.addr /\ e.addr < c.state.mem.length
     ·obtain ⟨a0, a1⟩ := a
      have a2:e.addr.toNat<c.state.mem.length:=by omega
      first
       | (exfalso;omega)
       | (simp only[eG,go_sem,Z3 S,Z2 S,zN0,zN1,zN2,zN3,zN4,zI0,zI1,zI2,zI3,reduceCtorEq,DX S,Jz S,hcan,Bool.not_true,Bool.not_false,E8 S,hm,hs,hs1,hr,hl,hl1,hlen,Ew S,he0,Yx S,hxx,Ev S,J8,Md.J7,Md.Jx,Q1,YZ,Q0,YY,eq_true hend,show Nat.ble 1 1=true from rfl,show Nat.ble 2 2=true from rfl,show Nat.ble 3 3=true from rfl,show Nat.ble 1 2=true from rfl,show Nat.ble 2 3=true from rfl,List.getElem?_nil,List.getD_nil,Nat.reduceSub,Nat.sub_self,run,FV,GF,off S 112 9 (by decide) rfl,off S 112 11 (by decide) rfl,off S 112 13 (by decide) rfl,off S 112 15 (by decide) rfl,off S 112 19 (by decide) rfl,off S 112 21 (by decide) rfl,off S 112 25 (by decide) rfl,off S 112 29 (by decide) rfl,J1,Aj,AN,B3,EC,AP,Aq,Ax,AZ,B0,AS,AU,AQ,AR,AW,AX,Az,Aw,AC,AY,Eq,YR,YG,YH,YK,YM,List.take_succ_cons,List.take_zero,List.drop_succ_cons,List.drop_zero,List.getD_cons_zero,List.getD_cons_succ,ZD,ZE,ZF,ZG,Z9,Option.map_some,Nat.zero_add,Nat.add_zero,hst,d0,d1,Z2 S,Yk,A5,AJ,Nat.le_refl,Option.bind_some,Option.map_none,AF,AA,AG,List.take_length,Jv,List.length_set,DA,BX,Ak,n1,n2,n5,n6,ne_eq,not_false_eq_true,not_true_eq_false,Nat.zero_mul,Nat.one_mul,Int.cast_ofNat_Int,true_and,Md.AK,Md.ZY,m0,s0,hf,k3,a0,a1,Z3h a2,and_self];((try rw[hend]);(first | done | rfl | (rw[e1 m0];rfl) | (rw[e2 s0];rfl) | (rw[e1 m0,e2 s0];rfl))))
     ·by_cases a0 : 0 <= e.addr
      ·have a1 : ¬ e.addr < c.state.mem.length := fun h => a ⟨a0, h⟩
       have a1':c.state.mem.length=0->¬e.addr<((0:Nat):Int):=fun h=>by omega
       have a1'':c.state.mem.length=0->¬e.addr<0:=fun h=>by omega
       simp only[eG,go_sem,Z3 S,Z2 S,zN0,zN1,zN2,zN3,zN4,zI0,zI1,zI2,zI3,reduceCtorEq,DX S,Jz S,hcan,Bool.not_true,Bool.not_false,E8 S,hm,hs,hs1,hr,hl,hl1,hlen,Ew S,he0,Yx S,hxx,Ev S,J8,Md.J7,Md.Jx,Q1,YZ,Q0,YY,eq_true hend,show Nat.ble 1 1=true from rfl,show Nat.ble 2 2=true from rfl,show Nat.ble 3 3=true from rfl,show Nat.ble 1 2=true from rfl,show Nat.ble 2 3=true from rfl,List.getElem?_nil,List.getD_nil,Nat.reduceSub,Nat.sub_self,run,FV,GF,off S 112 9 (by decide) rfl,off S 112 11 (by decide) rfl,off S 112 13 (by decide) rfl,off S 112 15 (by decide) rfl,off S 112 19 (by decide) rfl,off S 112 21 (by decide) rfl,off S 112 25 (by decide) rfl,off S 112 29 (by decide) rfl,J1,Aj,AN,B3,EC,AP,Aq,Ax,AZ,B0,AS,AU,AQ,AR,AW,AX,Az,Aw,AC,AY,Eq,YR,YG,YH,YK,YM,List.take_succ_cons,List.take_zero,List.drop_succ_cons,List.drop_zero,List.getD_cons_zero,List.getD_cons_succ,ZD,ZE,ZF,ZG,Z9,Option.map_some,Nat.zero_add,Nat.add_zero,hst,d0,d1,Z2 S,Yk,A5,AJ,Nat.le_refl,Option.bind_some,Option.map_none,AF,AA,AG,List.take_length,Jv,List.length_set,DA,BX,Ak,n1,n2,n5,n6,ne_eq,not_false_eq_true,not_true_eq_false,Nat.zero_mul,Nat.one_mul,Int.cast_ofNat_Int,true_and,Md.AK,Md.ZY,m0,s0,hf,k3,a0,a1,a1' ,a1'',and_false];((try rw[hend]);(first | done | rfl | (rw[e1 m0];rfl) | (rw[e2 s0];rfl) | (rw[e1 m0,e2 s0];rfl)))
      ·simp only[eG,go_sem,Z3 S,Z2 S,zN0,zN1,zN2,zN3,zN4,zI0,zI1,zI2,zI3,reduceCtorEq,DX S,Jz S,hcan,Bool.not_true,Bool.not_false,E8 S,hm,hs,hs1,hr,hl,hl1,hlen,Ew S,he0,Yx S,hxx,Ev S,J8,Md.J7,Md.Jx,Q1,YZ,Q0,YY,eq_true hend,show Nat.ble 1 1=true from rfl,show Nat.ble 2 2=true from rfl,show Nat.ble 3 3=true from rfl,show Nat.ble 1 2=true from rfl,show Nat.ble 2 3=true from rfl,List.getElem?_nil,List.getD_nil,Nat.reduceSub,Nat.sub_self,run,FV,GF,off S 112 9 (by decide) rfl,off S 112 11 (by decide) rfl,off S 112 13 (by decide) rfl,off S 112 15 (by decide) rfl,off S 112 19 (by decide) rfl,off S 112 21 (by decide) rfl,off S 112 25 (by decide) rfl,off S 112 29 (by decide) rfl,J1,Aj,AN,B3,EC,AP,Aq,Ax,AZ,B0,AS,AU,AQ,AR,AW,AX,Az,Aw,AC,AY,Eq,YR,YG,YH,YK,YM,List.take_succ_cons,List.take_zero,List.drop_succ_cons,List.drop_zero,List.getD_cons_zero,List.getD_cons_succ,ZD,ZE,ZF,ZG,Z9,Option.map_some,Nat.zero_add,Nat.add_zero,hst,d0,d1,Z2 S,Yk,A5,AJ,Nat.le_refl,Option.bind_some,Option.map_none,AF,AA,AG,List.take_length,Jv,List.length_set,DA,BX,Ak,n1,n2,n5,n6,ne_eq,not_false_eq_true,not_true_eq_false,Nat.zero_mul,Nat.one_mul,Int.cast_ofNat_Int,true_and,Md.AK,Md.ZY,m0,s0,hf,k3,a0,false_and];((try rw[hend]);(first | done | rfl | (rw[e1 m0];rfl) | (rw[e2 s0];rfl) | (rw[e1 m0,e2 s0];rfl)))
    by_cases k8:x.kind=8
    ·simp only[eG,go_sem,Z3 S,Z2 S,zN0,zN1,zN2,zN3,zN4,zI0,zI1,zI2,zI3,reduceCtorEq,DX S,Jz S,hcan,Bool.not_true,Bool.not_false,E8 S,hm,hs,hs1,hr,hl,hl1,hlen,Ew S,he0,Yx S,hxx,Ev S,J8,Md.J7,Md.Jx,Q1,YZ,Q0,YY,eq_true hend,show Nat.ble 1 1=true from rfl,show Nat.ble 2 2=true from rfl,show Nat.ble 3 3=true from rfl,show Nat.ble 1 2=true from rfl,show Nat.ble 2 3=true from rfl,List.getElem?_nil,List.getD_nil,Nat.reduceSub,Nat.sub_self,run,FV,GF,off S 112 9 (by decide) rfl,off S 112 11 (by decide) rfl,off S 112 13 (by decide) rfl,off S 112 15 (by decide) rfl,off S 112 19 (by decide) rfl,off S 112 21 (by decide) rfl,off S 112 25 (by decide) rfl,off S 112 29 (by decide) rfl,J1,Aj,AN,B3,EC,AP,Aq,Ax,AZ,B0,AS,AU,AQ,AR,AW,AX,Az,Aw,AC,AY,Eq,YR,YG,YH,YK,YM,List.take_succ_cons,List.take_zero,List.drop_succ_cons,List.drop_zero,List.getD_cons_zero,List.getD_cons_succ,ZD,ZE,ZF,ZG,Z9,Option.map_some,Nat.zero_add,Nat.add_zero,hst,d0,d1,Z2 S,Yk,A5,AJ,Nat.le_refl,Option.bind_some,Option.map_none,AF,AA,AG,List.take_length,Jv,List.length_set,DA,BX,Ak,n1,n2,n5,n6,ne_eq,not_false_eq_true,not_true_eq_false,Nat.zero_mul,Nat.one_mul,Int.cast_ofNat_Int,true_and,Md.AK,Md.ZY,m0,s0,hf,k8,show(1:Nat)*8<=Z5 by decide,show(8:Nat)<=Z5 by decide,show(1:Nat)<=Z5 by decide,show(1:Nat)*1<=1 by decide,Nat.lt_add_one,Nat.one_ne_zero,show(0:Nat)<1 by decide,hdl,hap1,hap2,hap3];((try rw[hend]);(first | done | rfl | (rw[e1 m0];rfl) | (rw[e2 s0];rfl) | (rw[e1 m0,e2 s0];rfl)))
    by_cases k9:x.kind=9
    ·by_cases sz : c.state.stack.length = 0
     ·first
       | (exfalso;exact s0 sz)
       | (simp only[eG,go_sem,Z3 S,Z2 S,zN0,zN1,zN2,zN3,zN4,zI0,zI1,zI2,zI3,reduceCtorEq,DX S,Jz S,hcan,Bool.not_true,Bool.not_false,E8 S,hm,hs,hs1,hr,hl,hl1,hlen,Ew S,he0,Yx S,hxx,Ev S,J8,Md.J7,Md.Jx,Q1,YZ,Q0,YY,eq_true hend,show Nat.ble 1 1=true from rfl,show Nat.ble 2 2=true from rfl,show Nat.ble 3 3=true from rfl,show Nat.ble 1 2=true from rfl,show Nat.ble 2 3=true from rfl,List.getElem?_nil,List.getD_nil,Nat.reduceSub,Nat.sub_self,run,FV,GF,off S 112 9 (by decide) rfl,off S 112 11 (by decide) rfl,off S 112 13 (by decide) rfl,off S 112 15 (by decide) rfl,off S 112 19 (by decide) rfl,off S 112 21 (by decide) rfl,off S 112 25 (by decide) rfl,off S 112 29 (by decide) rfl,J1,Aj,AN,B3,EC,AP,Aq,Ax,AZ,B0,AS,AU,AQ,AR,AW,AX,Az,Aw,AC,AY,Eq,YR,YG,YH,YK,YM,List.take_succ_cons,List.take_zero,List.drop_succ_cons,List.drop_zero,List.getD_cons_zero,List.getD_cons_succ,ZD,ZE,ZF,ZG,Z9,Option.map_some,Nat.zero_add,Nat.add_zero,hst,d0,d1,Z2 S,Yk,A5,AJ,Nat.le_refl,Option.bind_some,Option.map_none,AF,AA,AG,List.take_length,Jv,List.length_set,DA,BX,Ak,n1,n2,n5,n6,ne_eq,not_false_eq_true,not_true_eq_false,Nat.zero_mul,Nat.one_mul,Int.cast_ofNat_Int,true_and,Md.AK,Md.ZY,m0,s0,hf,k9,cp0];((try rw[hend]);(first | done | rfl | (rw[e1 m0];rfl) | (rw[e2 s0];rfl) | (rw[e1 m0,e2 s0];rfl))))
     ·by_cases sd : c.state.stack.dropLast.length = 0
      ·first
        | (exfalso;exact sz s0)
        | (simp only[eG,go_sem,Z3 S,Z2 S,zN0,zN1,zN2,zN3,zN4,zI0,zI1,zI2,zI3,reduceCtorEq,DX S,Jz S,hcan,Bool.not_true,Bool.not_false,E8 S,hm,hs,hs1,hr,hl,hl1,hlen,Ew S,he0,Yx S,hxx,Ev S,J8,Md.J7,Md.Jx,Q1,YZ,Q0,YY,eq_true hend,show Nat.ble 1 1=true from rfl,show Nat.ble 2 2=true from rfl,show Nat.ble 3 3=true from rfl,show Nat.ble 1 2=true from rfl,show Nat.ble 2 3=true from rfl,List.getElem?_nil,List.getD_nil,Nat.reduceSub,Nat.sub_self,run,FV,GF,off S 112 9 (by decide) rfl,off S 112 11 (by decide) rfl,off S 112 13 (by decide) rfl,off S 112 15 (by decide) rfl,off S 112 19 (by decide) rfl,off S 112 21 (by decide) rfl,off S 112 25 (by decide) rfl,off S 112 29 (by decide) rfl,J1,Aj,AN,B3,EC,AP,Aq,Ax,AZ,B0,AS,AU,AQ,AR,AW,AX,Az,Aw,AC,AY,Eq,YR,YG,YH,YK,YM,List.take_succ_cons,List.take_zero,List.drop_succ_cons,List.drop_zero,List.getD_cons_zero,List.getD_cons_succ,ZD,ZE,ZF,ZG,Z9,Option.map_some,Nat.zero_add,Nat.add_zero,hst,d0,d1,Z2 S,Yk,A5,AJ,Nat.le_refl,Option.bind_some,Option.map_none,AF,AA,AG,List.take_length,Jv,List.length_set,DA,BX,Ak,n1,n2,n5,n6,ne_eq,not_false_eq_true,not_true_eq_false,Nat.zero_mul,Nat.one_mul,Int.cast_ofNat_Int,true_and,Md.AK,Md.ZY,m0,s0,hf,k9,cpF sd];((try rw[hend]);(first | done | rfl | (rw[e1 m0];rfl) | (rw[e2 s0];rfl) | (rw[e1 m0,e2 s0];rfl))))
      ·first
        | (exfalso;exact sz s0)
        | (simp only[eG,go_sem,Z3 S,Z2 S,zN0,zN1,zN2,zN3,zN4,zI0,zI1,zI2,zI3,reduceCtorEq,DX S,Jz S,hcan,Bool.not_true,Bool.not_false,E8 S,hm,hs,hs1,hr,hl,hl1,hlen,Ew S,he0,Yx S,hxx,Ev S,J8,Md.J7,Md.Jx,Q1,YZ,Q0,YY,eq_true hend,show Nat.ble 1 1=true from rfl,show Nat.ble 2 2=true from rfl,show Nat.ble 3 3=true from rfl,show Nat.ble 1 2=true from rfl,show Nat.ble 2 3=true from rfl,List.getElem?_nil,List.getD_nil,Nat.reduceSub,Nat.sub_self,run,FV,GF,off S 112 9 (by decide) rfl,off S 112 11 (by decide) rfl,off S 112 13 (by decide) rfl,off S 112 15 (by decide) rfl,off S 112 19 (by decide) rfl,off S 112 21 (by decide) rfl,off S 112 25 (by decide) rfl,off S 112 29 (by decide) rfl,J1,Aj,AN,B3,EC,AP,Aq,Ax,AZ,B0,AS,AU,AQ,AR,AW,AX,Az,Aw,AC,AY,Eq,YR,YG,YH,YK,YM,List.take_succ_cons,List.take_zero,List.drop_succ_cons,List.drop_zero,List.getD_cons_zero,List.getD_cons_succ,ZD,ZE,ZF,ZG,Z9,Option.map_some,Nat.zero_add,Nat.add_zero,hst,d0,d1,Z2 S,Yk,A5,AJ,Nat.le_refl,Option.bind_some,Option.map_none,AF,AA,AG,List.take_length,Jv,List.length_set,DA,BX,Ak,n1,n2,n5,n6,ne_eq,not_false_eq_true,not_true_eq_false,Nat.zero_mul,Nat.one_mul,Int.cast_ofNat_Int,true_and,Md.AK,Md.ZY,m0,s0,hf,k9,cpU sd];((try rw[hend]);(first | done | rfl | (rw[e1 m0];rfl) | (rw[e2 s0];rfl) | (rw[e1 m0,e2 s0];rfl))))
    simp only[eG,go_sem,Z3 S,Z2 S,zN0,zN1,zN2,zN3,zN4,zI0,zI1,zI2,zI3,reduceCtorEq,DX S,Jz S,hcan,Bool.not_true,Bool.not_false,E8 S,hm,hs,hs1,hr,hl,hl1,hlen,Ew S,he0,Yx S,hxx,Ev S,J8,Md.J7,Md.Jx,Q1,YZ,Q0,YY,eq_true hend,show Nat.ble 1 1=true from rfl,show Nat.ble 2 2=true from rfl,show Nat.ble 3 3=true from rfl,show Nat.ble 1 2=true from rfl,show Nat.ble 2 3=true from rfl,List.getElem?_nil,List.getD_nil,Nat.reduceSub,Nat.sub_self,run,FV,GF,off S 112 9 (by decide) rfl,off S 112 11 (by decide) rfl,off S 112 13 (by decide) rfl,off S 112 15 (by decide) rfl,off S 112 19 (by decide) rfl,off S 112 21 (by decide) rfl,off S 112 25 (by decide) rfl,off S 112 29 (by decide) rfl,J1,Aj,AN,B3,EC,AP,Aq,Ax,AZ,B0,AS,AU,AQ,AR,AW,AX,Az,Aw,AC,AY,Eq,YR,YG,YH,YK,YM,List.take_succ_cons,List.take_zero,List.drop_succ_cons,List.drop_zero,List.getD_cons_zero,List.getD_cons_succ,ZD,ZE,ZF,ZG,Z9,Option.map_some,Nat.zero_add,Nat.add_zero,hst,d0,d1,Z2 S,Yk,A5,AJ,Nat.le_refl,Option.bind_some,Option.map_none,AF,AA,AG,List.take_length,Jv,List.length_set,DA,BX,Ak,n1,n2,n5,n6,ne_eq,not_false_eq_true,not_true_eq_false,Nat.zero_mul,Nat.one_mul,Int.cast_ofNat_Int,true_and,Md.AK,Md.ZY,m0,s0,hf,k1,k2,k3,k4,k8,k9,k11,k12];((try rw[hend]);(first | done | rfl | (rw[e1 m0];rfl) | (rw[e2 s0];rfl) | (rw[e1 m0,e2 s0];rfl)))
end
variable {E:Env} {fn:FuncId->Option (Env->cT->cT)}
section
variable (S:Sur E fn)
include S
theorem FA:E.lives 54 7=none/\E.lives 54 13=none/\E.lives 54 17=none:=⟨off S 54 7 (by decide) rfl,off S 54 13 (by decide) rfl,off S 54 17 (by decide) rfl⟩
theorem Zk9 (dp:Nat)(p:Prog)(c:Conf)(hi:p.ins.length<1073741824):Z6 E fn (dp+2) 54 [Zw p,ZA c] (vi (Md.Q8 p c)):=by
 unfold Z6
 show Zk (Z4 E fn (dp+1+1) 54 [.d (Zw p),.d (ZA c)] [])=_
 rw[ZK,S.Zai,ZM,Zfr,ZP _ _ _ _ _ _ _ _ rfl]
 have hw:IntKind.i64.wrap ((p.ins.length:Int)+1)=p.ins.length+1:=by rw[Q4 (by omega) (by omega)]
 by_cases h1:c.end_=0
 ·by_cases h2 : c.state.pc = -1
  ·simp only[eG,go_sem,Z3 S,Z2 S,zN0,zN1,zN2,zN3,zN4,zI0,zI1,zI2,zI3,reduceCtorEq,FA S,h1,h2,Md.Q8,EB S,ne_eq,not_true_eq_false,not_false_eq_true]
  ·by_cases h3 : (c.buf.length : Int) >= p.window
   ·simp only[eG,go_sem,Z3 S,Z2 S,zN0,zN1,zN2,zN3,zN4,zI0,zI1,zI2,zI3,reduceCtorEq,FA S,h1,h2,h3,Md.Q8,EB S,ne_eq,not_true_eq_false,not_false_eq_true]
   ·by_cases h9 : c.rsb.length = 0
    ·simp only [eG, go_sem, Z3 S, Z2 S, zN0, zN1, zN2, zN3, zN4, zI0, zI1, zI2, zI3, reduceCtorEq, FA S, h1, h2, h3, h9, Md.Q8, EB S, ne_eq, not_true_eq_false, not_false_eq_true, Yx S, EB S, hw, Int.natCast_eq_zero]
     by_cases k5:(Md.at_ p c.state.pc).kind=5
     ·simp only[eG,go_sem,Z3 S,Z2 S,zN0,zN1,zN2,zN3,zN4,zI0,zI1,zI2,zI3,reduceCtorEq,FA S,h9,hw,Int.natCast_eq_zero,ne_eq,not_true_eq_false,not_false_eq_true,Bool.not_true,Bool.not_false,k5,decide_true,decide_false,cond_true,cond_false,if_true,if_false,zI0]
     by_cases k7:(Md.at_ p c.state.pc).kind=7
     ·simp only[eG,go_sem,Z3 S,Z2 S,zN0,zN1,zN2,zN3,zN4,zI0,zI1,zI2,zI3,reduceCtorEq,FA S,h9,hw,Int.natCast_eq_zero,ne_eq,not_true_eq_false,not_false_eq_true,Bool.not_true,Bool.not_false,k7,decide_true,decide_false,cond_true,cond_false,if_true,if_false,zI0,true_or]
     by_cases k9:(Md.at_ p c.state.pc).kind=9
     ·simp only[eG,go_sem,Z3 S,Z2 S,zN0,zN1,zN2,zN3,zN4,zI0,zI1,zI2,zI3,reduceCtorEq,FA S,h9,hw,Int.natCast_eq_zero,ne_eq,not_true_eq_false,not_false_eq_true,Bool.not_true,Bool.not_false,k9,decide_true,decide_false,cond_true,cond_false,if_true,if_false,zI0,or_true,and_self]
     ·simp only[eG,go_sem,Z3 S,Z2 S,zN0,zN1,zN2,zN3,zN4,zI0,zI1,zI2,zI3,reduceCtorEq,FA S,h9,hw,Int.natCast_eq_zero,ne_eq,not_true_eq_false,not_false_eq_true,Bool.not_true,Bool.not_false,k5,k7,k9,decide_true,decide_false,cond_true,cond_false,if_true,if_false,zI0,or_self,false_and]
    ·simp only [eG, go_sem, Z3 S, Z2 S, zN0, zN1, zN2, zN3, zN4, zI0, zI1, zI2, zI3, reduceCtorEq, FA S, h1, h2, h3, h9, Md.Q8, EB S, ne_eq, not_true_eq_false, not_false_eq_true, Yx S, EB S, hw, Int.natCast_eq_zero]
     by_cases k5:(Md.at_ p c.state.pc).kind=5
     ·simp only[eG,go_sem,Z3 S,Z2 S,zN0,zN1,zN2,zN3,zN4,zI0,zI1,zI2,zI3,reduceCtorEq,FA S,h9,hw,Int.natCast_eq_zero,ne_eq,not_true_eq_false,not_false_eq_true,Bool.not_true,Bool.not_false,k5,decide_true,decide_false,cond_true,cond_false,if_true,if_false,zI0]
     by_cases k7:(Md.at_ p c.state.pc).kind=7
     ·simp only[eG,go_sem,Z3 S,Z2 S,zN0,zN1,zN2,zN3,zN4,zI0,zI1,zI2,zI3,reduceCtorEq,FA S,h9,hw,Int.natCast_eq_zero,ne_eq,not_true_eq_false,not_false_eq_true,Bool.not_true,Bool.not_false,k7,decide_true,decide_false,cond_true,cond_false,if_true,if_false,zI0,true_or]
     by_cases k9:(Md.at_ p c.state.pc).kind=9
     ·simp only[eG,go_sem,Z3 S,Z2 S,zN0,zN1,zN2,zN3,zN4,zI0,zI1,zI2,zI3,reduceCtorEq,FA S,h9,hw,Int.natCast_eq_zero,ne_eq,not_true_eq_false,not_false_eq_true,Bool.not_true,Bool.not_false,k9,decide_true,decide_false,cond_true,cond_false,if_true,if_false,zI0,or_true,and_self,and_false,or_self]
     ·simp only[eG,go_sem,Z3 S,Z2 S,zN0,zN1,zN2,zN3,zN4,zI0,zI1,zI2,zI3,reduceCtorEq,FA S,h9,hw,Int.natCast_eq_zero,ne_eq,not_true_eq_false,not_false_eq_true,Bool.not_true,Bool.not_false,k5,k7,k9,decide_true,decide_false,cond_true,cond_false,if_true,if_false,zI0,or_self,false_and]
 ·simp only[eG,go_sem,Z3 S,Z2 S,zN0,zN1,zN2,zN3,zN4,zI0,zI1,zI2,zI3,reduceCtorEq,FA S,h1,Md.Q8,EB S,ne_eq,not_true_eq_false,not_false_eq_true]
theorem WN (dp:Nat)(p_w p_wn p_fu p_r0 p_r1 p_r2 p_r3:Int)(p_ms:List MemT)(p_ls:List Label)(p_is:List Ins)(c_r0 c_r1 c_r2 c_r3:Int)(c_mm c_st:List Int)(c_pc:Int)(c_bf:List Ent)(c_rb:List Int)(c_en:Int)(hi:(⟨p_w,p_wn,p_fu,⟨p_r0,p_r1,p_r2,p_r3⟩,p_ms,p_ls,p_is⟩:Prog).ins.length<1073741824)(A:List Blk)(nb:Nat)(us:List Nat):ZH false E (Z4 E fn (dp+2)) 54 A nb (some ([.agg [vi p_w,vi p_wn,vi p_fu,vi p_r0,vi p_r1,vi p_r2,vi p_r3,rD p_ms,rD p_ls,rD p_is],.agg [vi c_r0,vi c_r1,vi c_r2,vi c_r3,rD c_mm,rD c_st,vi c_pc,rD c_bf,rD c_rb,vi c_en]],us))=some (.made (.d (vi (Md.Q8 (⟨p_w,p_wn,p_fu,⟨p_r0,p_r1,p_r2,p_r3⟩,p_ms,p_ls,p_is⟩:Prog) (⟨⟨⟨c_r0,c_r1,c_r2,c_r3⟩,c_mm,c_st,c_pc⟩,c_bf,c_rb,c_en⟩:Conf)))) []):=
 Z6.flat (Zk9 S dp (⟨p_w,p_wn,p_fu,⟨p_r0,p_r1,p_r2,p_r3⟩,p_ms,p_ls,p_is⟩:Prog) (⟨⟨⟨c_r0,c_r1,c_r2,c_r3⟩,c_mm,c_st,c_pc⟩,c_bf,c_rb,c_en⟩:Conf) hi) (np S 54 (by decide)) (rfl) A nb us
end
section
variable (S:Sur E fn)
include S
theorem NZ:E.lives 62 9=none/\E.lives 62 13=none/\E.lives 62 17=none/\E.lives 62 21=none:=⟨off S 62 9 (by decide) rfl,off S 62 13 (by decide) rfl,off S 62 17 (by decide) rfl,off S 62 21 (by decide) rfl⟩
theorem Zkp (dp:Nat)(p:Prog)(c:Conf)(d:Dir)(hi:p.ins.length<1073741824)(hm:p.mems.length<1073741824)(hl:c.buf.length<1073741824):Z6 E fn (dp+10) 62 [Zw p,ZA c,.agg (Cl.cells d)] (vb (Md.Qw (Z7 p.mems) p c d)):=by
 unfold Z6
 show Zk (Z4 E fn (dp+9+1) 62 [.d (Zw p),.d (ZA c),.d (.agg (Cl.cells d))] [])=_
 rw[ZK,S.Zay,ZM,Zg7,ZP _ _ _ _ _ _ _ _ rfl]
 by_cases k1:d.kind=1
 ·by_cases h0 : 0 <= d.n
  ·simp only[eG,go_sem,Z3 S,Z2 S,zN0,zN1,zN2,zN3,zN4,zI0,zI1,zI2,zI3,reduceCtorEq,NZ S,k1,h0,ge_iff_le,WN S,hi,Md.Qw,Md.CB]
  ·simp only[eG,go_sem,Z3 S,Z2 S,zN0,zN1,zN2,zN3,zN4,zI0,zI1,zI2,zI3,reduceCtorEq,NZ S,k1,h0,ge_iff_le,Md.Qw,Md.CB]
 by_cases k2:d.kind=2
 ·simp only[eG,go_sem,Z3 S,Z2 S,zN0,zN1,zN2,zN3,zN4,zI0,zI1,zI2,zI3,reduceCtorEq,NZ S,k1,k2,PE S,hl,hm,Md.Qw]
 by_cases k3:d.kind=3
 ·simp only[eG,go_sem,Z3 S,Z2 S,zN0,zN1,zN2,zN3,zN4,zI0,zI1,zI2,zI3,reduceCtorEq,NZ S,k1,k2,k3,KP S,hl,Md.Qw]
 by_cases k4:d.kind=4
 ·by_cases n0 : d.n = 0
  ·simp only[eG,go_sem,Z3 S,Z2 S,zN0,zN1,zN2,zN3,zN4,zI0,zI1,zI2,zI3,reduceCtorEq,NZ S,k1,k2,k3,k4,n0,Jz S,Md.Qw]
  ·simp only[eG,go_sem,Z3 S,Z2 S,zN0,zN1,zN2,zN3,zN4,zI0,zI1,zI2,zI3,reduceCtorEq,NZ S,k1,k2,k3,k4,n0,Md.Qw]
 ·simp only[eG,go_sem,Z3 S,Z2 S,zN0,zN1,zN2,zN3,zN4,zI0,zI1,zI2,zI3,reduceCtorEq,NZ S,k1,k2,k3,k4,Md.Qw]
theorem TZ (dp:Nat)(p_w p_wn p_fu p_r0 p_r1 p_r2 p_r3:Int)(p_ms:List MemT)(p_ls:List Label)(p_is:List Ins)(c_r0 c_r1 c_r2 c_r3:Int)(c_mm c_st:List Int)(c_pc:Int)(c_bf:List Ent)(c_rb:List Int)(c_en d_k d_n:Int)(hi:(⟨p_w,p_wn,p_fu,⟨p_r0,p_r1,p_r2,p_r3⟩,p_ms,p_ls,p_is⟩:Prog).ins.length<1073741824)(hm:(⟨p_w,p_wn,p_fu,⟨p_r0,p_r1,p_r2,p_r3⟩,p_ms,p_ls,p_is⟩:Prog).mems.length<1073741824)(hl:(⟨⟨⟨c_r0,c_r1,c_r2,c_r3⟩,c_mm,c_st,c_pc⟩,c_bf,c_rb,c_en⟩:Conf).buf.length<1073741824)(A:List Blk)(nb:Nat)(us:List Nat):ZH false E (Z4 E fn (dp+10)) 62 A nb (some ([.agg [vi p_w,vi p_wn,vi p_fu,vi p_r0,vi p_r1,vi p_r2,vi p_r3,rD p_ms,rD p_ls,rD p_is],.agg [vi c_r0,vi c_r1,vi c_r2,vi c_r3,rD c_mm,rD c_st,vi c_pc,rD c_bf,rD c_rb,vi c_en],.agg [vi d_k,vi d_n]],us))=some (.made (.d (vb (Md.Qw (Z7 (⟨p_w,p_wn,p_fu,⟨p_r0,p_r1,p_r2,p_r3⟩,p_ms,p_ls,p_is⟩:Prog).mems) (⟨p_w,p_wn,p_fu,⟨p_r0,p_r1,p_r2,p_r3⟩,p_ms,p_ls,p_is⟩:Prog) (⟨⟨⟨c_r0,c_r1,c_r2,c_r3⟩,c_mm,c_st,c_pc⟩,c_bf,c_rb,c_en⟩:Conf) (⟨d_k,d_n⟩:Dir)))) []):=
 Z6.flat (Zkp S dp (⟨p_w,p_wn,p_fu,⟨p_r0,p_r1,p_r2,p_r3⟩,p_ms,p_ls,p_is⟩:Prog) (⟨⟨⟨c_r0,c_r1,c_r2,c_r3⟩,c_mm,c_st,c_pc⟩,c_bf,c_rb,c_en⟩:Conf) (⟨d_k,d_n⟩:Dir) hi hm hl) (np S 62 (by decide)) (rfl) A nb us
end
section
variable (S:Sur E fn)
include S
end
end Go.Aug.Mc
