import Derived.Test.YtmfdoekbjkgckaaGreatMc4
import Derived.Test.YtmfdoekbjkgckaaGreatMc41
import Derived.Test.YtmfdoekbjkgckaaGreatMc33
import Derived.Test.YtmfdoekbjkgckaaGreatBr
import Derived.Test.YtmfdoekbjkgckaaGreatMc17
namespace Go.Aug.Mc
open Go Go.Aug Go.Aug.Md
set_option linter.unusedSimpArgs false
set_option linter.unusedVariables false
set_option maxHeartbeats 4000000
def YK:Int:=9223372036854775808
structure EHi (e:Ent):Prop where
 vl:e.val<YK
 a0:0<=e.addr
 a1:e.addr<YK
structure Hi (c:Conf):Prop where
 mh:∀ x ∈ c.state.mem,x<YK
 rh:c.state.regs.r0<YK/\c.state.regs.r1<YK/\c.state.regs.r2<YK/\c.state.regs.r3<YK
 eh:∀ e ∈ c.buf,EHi e
 en:0<=c.end_/\c.end_<=2
theorem Fk:(0:Int)<YK:=by decide
theorem HX (w n:Int):ZR w n<YK:=Int.lt_trans (VD w n) (by decide)
theorem Z99 (n:Int):IntKind.i64.wrap n<YK:=by
 have:YK=9223372036854775808:=rfl
 simp[IntKind.wrap,IntKind.bits,IntKind.signed];omega
theorem Zge {a:Int}(h0:0<=a)(h1:a<YK)(k:Nat):a.fdiv (2^k)<YK:=by
 have hp:(0:Int)<2^k:=Int.pow_pos (by decide)
 rw[Int.fdiv_eq_ediv_of_nonneg _ (Int.le_of_lt hp)]
 exact Int.lt_of_le_of_lt (Int.ediv_le_self _ h0) h1
theorem Z9g (b:Bool):CS b<YK:=by cases b<;>decide
theorem Z95 (w op a b:Int):EJ w op a b<YK:=by
 unfold EJ
 cases J2 w with
 | false=>exact Fk
 | true=>
  show(N9 w op (ZR w a) (ZR w b)).getD 0<YK
  unfold N9
  have ha:=EW w a
  repeat' split
  all_goals first
   | exact HX _ _
   | exact Z99 _
   | exact Z9g _
   | exact Fk
   | skip
  all_goals
   simp only[Option.getD_some]
   first | unfold Md.shl | unfold Md.shr
   split
   ·exact Fk
   ·first | exact HX _ _ | exact Zge ha (HX _ _) _
theorem Zgw:EHi Z5o:=⟨by decide,by decide,by decide⟩
variable {N:Int} {p:Prog} {c:Conf}
theorem Hi.at_ (h:Hi c)(i:Int):EHi (ZA c.buf i):=by
 unfold ZA
 cases hx:c.buf[i.toNat]? with
 | none=>exact Zgw
 | some e=>exact h.eh e (List.mem_of_getElem? hx)
theorem Zg5 {r:Regs}(h:r.r0<YK/\r.r1<YK/\r.r2<YK/\r.r3<YK)(i:Int):BD r i<YK:=by
 unfold BD;split
 ·exact h.1
 ·split
  ·exact h.2.1
  ·split
   ·exact h.2.2.1
   ·exact h.2.2.2
theorem Z18 (p:Prog)(r d:Int)(hd:d<YK):∀ l:List Ent,(∀ e ∈ l,e.val<YK)->(ES p r d l).1<YK
 | [],_=>hd
 | e::l,h=>by
  unfold ES
  cases F5 (Md.at_ p e.pc)&&(Md.at_ p e.pc).d==r with
  | true=>
   cases e.done with
   | true=>exact h e (by simp)
   | false=>exact Fk
  | false=>exact Z18 p r d hd l fun e he=>h e (by simp[he])
theorem Z69 {l:List Ent}{i:Int}{e:Ent}(h:e ∈ (cut l i).reverse):e ∈ l:=by
 rw[List.mem_reverse] at h
 exact List.mem_of_mem_take h
theorem Hi.reg (h:Hi c)(i r:Int):(CY p c i r).1<YK:=by
 unfold CY Md.reg
 split
 ·exact Fk
 ·exact Z18 p r _ (Zg5 h.rh r) _ fun e he=>(h.eh e (Z69 he)).vl
theorem Hi.val (h:Hi c)(i:Int)(v:Val):(YS p c i v).1<YK:=by
 unfold YS Md.val
 cases v.reg with
 | true=>exact h.reg i v.n
 | false=>exact HX _ _
theorem Z32 (p:Prog)(mem:List Int)(addr:Int)(hm:∀ x ∈ mem,x<YK):∀ l:List Ent,(∀ e ∈ l,e.val<YK)->(J6 p mem addr l).1<YK
 | [],_=>by
  unfold J6
  split
  ·exact Fk
  ·cases hx : mem[addr.toNat]? with
   | none=>exact Fk
   | some x=>exact hm x (List.mem_of_getElem? hx)
 | e::l,h=>by
  unfold J6
  cases Mw p addr e with
  | true=>
   cases e.done with
   | true=>exact h e (by simp)
   | false=>exact Fk
  | false=>exact Z32 p mem addr hm l fun e he=>h e (by simp[he])
theorem Hi.load (h:Hi c)(i a:Int):(EX p c i a).1<YK:=by
 unfold EX Md.load
 exact Z32 p _ a h.mh _ fun e he=>(h.eh e (Z69 he)).vl
theorem Hi.put (h:Hi c)(i:Int){e:Ent}(he:EHi e):Hi (put c i e):=
 ⟨h.mh, h.rh, fun x hx => by
  rcases List.mem_or_eq_of_mem_set hx with hx | rfl
  ·exact h.eh x hx
  ·exact he,h.en⟩
theorem Hi.goes (h:Hi c)(i:Int){e:Ent}(he:EHi e)(to:Int):Hi (BC c i e to).1:=by
 unfold BC
 split
 ·exact h.put i ⟨he.vl,he.a0,he.a1⟩
 ·refine ⟨h.mh, h.rh, fun x hx => ?_, h.en⟩
  have hx:=List.mem_of_mem_take hx
  rcases List.mem_or_eq_of_mem_set hx with hx | rfl
  ·exact h.eh x hx
  ·exact⟨he.vl,he.a0,he.a1⟩
theorem Hi.doK (h:Hi c)(i:Int){e:Ent}(he:EHi e)(x:Ins){a b d:Int}(ha:a<YK)(hb:b<YK)(hd:d<YK):Hi (doK N p c i e x a b d).1:=by
 unfold Md.doK
 split
 ·exact h.put i ⟨Z95 _ _ _ _,he.a0,he.a1⟩
 ·split
  ·refine h.put i ⟨?_, he.a0, he.a1⟩
   show(if a=0 then d else b)<YK
   split<;>assumption
  ·split
   ·exact h.put i ⟨hd,he.a0,he.a1⟩
   ·split
    ·split
     ·exact h.put i ⟨Fk,EW _ _,HX _ _⟩
     ·exact h.put i ⟨h.load i _,EW _ _,HX _ _⟩
    ·split
     ·exact h.goes i he _
     ·split
      ·exact h.goes i he _
      ·split
       ·split
        ·exact h.put i ⟨he.vl,he.a0,he.a1⟩
        ·split
         ·exact h.put i ⟨he.vl,he.a0,he.a1⟩
         ·exact h.goes i he _
       ·exact h.put i ⟨he.vl,he.a0,he.a1⟩
theorem Hi.addrM (h:Hi c)(i:Int):Hi (addrM N p c i).1:=by
 unfold Md.addrM NZ
 have he:=h.at_ i
 have hs:∀(f:Bool),∀ x ∈ c.buf.set i.toNat { ZA c.buf i with addr:=Md.QP p c i,known:=true,fault:=f },EHi x:=fun f x hx=>by
  rcases List.mem_or_eq_of_mem_set hx with hx | rfl
  ·exact h.eh x hx
  ·exact⟨he.vl,EW _ _,HX _ _⟩
 split
 ·exact h.put i ⟨he.vl,EW _ _,HX _ _⟩
 ·show Hi (MB p c i (Md.QP p c i) _)
  unfold MB
  cases (JH p (c.buf.set i.toNat { ZA c.buf i with addr:=Md.QP p c i,known:=true,fault:=false }) i (Md.QP p c i)).2 with
  | true=>exact⟨h.mh,h.rh,fun x hx=>hs false x (List.mem_of_mem_take hx),h.en⟩
  | false=>exact⟨h.mh,h.rh,fun x hx=>hs false x hx,h.en⟩
theorem Zgs (p:Prog)(c:Conf)(g:Int):EHi (J8 p c g).1:=by
 unfold J8
 dsimp only
 repeat' split
 all_goals exact⟨by show(0:Int)<YK;exact Fk,by show(0:Int)<=0;decide,by show(0:Int)<YK;exact Fk⟩
theorem Hi.fetch (h:Hi c)(g:Int):Hi (fetch p c g):=
 ⟨h.mh, h.rh, fun x hx => by
  rcases List.mem_append.1 hx with hx | hx
  ·exact h.eh x hx
  ·rw[List.mem_singleton.1 hx];exact Zgs p c g,h.en⟩
theorem Zcw {e:Ent}(h:EHi e):EHi (Jv e):=by
 unfold Jv;split
 ·exact⟨h.vl,h.a0,h.a1⟩
 ·exact h
theorem Zgt (e:Ent)(x:Ins):0<=BH e x/\BH e x<=2:=by
 unfold BH
 cases e.fault || decide (x.kind=12) with
 | true=>show(0:Int)<=2/\(2:Int)<=2;decide
 | false=>
  show 0<=(if x.kind=11 then(1:Int) else 0)/\(if x.kind=11 then(1:Int) else 0)<=2
  split<;>decide
theorem Hi.retire (h:Hi c):Hi (retire p c):=by
 have he:=h.at_ 0
 unfold Md.retire
 dsimp only
 split
 ·rename_i hz
  have hb:∀ x ∈ JE c.buf,EHi x:=fun x hx=>by
   obtain⟨y,hy,rfl⟩:=List.mem_map.1 hx
   exact Zcw (h.eh y (List.mem_of_mem_drop hy))
  have hs:(∀ x ∈ (A8 c.state (ZA c.buf 0) (Md.at_ p (ZA c.buf 0).pc)).mem,x<YK)/\((A8 c.state (ZA c.buf 0) (Md.at_ p (ZA c.buf 0).pc)).regs.r0<YK/\(A8 c.state (ZA c.buf 0) (Md.at_ p (ZA c.buf 0).pc)).regs.r1<YK/\(A8 c.state (ZA c.buf 0) (Md.at_ p (ZA c.buf 0).pc)).regs.r2<YK/\(A8 c.state (ZA c.buf 0) (Md.at_ p (ZA c.buf 0).pc)).regs.r3<YK):=by
   unfold A8
   split
   ·exact⟨h.mh,Z0j h.rh _ he.vl⟩
   ·split
    ·split
     ·refine ⟨fun x hx => ?_, h.rh⟩
      rcases List.mem_or_eq_of_mem_set hx with hx | rfl
      ·exact h.mh x hx
      ·exact he.vl
     ·exact⟨h.mh,h.rh⟩
    ·split
     ·exact⟨h.mh,h.rh⟩
     ·split
      ·exact⟨h.mh,h.rh⟩
      ·exact⟨h.mh,h.rh⟩
  exact⟨hs.1,hs.2,hb,h.en⟩
 ·exact⟨h.mh,h.rh,fun x hx=>(by cases hx),Zgt _ _⟩
theorem Hi.say (h:Hi c)(d:Dir):Hi (say N p c d).1:=by
 unfold Md.say
 split
 ·exact h.fetch _
 ·split
  ·exact h.doK _ (h.at_ _) _ (h.val _ _) (h.val _ _) (h.reg _ _)
  ·split
   ·exact h.addrM _
   ·exact h.retire
theorem Hi.walk {N:Int}{p:Prog}:∀(l:List Int) {c:Conf},Hi c->Hi (P3 N p l c)
 | [],_,h=>h
 | x::l,c,h=>by
  unfold P3
  split
  ·exact h
  ·exact Hi.walk l (h.say _)
theorem SOk.hi {N:Int}{s:State}(h:SOk N s):Hi (DU s):=by
 have b:(65537:Int)<YK:=by decide
 exact⟨fun x hx=>Int.lt_trans (h.mh x hx) b,⟨Int.lt_trans h.rh.1 b,Int.lt_trans h.rh.2.1 b,Int.lt_trans h.rh.2.2.1 b,Int.lt_trans h.rh.2.2.2 b⟩,fun x hx=>(by cases hx),⟨Int.le_refl _,(by show(0:Int)<=2;decide)⟩⟩
theorem Zfm (hp:Fine p)(hI:Inv N p c)(h:Hi c)(hN:N<=1000):∀ x ∈ Y3 c,CB x:=by
 have hn:=hp.n
 have hw:=hp.win
 have hb:=hI.buf
 have hm:=hI.mem
 have hpc:=hI.pc
 have hst:=hI.stk
 have hrs:=hI.rsb
 have b:YK=9223372036854775808:=rfl
 have s1:∀ x,0<=x->x<YK->CB x:=fun x h1 h2=>⟨by omega,by omega⟩
 have s2:∀ x:Int,-1<=x->x<=1000->CB x:=fun x h1 h2=>⟨by omega,by omega⟩
 intro x hx
 unfold Y3 JA at hx
 simp only[List.mem_append,List.mem_cons,List.mem_nil_iff,or_false] at hx
 rcases hx with((((((((hx | hx) | hx) | hx) | hx) | hx) | hx) | hx) | hx) | hx
 ·rcases hx with rfl | rfl | rfl | rfl | rfl
  ·exact s1 _ hI.rg.1 h.rh.1
  ·exact s1 _ hI.rg.2.1 h.rh.2.1
  ·exact s1 _ hI.rg.2.2.1 h.rh.2.2.1
  ·exact s1 _ hI.rg.2.2.2 h.rh.2.2.2
  ·exact s2 _ (by omega) (by omega)
 ·exact s1 _ (hI.mv x hx) (h.mh x hx)
 ·subst hx;exact s2 _ (by omega) (by omega)
 ·have := hI.sv x hx
  exact s2 _ (by omega) (by omega)
 ·subst hx;exact s2 _ (by omega) (by omega)
 ·subst hx;exact s2 _ (by omega) (by omega)
 ·obtain ⟨e, he, hx⟩ := List.mem_flatMap.1 hx
  obtain⟨k,hk⟩:=List.getElem?_of_mem he
  have ho:=hI.ent k e hk
  have hh:=h.eh e he
  have hkl:=(List.getElem?_eq_some_iff.1 hk).1
  have h1:=ho.pc
  have h2:=ho.nx
  have h3:=ho.fr
  unfold BG at hx
  simp only[List.mem_cons,List.mem_nil_iff,or_false] at hx
  have st:∀ b,CB (CS b):=fun b=>by cases b<;>exact⟨by decide,by decide⟩
  rcases hx with rfl | rfl | rfl | rfl | rfl | rfl | rfl | rfl
  ·exact s2 _ (by omega) (by omega)
  ·exact s1 _ ho.vl hh.vl
  ·exact s1 _ hh.a0 hh.a1
  ·exact s2 _ (by omega) (by omega)
  ·exact s2 _ (by omega) (by omega)
  ·exact st _
  ·exact st _
  ·exact st _
 ·subst hx;exact s2 _ (by omega) (by omega)
 ·have := hI.rv x hx
  exact s2 _ (by omega) (by omega)
 ·subst hx
  have:=h.en
  exact s2 _ (by omega) (by omega)
open Go Go.Aug
set_option maxHeartbeats 40000000
variable {E:Env} {fn:FuncId->Option (Env->cT->cT)}
section
variable (S:Sur E fn)
include S
end
section
variable (S:Sur E fn)
include S
end
set_option maxRecDepth 200000
section
variable (S:Sur E fn)
include S
end
section
variable (S:Sur E fn)
include S
end
section
variable (S:Sur E fn)
include S
end
end Go.Aug.Mc
