import Derived.Test.YtikiagojnilhiaaGreatMc54
import Derived.Test.YtikiagojnilhiaaGreatMc51
import Derived.Test.YtikiagojnilhiaaGreatMk
import Derived.Test.YtikiagojnilhiaaGreatMc2
import Derived.Test.YtikiagojnilhiaaGreatBo2
namespace Go.Aug.Mc
open Go Go.Aug
set_option linter.unusedSimpArgs false
set_option linter.unusedVariables false
set_option maxHeartbeats 40000000
set_option maxRecDepth 200000
variable {E:Env} {fn:FuncId->Option (Env->CallT->CallT)}
section
variable (S:Sur E fn)
include S
theorem o38_55:E.lives 38 7=none:=off S 38 7 (by decide) rfl
theorem raw_fetc_Fetch (dp:Nat)(p:Prog)(c:Conf)(g:Int)(hi:p.ins.length<1073741824)(hb:c.buf.length<1073741823)(hm:c.state.mem.length<1073741824)(hs:c.state.stack.length<1073741824)(hr:c.rsb.length<1073741823):Says E fn (dp+6) 38 [progD p,confD c,vi g] (.tup [confD (fetchC p c g),vb (Md.canFetch p c g)]):=by
 unfold Says
 show ansOf (evC E fn (dp+5+1) 38 [.d (progD p),.d (confD c),.d (vi g)] [])=_
 rw[evC_succ,S.f_fetc_Fetch,apF_some,F_fetc_Fetch,mkF_run _ _ _ _ _ _ _ _ rfl]
 have hb':c.buf.length<1073741824:=by omega
 have hr':c.rsb.length<1073741824:=by omega
 by_cases g0:g<0
 ·simp only[eG,go_sem,thq S,nbr S,Nat.reduceLT,Nat.reduceEqDiff,Nat.reduceAdd,Nat.reduceMul,Nat.reduceLeDiff,Int.reduceEq,Int.reduceLT,Int.reduceLE,Int.reduceNeg,reduceCtorEq,o38_55 S,g0,fetchC,Md.canFetch,show ¬0<=g by omega,Md.conf0]
 by_cases g1:g>=Md.guesses p c
 ·simp only[eG,go_sem,thq S,nbr S,Nat.reduceLT,Nat.reduceEqDiff,Nat.reduceAdd,Nat.reduceMul,Nat.reduceLeDiff,Int.reduceEq,Int.reduceLT,Int.reduceLE,Int.reduceNeg,reduceCtorEq,o38_55 S,g0,g1,fetchC,Md.canFetch,show ¬g<Md.guesses p c by omega,Md.conf0,c_fetc_Guesses S,hi]
 have hc:Md.canFetch p c g=true:=by simp[Md.canFetch];omega
 have hw:¬(c.buf.length:Int)>=p.window:=by
  have:¬Md.guesses p c<=0:=by omega
  intro h
  apply this
  unfold Md.guesses
  rw[if_pos (.inr (.inr h))]
  exact Int.le_refl 0
 unfold fetchC
 rw[hc,cond_true]
 unfold Md.fetch
 have eg:=entry_go S dp p c g hs hb' hr
 generalize (Md.entry p c g).1=e at eg ⊢
 generalize (Md.entry p c g).2=rb at eg ⊢
 have hp:pushE c.buf e p.window=c.buf++[e]:=by unfold pushE;rw[if_neg hw]
 simp only[confC,stateC,regsC,cl_ent,List.map_cons,List.map_nil,List.cons_append,List.nil_append,List.map_append] at eg
 simp only[eG,go_sem,thq S,nbr S,Nat.reduceLT,Nat.reduceEqDiff,Nat.reduceAdd,Nat.reduceMul,Nat.reduceLeDiff,Int.reduceEq,Int.reduceLT,Int.reduceLE,Int.reduceNeg,reduceCtorEq,o38_55 S,end_b,sp_lt,spN_some,rH_N,rB_cells,List.take_succ_cons,List.take_zero,sw_t,sw_s,dl_nil,dl_cons,rep1',Option.map_some,o_callB,br_go,br_back,br_backB,br_backI,ver_some,ver_nil,ver_cons,ok_nil,ok_cons,un_d,un_agg,un_tup,un_sref,unS_some,unS_none,un_map,unB_cells,put_nil,put_cons,map_iteB,List.drop_succ_cons,List.drop_zero,List.getD_cons_zero,List.getD_cons_succ,show Nat.ble 1 1=true from rfl,nbr S,g0,g1,c_fetc_Guesses S,hi,c_conf_Still S,hm,hs,hb,hb',hr',eg,c_robq_Push S,hp]
end
open Nat renaming reduceLT -> zN0, reduceEqDiff -> zN1, reduceAdd -> zN2, reduceMul -> zN3, reduceLeDiff -> zN4
open Int renaming reduceEq -> zI0, reduceLT -> zI1, reduceLE -> zI2, reduceNeg -> zI3
theorem fetch_small {p:Prog}{c:Conf}{g:Int}(hl:c.buf.length<1073741823)(hm:c.state.mem.length<1073741824)(hs:c.state.stack.length<1073741824)(hr:c.rsb.length<1073741823):
  (Md.fetch p c g).state.mem.length<1073741824/\(Md.fetch p c g).state.stack.length<1073741824/\(Md.fetch p c g).buf.length<1073741824/\(Md.fetch p c g).rsb.length<1073741824:=by
 refine⟨hm,hs,?_,?_⟩
 ·show (c.buf ++ [(Md.entry p c g).1]).length < _
  rw[List.length_append,List.length_singleton];omega
 ·show (Md.entry p c g).2.length < _
  unfold Md.entry
  simp only
  split
  ·show c.rsb.length<_;omega
  split
  ·show c.rsb.length<_;omega
  split
  ·show c.rsb.length<_;omega
  split
  ·show (Md.push c.rsb _).length < _
   unfold Md.push
   rw[List.length_drop,List.length_append,List.length_singleton];omega
  split
  ·split
   ·show c.rsb.length<_;omega
   ·show c.rsb.dropLast.length < _
    rw[List.length_dropLast];omega
  split
  ·show c.rsb.length<_;omega
  ·show c.rsb.length<_;omega
variable {E:Env} {fn:FuncId->Option (Env->CallT->CallT)}
section
variable (S:Sur E fn)
include S
theorem o13_56:E.lives 13 7=none/\E.lives 13 13=none/\E.lives 13 17=none/\E.lives 13 21=none:=⟨off S 13 7 (by decide) rfl,off S 13 13 (by decide) rfl,off S 13 17 (by decide) rfl,off S 13 21 (by decide) rfl⟩
theorem raw_dirs_Do (dp:Nat)(p:Prog)(c:Conf)(d:Dir)(hi:p.ins.length<1073741824)(hp:p.mems.length<1073741824)(hl:c.buf.length<1073741823)(hm:c.state.mem.length<1073741824)(hs:c.state.stack.length<1073741823)(hr:c.rsb.length<1073741823)(hg:(getO (Md.real p c.state.stack c.buf d.n)).length<1073741824)(hd:0<=(Md.at_ p (Md.entAt c.buf 0).pc).d/\(Md.at_ p (Md.entAt c.buf 0).pc).d<=3):Says E fn (dp+11) 13 [progD p,confD c,.agg (Cl.cells d)] (.tup [confD (sayC (cellsI p.mems) p c d).1,rowD (sayC (cellsI p.mems) p c d).2,vb (Md.canSay (cellsI p.mems) p c d)]):=by
 unfold Says
 show ansOf (evC E fn (dp+10+1) 13 [.d (progD p),.d (confD c),.d (.agg (Cl.cells d))] [])=_
 rw[evC_succ,S.f_dirs_Do,apF_some,F_dirs_Do,mkF_run _ _ _ _ _ _ _ _ rfl]
 have hl':c.buf.length<1073741824:=by omega
 have hs':c.state.stack.length<1073741824:=by omega
 have hr':c.rsb.length<1073741824:=by omega
 cases hcan:Md.canSay (cellsI p.mems) p c d with
 | false=>simp only[eG,go_sem,thq S,nbr S,zN0,zN1,zN2,zN3,zN4,zI0,zI1,zI2,zI3,reduceCtorEq,o13_56 S,c_dirs_Can S,hi,hp,hl',hcan,Bool.not_false,sayC,Md.conf0]
 | true=>
  have hsay:sayC (cellsI p.mems) p c d=Md.say (cellsI p.mems) p c d:=by unfold sayC;rw[hcan];rfl
  rw[hsay]
  have cF:=fun(A:List Blk) (nb:Nat)=>Says.deep (raw_fetc_Fetch S (dp+4) p c d.n hi hl hm hs' hr) (np S 38 (by decide)) A nb
  have cD:=fun(A:List Blk) (nb:Nat)=>Says.deep (raw_exec_Do S dp p c d.n hp hm hs' hl' hr' hg) (np S 35 (by decide)) A nb
  have cA:=fun(A:List Blk) (nb:Nat)=>Says.deep (raw_exec_Addr S (dp+2) p c d.n hp hm hs' hl' hr') (np S 36 (by decide)) A nb
  have cR:=fun(A:List Blk) (nb:Nat)=>Says.deep (raw_reti_Do S (dp+5) p c hl hm hs hr' hd) (np S 37 (by decide)) A nb
  have hdd:=hcan
  obtain⟨dk,dn⟩:=d
  simp only at cF cD cA cR hcan hg
  by_cases k1:dk=1
  ·subst k1
   have hc:Md.canFetch p c dn=true:=by simpa [Md.canSay] using hcan
   have hF:fetchC p c dn=Md.fetch p c dn:=by unfold fetchC;rw[hc];rfl
   obtain⟨f1,f2,f3,f4⟩:=fetch_small (p:=p) (c:=c) (g:=dn) hl hm hs' hr
   rw[hF,hc] at cF
   have e1:Md.say (cellsI p.mems) p c ⟨1,dn⟩=(Md.fetch p c dn,[]):=rfl
   rw[e1]
   generalize Md.fetch p c dn=X at *
   simp only[progD,progC,confD,confC,stateC,regsC,List.cons_append,List.nil_append] at cF
   simp only[eG,go_sem,thq S,nbr S,zN0,zN1,zN2,zN3,zN4,zI0,zI1,zI2,zI3,reduceCtorEq,o13_56 S,c_dirs_Can S,hi,hp,hl',hcan,Bool.not_true,cF,c_conf_Still S,f1,f2,f3,f4]
  by_cases k2:dk=2
  ·subst k2
   have hc:Md.can (cellsI p.mems) p c dn=true:=by simpa [Md.canSay] using hcan
   have hF:doC (cellsI p.mems) p c dn=Md.doM (cellsI p.mems) p c dn:=by unfold doC;rw[hc];rfl
   rw[hF,hc] at cD
   have e1:Md.say (cellsI p.mems) p c ⟨2,dn⟩=Md.doM (cellsI p.mems) p c dn:=rfl
   rw[e1]
   generalize Md.doM (cellsI p.mems) p c dn=X at *
   simp only[progD,progC,confD,confC,stateC,regsC,List.cons_append,List.nil_append] at cD
   simp only[eG,go_sem,thq S,nbr S,zN0,zN1,zN2,zN3,zN4,zI0,zI1,zI2,zI3,reduceCtorEq,o13_56 S,c_dirs_Can S,hi,hp,hl',hcan,Bool.not_true,cD]
  by_cases k3:dk=3
  ·subst k3
   have hc:Md.canAddr p c dn=true:=by simpa [Md.canSay] using hcan
   have hF:addrC (cellsI p.mems) p c dn=Md.addrM (cellsI p.mems) p c dn:=by unfold addrC;rw[hc];rfl
   rw[hF,hc] at cA
   have e1:Md.say (cellsI p.mems) p c ⟨3,dn⟩=Md.addrM (cellsI p.mems) p c dn:=rfl
   rw[e1]
   generalize Md.addrM (cellsI p.mems) p c dn=X at *
   simp only[progD,progC,confD,confC,stateC,regsC,List.cons_append,List.nil_append] at cA
   simp only[eG,go_sem,thq S,nbr S,zN0,zN1,zN2,zN3,zN4,zI0,zI1,zI2,zI3,reduceCtorEq,o13_56 S,c_dirs_Can S,hi,hp,hl',hcan,Bool.not_true,cA]
  have h4:dk=4/\dn=0/\Md.canRetire p c=true:=by
   simp[Md.canSay,k1,k2,k3] at hcan
   exact⟨hcan.1.1,hcan.1.2,hcan.2⟩
  obtain⟨k4,n0,hc⟩:=h4
  subst k4
  have hF:retC p c=Md.retire p c:=by unfold retC;rw[hc];rfl
  rw[hF,hc] at cR
  have e1:Md.say (cellsI p.mems) p c ⟨4,dn⟩=(Md.retire p c,[]):=rfl
  rw[e1]
  generalize Md.retire p c=X at *
  simp only[progD,progC,confD,confC,stateC,regsC,List.cons_append,List.nil_append] at cR
  simp only[eG,go_sem,thq S,nbr S,zN0,zN1,zN2,zN3,zN4,zI0,zI1,zI2,zI3,reduceCtorEq,o13_56 S,c_dirs_Can S,hi,hp,hl',hcan,Bool.not_true,cR]
end
section
variable (S:Sur E fn)
include S
end
end Go.Aug.Mc
namespace Go.Aug.Md
open Go Go.Aug
set_option linter.unusedSimpArgs false
set_option linter.unusedVariables false
section
variable {N:Int} {p:Prog} {c:Conf} {k:Nat}
end
end Go.Aug.Md
namespace Go.Aug.Md
open Go Go.Aug
set_option linter.unusedSimpArgs false
set_option linter.unusedVariables false
section
variable {N:Int} {p:Prog} {c:Conf}
theorem cut_0 (l:List Ent):cut l 0=[]:=rfl
theorem at0_reg (p:Prog)(of:Regs)(l:List Ent){r:Int}(h0:0<=r)(h1:r<=3):(reg p of l 0 r).2=true:=by
 unfold reg
 rw[if_neg (by omega),cut_0];rfl
theorem at0_val (p:Prog)(of:Regs)(l:List Ent)(v:Val)(h:v.reg=true->0<=v.n/\v.n<=3):(val p of l 0 v).2=true:=by
 unfold val
 cases hv:v.reg with
 | false=>rfl
 | true=>exact at0_reg p of l (h hv).1 (h hv).2
theorem at0_load (p:Prog)(mem:List Int)(l:List Ent)(addr:Int):(load p mem l 0 addr).2.2=true:=by
 unfold load
 rw[cut_0]
 show(loadGo p mem addr []).2.2=true
 unfold loadGo
 split<;>rfl
theorem ends_none (he:c.end_≠0):all N p c=[]:=by
 have h0:∀ d,canSay N p c d=false:=by
  intro d
  have hb:(c.end_==0)=false:=by simpa using he
  have hg:guesses p c=0:=by unfold guesses;rw[if_pos (.inl he)]
  have ho:∀ i,openM p c i=false:=fun i=>by unfold openM;rw[hb];rfl
  unfold canSay canFetch can canAddr canRetire
  rw[hg,ho,hb]
  split
  ·rw [Bool.and_eq_false_iff]
   by_cases h:0<=d.n
   ·exact .inr (decide_eq_false (by omega))
   ·exact .inl (decide_eq_false h)
  split
  ·rfl
  split
  ·rfl
  ·simp
 cases h:all N p c with
 | nil=>rfl
 | cons d l=>
  have:=(mem_all (N:=N) (p:=p) (c:=c) d).1 (by rw[h];exact List.mem_cons_self)
  rw[h0 d] at this;cases this
theorem alive (hp:Fine p)(h:Inv N p c)(he:c.end_=0):all N p c≠[]:=by
 have key:∃ d,canSay N p c d=true:=by
  have hw:=hp.win
  cases hb:c.buf with
  | nil=>
   have hpc:c.state.pc≠ -1:=fun hpc=>by
    obtain⟨l,e,h1,_⟩:=h.last he hpc
    rw[hb] at h1
    have:=congrArg List.length h1
    simp at this
   have hlen:¬(c.buf.length:Int)>=p.window:=by rw[hb];simp;omega
   have hg:0<guesses p c:=by
    unfold guesses
    rw[if_neg (by simp only[not_or];exact⟨by omega,hpc,hlen⟩)]
    split
    ·decide
    split
    ·omega
    ·decide
   exact⟨⟨1,0⟩,by simp[canSay,canFetch,hg]⟩
  | cons e l=>
   have he0:entAt c.buf 0=e:=by rw[hb];rfl
   have hE:=h.ent 0 e (by rw[hb];rfl)
   have hfa:=hp.at_ e.pc
   have ho:openM p c 0=true:=by
    unfold openM blocked
    rw[he,cut_0,hb]
    simp
   have hx:insM p c 0=at_ p e.pc:=by unfold insM;rw[he0]
   by_cases hr:canRetire p c=true
   ·exact⟨⟨4,0⟩,by simp[canSay,hr]⟩
   ·have hA : (valM p c 0 (at_ p e.pc).a).2 = true := at0_val _ _ _ _ hfa.2.2.2.2.2.2.1
    have hB:(valM p c 0 (at_ p e.pc).b).2=true:=at0_val _ _ _ _ hfa.2.2.2.2.2.2.2
    have hD:(regM p c 0 (at_ p e.pc).d).2=true:=at0_reg _ _ _ hfa.2.2.1 hfa.2.2.2.1
    have hL:∀ ad,(loadM p c 0 ad).2.2=true:=fun ad=>at0_load _ _ _ ad
    cases hd:e.done with
    | false=>
     have k10:(at_ p e.pc).kind≠10:=fun k10=>by
      apply hr
      simp[canRetire,he,hb,entAt,k10]
     have nd:¬((at_ p e.pc).kind=6∨(at_ p e.pc).kind=8∨(at_ p e.pc).kind=11∨(at_ p e.pc).kind=12):=fun hk=>by
      have:=hE.dn hk
      rw[hd] at this;cases this
     refine⟨⟨2,0⟩,?_⟩
     show can N p c 0=true
     unfold can
     rw[ho,he0,hd,hx]
     simp only[Bool.not_false,Bool.true_and]
     unfold ready
     rw[hA,hB,hD,hL]
     split
     ·rfl
     split
     ·rfl
     split
     ·simp
     split
     ·rfl
     split
     ·rfl
     ·exact decide_eq_true (by omega)
    | true=>
     have k3:(at_ p e.pc).kind=3/\e.known=false:=by
      refine⟨Decidable.byContradiction fun k3=>hr ?_,?_⟩
      ·simp[canRetire,he,hb,entAt,hd,k3]
      ·cases hk : e.known with
       | false=>rfl
       | true=>exact absurd (by simp[canRetire,he,hb,entAt,hd,hk]) hr
     refine⟨⟨3,0⟩,?_⟩
     show canAddr p c 0=true
     unfold canAddr
     rw[ho,he0,hx,hA,hB,k3.1,k3.2]
     rfl
 obtain⟨d,hd⟩:=key
 intro h0
 have:=(mem_all (N:=N) (p:=p) (c:=c) d).2 hd
 rw[h0] at this
 cases this
end
end Go.Aug.Md
