import Derived.Test.YtogckbgcldmaeaaMl2
import Derived.Test.YtogckbgcldmaeaaMk
namespace Go.Aug.Md
open Go Go.Aug
set_option linter.unusedSimpArgs false
set_option linter.unusedVariables false
section
variable {N:Int} {p:Prog} {c:Conf}
theorem setR_nn {r:Regs}(h:0<=r.r0/\0<=r.r1/\0<=r.r2/\0<=r.r3)(i:Int){n:Int}(hn:0<=n):0<=(setR r i n).r0/\0<=(setR r i n).r1/\0<=(setR r i n).r2/\0<=(setR r i n).r3:=by
 unfold setR
 split
 ·exact⟨hn,h.2.1,h.2.2.1,h.2.2.2⟩
 split
 ·exact⟨h.1,hn,h.2.2.1,h.2.2.2⟩
 split
 ·exact⟨h.1,h.2.1,hn,h.2.2.2⟩
 split
 ·exact⟨h.1,h.2.1,h.2.2.1,hn⟩
 ·exact h
theorem popE_pc (e:Ent):(popE e).pc=e.pc:=by unfold popE;split<;>rfl
theorem popE_ok {k:Nat}(hk:k<=1000){r r':Option (List Int)}(hr:r'=r){e:Ent}(h:EntOk N p (k+1) r e):EntOk N p k r' (popE e):=by
 subst hr
 have hf:=h.fr
 unfold popE
 split
 ·rename_i h0
  have hw:w64 (e.frm-1)=e.frm-1:=w64_id (by omega) (by omega)
  refine⟨h.pc,h.nx,?_,h.vl,?_,h.st,h.sk,h.rt,h.cl,h.dn⟩
  ·show -1 <= w64 (e.frm - 1) /\ w64 (e.frm - 1) < (k : Int)
   rw[hw];omega
  ·intro h1 h2
   have:=(h.ld h1 h2).2
   omega
 ·rename_i h0
  exact⟨h.pc,h.nx,⟨hf.1,by omega⟩,h.vl,h.ld,h.st,h.sk,h.rt,h.cl,h.dn⟩
theorem popL_get {l:List Ent}{k:Nat}{e:Ent}(h:(popL l)[k]? =some e):∃ e',l[k+1]? =some e'/\e=popE e':=by
 unfold popL at h
 rw[List.getElem?_map,List.getElem?_drop,Nat.add_comm] at h
 cases hx:l[k+1]? with
 | none=>rw[hx] at h;cases h
 | some e'=>rw[hx] at h;simp at h;exact⟨e',rfl,h.symm⟩
theorem popL_pcs (l:List Ent):(popL l).map Ent.pc=(l.map Ent.pc).drop 1:=by
 unfold popL
 rw[List.map_map,List.map_drop]
 congr 1
 exact List.map_congr_left fun e _=>popE_pc e
theorem realGo_cons (p:Prog)(e:Ent)(l:List Ent)(st:List Int):realGo p (e::l) st=if(at_ p e.pc).kind=8 then(if 4<=st.length then none else realGo p l (st++[w64 (e.pc+1)])) else if(at_ p e.pc).kind=9 then(if st.length=0 then none else realGo p l st.dropLast) else realGo p l st:=rfl
theorem real_pop (st:List Int)(e:Ent)(l:List Ent)(k:Nat){st':List Int}
  (h8:(at_ p e.pc).kind=8->st.length<4/\st'=st++[w64 (e.pc+1)]) (h9:(at_ p e.pc).kind=9->st≠[]/\st'=st.dropLast) (h0:(at_ p e.pc).kind≠8->(at_ p e.pc).kind≠9->st'=st):
  real p st' (popL (e::l)) (k:Int)=real p st (e::l) ((k+1:Nat):Int):=by
 have e1:real p st (e::l) ((k+1:Nat):Int)=realGo p (e::cut l (k:Int)) st:=by
  unfold real cut
  rw[show(((k+1:Nat):Int)).toNat=k+1 by omega,show((k:Int)).toNat=k by omega,List.take_succ_cons]
 have e2:real p st' (popL (e::l)) (k:Int)=realGo p (cut l (k:Int)) st':=by
  unfold real
  exact realGo_pcs p _ _ _ (by rw[cut_map,cut_map,popL_pcs];rfl)
 rw[e1,e2,realGo_cons]
 by_cases k8:(at_ p e.pc).kind=8
 ·obtain ⟨a, rfl⟩ := h8 k8
  rw[if_pos k8,if_neg (by omega)]
 ·rw [if_neg k8]
  by_cases k9:(at_ p e.pc).kind=9
  ·obtain ⟨a, rfl⟩ := h9 k9
   rw[if_pos k9,if_neg (fun h=>a (List.length_eq_zero_iff.1 h))]
  ·rw[if_neg k9,h0 k8 k9]
theorem Inv.retired (hp:Fine p)(h:Inv N p c)(hc:canRetire p c=true):Inv N p (retire p c):=by
 have hc':=hc
 simp only[canRetire,Bool.and_eq_true,beq_iff_eq,decide_eq_true_eq,Bool.or_eq_true] at hc'
 obtain⟨⟨⟨hend,hlen⟩,hdone⟩,hknown⟩:=hc'
 obtain⟨e,l,hb⟩:∃ e l,c.buf=e::l:=by
  cases hq:c.buf with
  | nil=>exact absurd (by rw[hq];rfl) hlen
  | cons e l=>exact⟨e,l,rfl⟩
 have he0:entAt c.buf 0=e:=by rw[hb];rfl
 have hE:=h.ent 0 e (by rw[hb];rfl)
 have hn:=hp.n
 have hw:=hp.win
 have hbl:=h.buf
 have hreal0:Md.real p c.state.stack c.buf ((0:Nat):Int)=some c.state.stack:=by
  unfold Md.real Md.cut
  rw[show(((0:Nat):Int)).toNat=0 from rfl,List.take_zero];rfl
 rw[he0] at hdone hknown
 unfold retire
 rw[he0]
 simp only
 split
 ·rename_i hgo
  have hnf:e.fault=false/\(at_ p e.pc).kind≠12/\(at_ p e.pc).kind≠11:=by
   unfold endedM at hgo
   cases hf:e.fault with
   | true=>rw[hf] at hgo;simp at hgo
   | false=>
    rw[hf] at hgo
    by_cases k12:(at_ p e.pc).kind=12
    ·simp[k12] at hgo
    ·by_cases k11 : (at_ p e.pc).kind = 11
     ·simp[k11] at hgo
     ·exact⟨rfl,k12,k11⟩
  obtain⟨hf,k12,k11⟩:=hnf
  have dn:(at_ p e.pc).kind≠10->e.done=true:=fun h=>by
   rcases hdone with h1 | h1
   ·exact h1
   ·exact absurd h1 h
  obtain⟨st,hst,hmem,hmv,hrg,hstk,hsv,hpc,h8,h9,h0⟩:∃ st,commitM c.state e (at_ p e.pc)=st/\(st.mem.length:Int)=N/\(∀ x ∈ st.mem,0<=x)/\(0<=st.regs.r0/\0<=st.regs.r1/\0<=st.regs.r2/\0<=st.regs.r3)/\st.stack.length<=4/\(∀ x ∈ st.stack,0<=x/\x<=p.ins.length)/\st.pc=c.state.pc/\
    ((at_ p e.pc).kind=8->c.state.stack.length<4/\st.stack=c.state.stack++[w64 (e.pc+1)])/\((at_ p e.pc).kind=9->c.state.stack≠[]/\st.stack=c.state.stack.dropLast)/\((at_ p e.pc).kind≠8->(at_ p e.pc).kind≠9->st.stack=c.state.stack):=by
   refine⟨_,rfl,?_⟩
   have hs4:=h.stk
   unfold commitM
   split
   ·rename_i kk
    exact⟨h.mem,h.mv,setR_nn h.rg _ hE.vl,h.stk,h.sv,rfl,fun h=>by omega,fun h=>by omega,fun _ _=>rfl⟩
   split
   ·rename_i _ k3
    split
    ·refine ⟨by simpa using h.mem, fun x hx => ?_, h.rg, h.stk, h.sv, rfl, fun h => by omega, fun h => by omega, fun _ _ => rfl⟩
     rcases List.mem_or_eq_of_mem_set hx with hx | rfl
     ·exact h.mv x hx
     ·exact hE.vl
    ·exact⟨h.mem,h.mv,h.rg,h.stk,h.sv,rfl,fun h=>by omega,fun h=>by omega,fun _ _=>rfl⟩
   split
   ·rename_i _ _ k8
    obtain⟨l',hl',hlt⟩:=hE.cl k8 hf
    rw[hreal0] at hl'
    simp at hl';subst hl'
    obtain⟨p0,p1⟩:=at_lt (p:=p) (pc:=e.pc) k12
    refine⟨h.mem,h.mv,h.rg,?_,fun x hx=> ?_,rfl,fun _=>⟨hlt,rfl⟩,fun h=>by omega,fun h=>absurd k8 h⟩
    ·show (c.state.stack ++ [w64 (e.pc + 1)]).length <= 4
     rw[List.length_append,List.length_singleton];omega
    ·rcases List.mem_append.1 hx with hx | hx
     ·exact h.sv x hx
     ·simp at hx; subst hx
      rw[w64_id (by omega) (by omega)];omega
   split
   ·rename_i _ _ _ k9
    obtain⟨l',hl',hne⟩:=hE.rt k9 (dn (by omega)) hf
    rw[hreal0] at hl'
    simp at hl';subst hl'
    refine⟨h.mem,h.mv,h.rg,?_,fun x hx=>h.sv x ((List.dropLast_sublist _).subset hx),rfl,fun h=>by omega,fun _=>⟨hne,rfl⟩,fun _ h=>absurd k9 h⟩
    show c.state.stack.dropLast.length<=4
    rw[List.length_dropLast];omega
   ·rename_i _ _ k8 k9
    exact⟨h.mem,h.mv,h.rg,h.stk,h.sv,rfl,fun h=>absurd h k8,fun h=>absurd h k9,fun _ _=>rfl⟩
  rw[hst]
  refine⟨hmem,hmv,hrg,?_,h.rsb,h.rv,hstk,hsv,by show -1<=st.pc/\st.pc<=_;rw[hpc];exact h.pc,?_,?_⟩
  ·show ((popL c.buf).length : Int) <= _
   unfold popL
   rw[List.length_map,List.length_drop];omega
  ·intro _ h2
   have h2:st.pc= -1:=h2
   rw[hpc] at h2
   obtain⟨r,x,hr,hs⟩:=h.last hend h2
   rw[hb] at hr
   cases r with
   | nil=>
    simp at hr
    obtain⟨rfl,_⟩:=hr
    rcases hs with hs | hs
    ·exact absurd hs k11
    ·exact absurd hs k12
   | cons y r=>
    simp at hr
    obtain⟨rfl,hr⟩:=hr
    refine⟨r.map popE,popE x,?_,?_⟩
    ·show popL c.buf = _
     unfold popL
     rw[hb,hr];simp
    ·unfold stops at hs ⊢;rw[popE_pc];exact hs
  ·intro k x hx
   have hx:(popL c.buf)[k]? =some x:=hx
   obtain⟨x',h1,rfl⟩:=popL_get hx
   have hk:k+1<c.buf.length:=(List.getElem?_eq_some_iff.1 h1).1
   refine popE_ok (by omega) ?_ (h.ent (k+1) x' h1)
   show Md.real p st.stack (popL c.buf) k=_
   rw[hb]
   exact real_pop c.state.stack e l k h8 h9 h0
 ·rename_i hend2
  refine⟨h.mem,h.mv,h.rg,?_,by simp,(fun x hx=>by cases hx),h.stk,h.sv,⟨by show -1<=e.pc;have:=hE.pc;omega,hE.pc.2⟩,fun h1=>absurd h1 hend2,fun k x hx=>by simp at hx⟩
  show((0:Nat):Int)<=_
  omega
theorem Inv.said (hp:Fine p)(h:Inv N p c)(d:Dir)(hc:canSay N p c d=true):Inv N p (say N p c d).1:=by
 unfold canSay at hc
 unfold say
 split at hc
 ·rename_i h1;rw[if_pos h1];exact h.fetched hp hc
 ·rename_i h1; rw [if_neg h1]
  split at hc
  ·rename_i h2;rw[if_pos h2];exact h.done hp hc
  ·rename_i h2; rw [if_neg h2]
   split at hc
   ·rename_i h3;rw[if_pos h3];exact h.addr hp hc
   ·rename_i h3; rw [if_neg h3]
    simp only[Bool.and_eq_true] at hc
    exact h.retired hp hc.2
theorem mem_all (d:Dir):d ∈ all N p c↔canSay N p c d=true:=by
 unfold all canSay
 simp only[List.mem_append,List.mem_map,List.mem_range,List.mem_filter]
 constructor
 ·rintro (((⟨n, h, rfl⟩ | ⟨n, ⟨_, h⟩, rfl⟩) | ⟨n, ⟨_, h⟩, rfl⟩) | h)
  ·rw [if_pos rfl]
   simp[canFetch];omega
  ·rw[if_neg (by simp),if_pos rfl];exact h
  ·rw[if_neg (by simp),if_neg (by simp),if_pos rfl];exact h
  ·cases hr : canRetire p c with
   | false=>rw[hr] at h;cases h
   | true=>
    rw[hr] at h
    simp at h
    subst h
    simp
 ·intro h
  split at h
  ·rename_i h1
   simp only[canFetch,Bool.and_eq_true,decide_eq_true_eq] at h
   refine .inl (.inl (.inl ⟨d.n.toNat,by omega,?_⟩))
   cases d with
   | mk k n=>
    simp at h1 h ⊢
    exact⟨h1.symm,by omega⟩
  split at h
  ·rename_i _ h2
   have ho:openM p c d.n=true:=by
    have h:=h
    simp only[can,Bool.and_eq_true] at h;exact h.1.1
   obtain⟨_,k,hk,hg⟩:=open_at ho
   refine .inl (.inl (.inr ⟨k,⟨(List.getElem?_eq_some_iff.1 hg).1,by rw[<-hk];exact h⟩,?_⟩))
   cases d with
   | mk kd n=>
    simp at h2 hk ⊢
    exact⟨h2.symm,hk.symm⟩
  split at h
  ·rename_i _ _ h3
   have ho:openM p c d.n=true:=by
    have h:=h
    simp only[canAddr,Bool.and_eq_true] at h;exact h.1.1.1.1
   obtain⟨_,k,hk,hg⟩:=open_at ho
   refine .inl (.inr ⟨k,⟨(List.getElem?_eq_some_iff.1 hg).1,by rw[<-hk];exact h⟩,?_⟩)
   cases d with
   | mk kd n=>
    simp at h3 hk ⊢
    exact⟨h3.symm,hk.symm⟩
  ·simp only [Bool.and_eq_true, decide_eq_true_eq] at h
   refine .inr ?_
   rw[h.2]
   cases d with
   | mk kd n=>
    simp at h ⊢
    exact h.1
end
def ixW (x:Int)(n:Nat):Nat:=(iand x 65535).toNat%n
theorem ixW_eq (x:Int)(n:Nat):(iand x 65535).tmod (n:Int)=(ixW x n:Nat):=by
 obtain⟨r,_,h⟩:=iand_low x 16 (by decide)
 have h:iand x 65535=r:=h
 rw[ixW,h,Int.toNat_natCast,<-Int.ofNat_tmod]
theorem ixW_lt (x:Int){n:Nat}(h:0<n):ixW x n<n:=Nat.mod_lt _ h
def pick (x:Int)(d:List Dir):Dir:=(d[ixW x d.length]?).getD ⟨0,0⟩
theorem pick_mem (x:Int){d:List Dir}(h:d≠[]):pick x d ∈ d:=by
 have hl:0<d.length:=List.length_pos_iff.2 h
 have:=ixW_lt x hl
 unfold pick
 rw[List.getElem?_eq_getElem this]
 exact List.getElem_mem this
def walkGo (N:Int)(p:Prog):List Int->Conf->Conf
 | [],c=>c
 | x::l,c=>if all N p c=[] then c else walkGo N p l (say N p c (pick x (all N p c))).1
def begin_ (s:State):Conf:=⟨s,[],[],0⟩
theorem Inv.walk {N:Int}{p:Prog}(hp:Fine p):∀(l:List Int) {c:Conf},Inv N p c->Inv N p (walkGo N p l c)
 | [],_,h=>h
 | x::l,c,h=>by
  unfold walkGo
  split
  ·exact h
  ·rename_i hne
   exact Inv.walk hp l (h.said hp _ ((mem_all _).1 (pick_mem x hne)))
theorem Inv.begin {N:Int}{p:Prog}(hp:Fine p){s:State}(h1:(s.mem.length:Int)=N)(h2:∀ x ∈ s.mem,0<=x)(h3:0<=s.regs.r0/\0<=s.regs.r1/\0<=s.regs.r2/\0<=s.regs.r3)(h4:s.stack=[])(h5:s.pc=0):Inv N p (begin_ s):=by
 have hw:=hp.win
 refine⟨h1,h2,h3,?_,by simp[begin_],(fun x hx=>by cases hx),(by rw[begin_,h4];simp),fun x hx=> ?_,?_,fun _ h=> ?_,fun k e h=>by simp[begin_] at h⟩
 ·show((0:Nat):Int)<=_;omega
 ·have hx : x ∈ s.stack := hx
  rw[h4] at hx;cases hx
 ·show -1 <= s.pc /\ s.pc <= _
  rw[h5];omega
 ·have h : s.pc = -1 := h
  rw[h5] at h;cases h
end Go.Aug.Md
namespace Go.Aug.Md
open Go Go.Aug
end Go.Aug.Md
namespace Go.Aug.Mc
open Go Go.Aug
set_option linter.unusedSimpArgs false
set_option linter.unusedVariables false
set_option maxHeartbeats 40000000
set_option maxRecDepth 200000
theorem inv_hyps {N:Int}{p:Prog}{c:Conf}(hp:Md.Fine p)(h:Md.Inv N p c)(hN:N<=1000)(d:Dir):
  p.ins.length<1073741824/\c.buf.length<1000000/\c.state.mem.length<1000000/\c.state.stack.length<1000000/\c.rsb.length<1000000/\
  (getO (Md.real p c.state.stack c.buf d.n)).length<1073741824/\(Md.can N p c d.n=true->(Md.insM p c d.n).kind=2->(Md.entAt c.buf d.n).val=0/\(Md.entAt c.buf d.n).frm= -1)/\
  (Md.canAddr p c d.n=true->(Md.entAt c.buf d.n).fault=false)/\(0<=(Md.at_ p (Md.entAt c.buf 0).pc).d/\(Md.at_ p (Md.entAt c.buf 0).pc).d<=3)/\
  (Md.canRetire p c=true->(Md.at_ p (Md.entAt c.buf 0).pc).kind=3->(Md.entAt c.buf 0).fault=false->0<=(Md.entAt c.buf 0).addr/\(Md.entAt c.buf 0).addr<c.state.mem.length)/\
  (Md.canRetire p c=true->(Md.at_ p (Md.entAt c.buf 0).pc).kind=9->(Md.entAt c.buf 0).fault=false->c.state.stack≠[]):=by
 have hb:=h.buf
 have hw:=hp.win
 have hn:=hp.n
 have hm:=h.mem
 have hfa:=hp.at_ (Md.entAt c.buf 0).pc
 refine⟨by omega,by omega,by omega,by have:=h.stk;omega,by have:=h.rsb;omega,?_,fun hc k2=> ?_,fun hc=> ?_,⟨hfa.2.2.1,hfa.2.2.2.1⟩,fun hc k3 hf=> ?_,fun hc k9 hf=> ?_⟩
 ·cases hr : Md.real p c.state.stack c.buf d.n with
  | none=>exact(by decide:(0:Nat)<1073741824)
  | some l=>have:=(h.real hp hr).2;show l.length<_;omega
 ·have hc' := hc
  simp only[Md.can,Bool.and_eq_true,Bool.not_eq_true'] at hc'
  obtain⟨_,k,hk,he⟩:=Md.open_at hc'.1.1
  exact(h.ent k _ he).ld k2 hc'.1.2
 ·have hc' := hc
  simp only[Md.canAddr,Bool.and_eq_true,Bool.not_eq_true',decide_eq_true_eq] at hc'
  obtain⟨_,k,hk,he⟩:=Md.open_at hc'.1.1.1.1
  exact(h.ent k _ he).st hc'.1.1.2 hc'.1.1.1.2
 ·obtain ⟨e, he, he0, _⟩ := retire_some hc
  rw[he0] at k3 hf ⊢
  simp only[Md.canRetire,Bool.and_eq_true,Bool.or_eq_true,decide_eq_true_eq,he0] at hc
  have hk:e.known=true:=by
   rcases hc.2 with h | h
   ·exact absurd k3 h
   ·exact h
  have:=(h.ent 0 e he).sk k3 hk hf
  omega
 ·obtain ⟨e, he, he0, _⟩ := retire_some hc
  rw[he0] at k9 hf
  simp only[Md.canRetire,Bool.and_eq_true,Bool.or_eq_true,decide_eq_true_eq,he0] at hc
  have hd:e.done=true:=by
   rcases hc.1.2 with h | h
   ·exact h
   ·omega
  obtain⟨l,hl,hne⟩:=(h.ent 0 e he).rt k9 hd hf
  have:Md.real p c.state.stack c.buf ((0:Nat):Int)=some c.state.stack:=by
   unfold Md.real Md.cut
   rw[show(((0:Nat):Int)).toNat=0 from rfl,List.take_zero];rfl
  rw[this] at hl
  simp at hl;subst hl;exact hne
theorem take60 {l:List Int}{k:Nat}{x:Int}(h:(l.take 60)[k]? =some x):l[k]? =some x/\k<60/\k<l.length:=by
 rw[List.getElem?_take] at h
 split at h
 ·rename_i hk;exact⟨h,hk,(List.getElem?_eq_some_iff.1 h).1⟩
 ·cases h
variable {E:Env} {fn:FuncId->Option (Env->CallT->CallT)}
section
variable (S:Sur E fn)
include S
end
end Go.Aug.Mc
namespace Go.Aug.Bo
open Go Go.Aug
def far:Nat:=4611686018427387904
end Go.Aug.Bo
