import Derived.Test.YthnhboimcidhgaaGreatDoorMl2
import Derived.Test.YthnhboimcidhgaaGreatDoorMk
namespace Go.Aug.Md
open Go Go.Aug
set_option linter.unusedSimpArgs false
set_option linter.unusedVariables false
section
variable {N:Int} {p:Prog} {c:Conf}
theorem setR_nn {r:Regs}(h:0<=r.r0/\0<=r.r1/\0<=r.r2/\0<=r.r3)(i:Int){n:Int}(hn:0<=n):0<=(setR r i n).r0/\0<=(setR r i n).r1/\0<=(setR r i n).r2/\0<=(setR r i n).r3:=by
 unfold setR
 split
 ·exact⟨hn,h.2.1,h.2.2.1,h.2.2.2⟩
 split
 ·exact⟨h.1,hn,h.2.2.1,h.2.2.2⟩
 split
 ·exact⟨h.1,h.2.1,hn,h.2.2.2⟩
 split
 ·exact⟨h.1,h.2.1,h.2.2.1,hn⟩
 ·exact h
theorem Zsj (e:Ent):(popE e).pc=e.pc:=by unfold popE;split<;>rfl
theorem Zy6 {k:Nat}(hk:k<=1000){r r':Option (List Int)}(hr:r'=r){e:Ent}(h:EntOk N p (k+1) r e):EntOk N p k r' (popE e):=by
 subst hr
 have hf:=h.fr
 unfold popE
 split
 ·rename_i h0
  have hw:w64 (e.frm-1)=e.frm-1:=Zf6 (by omega) (by omega)
  refine⟨h.pc,h.nx,?_,h.vl,?_,h.st,h.sk,h.rt,h.cl,h.dn⟩
  ·show -1 <= w64 (e.frm - 1) /\ w64 (e.frm - 1) < (k : Int)
   rw[hw];omega
  ·intro h1 h2
   have:=(h.ld h1 h2).2
   omega
 ·rename_i h0
  exact⟨h.pc,h.nx,⟨hf.1,by omega⟩,h.vl,h.ld,h.st,h.sk,h.rt,h.cl,h.dn⟩
theorem Zv9 {l:List Ent}{k:Nat}{e:Ent}(h:(popL l)[k]? =some e):∃ e',l[k+1]? =some e'/\e=popE e':=by
 unfold popL at h
 rw[List.getElem?_map,List.getElem?_drop,Nat.add_comm] at h
 cases hx:l[k+1]? with
 | none=>rw[hx] at h;cases h
 | some e'=>rw[hx] at h;simp at h;exact⟨e',rfl,h.symm⟩
theorem Zv8 (l:List Ent):(popL l).map Ent.pc=(l.map Ent.pc).drop 1:=by
 unfold popL
 rw[List.map_map,List.map_drop]
 congr 1
 exact List.map_congr_left fun e _=>Zsj e
theorem Zmv (p:Prog)(e:Ent)(l:List Ent)(st:List Int):realGo p (e::l) st=if(at_ p e.pc).kind=8 then(if 4<=st.length then none else realGo p l (st++[w64 (e.pc+1)])) else if(at_ p e.pc).kind=9 then(if st.length=0 then none else realGo p l st.dropLast) else realGo p l st:=rfl
theorem Zv2 (st:List Int)(e:Ent)(l:List Ent)(k:Nat){st':List Int}
  (h8:(at_ p e.pc).kind=8->st.length<4/\st'=st++[w64 (e.pc+1)]) (h9:(at_ p e.pc).kind=9->st≠[]/\st'=st.dropLast) (h0:(at_ p e.pc).kind≠8->(at_ p e.pc).kind≠9->st'=st):
  real p st' (popL (e::l)) (k:Int)=real p st (e::l) ((k+1:Nat):Int):=by
 have e1:real p st (e::l) ((k+1:Nat):Int)=realGo p (e::cut l (k:Int)) st:=by
  unfold real cut
  rw[show(((k+1:Nat):Int)).toNat=k+1 by omega,show((k:Int)).toNat=k by omega,List.take_succ_cons]
 have e2:real p st' (popL (e::l)) (k:Int)=realGo p (cut l (k:Int)) st':=by
  unfold real
  exact Z4j p _ _ _ (by rw[Z6f,Z6f,Zv8];rfl)
 rw[e1,e2,Zmv]
 by_cases k8:(at_ p e.pc).kind=8
 ·obtain ⟨a, rfl⟩ := h8 k8
  rw[if_pos k8,if_neg (by omega)]
 ·rw [if_neg k8]
  by_cases k9:(at_ p e.pc).kind=9
  ·obtain ⟨a, rfl⟩ := h9 k9
   rw[if_pos k9,if_neg (fun h=>a (List.length_eq_zero_iff.1 h))]
  ·rw[if_neg k9,h0 k8 k9]
theorem Inv.retired (hp:Fine p)(h:Inv N p c)(hc:canRetire p c=true):Inv N p (retire p c):=by
 have hc':=hc
 simp only[canRetire,Bool.and_eq_true,beq_iff_eq,decide_eq_true_eq,Bool.or_eq_true] at hc'
 obtain⟨⟨⟨hend,hlen⟩,hdone⟩,hknown⟩:=hc'
 obtain⟨e,l,hb⟩:∃ e l,c.buf=e::l:=by
  cases hq:c.buf with
  | nil=>exact absurd (by rw[hq];rfl) hlen
  | cons e l=>exact⟨e,l,rfl⟩
 have he0:entAt c.buf 0=e:=by rw[hb];rfl
 have hE:=h.ent 0 e (by rw[hb];rfl)
 have hn:=hp.n
 have hw:=hp.win
 have hbl:=h.buf
 have hreal0:Md.real p c.state.stack c.buf ((0:Nat):Int)=some c.state.stack:=by
  unfold Md.real Md.cut
  rw[show(((0:Nat):Int)).toNat=0 from rfl,List.take_zero];rfl
 rw[he0] at hdone hknown
 unfold retire
 rw[he0]
 simp only
 split
 ·rename_i hgo
  have hnf:e.fault=false/\(at_ p e.pc).kind≠12/\(at_ p e.pc).kind≠11:=by
   unfold endedM at hgo
   cases hf:e.fault with
   | true=>rw[hf] at hgo;simp at hgo
   | false=>
    rw[hf] at hgo
    by_cases k12:(at_ p e.pc).kind=12
    ·simp[k12] at hgo
    ·by_cases k11 : (at_ p e.pc).kind = 11
     ·simp[k11] at hgo
     ·exact⟨rfl,k12,k11⟩
  obtain⟨hf,k12,k11⟩:=hnf
  have dn:(at_ p e.pc).kind≠10->e.done=true:=fun h=>by
   rcases hdone with h1 | h1
   ·exact h1
   ·exact absurd h1 h
  obtain⟨st,hst,hmem,hmv,hrg,hstk,hsv,hpc,h8,h9,h0⟩:∃ st,commitM c.state e (at_ p e.pc)=st/\(st.mem.length:Int)=N/\(∀ x ∈ st.mem,0<=x)/\(0<=st.regs.r0/\0<=st.regs.r1/\0<=st.regs.r2/\0<=st.regs.r3)/\st.stack.length<=4/\(∀ x ∈ st.stack,0<=x/\x<=p.ins.length)/\st.pc=c.state.pc/\
    ((at_ p e.pc).kind=8->c.state.stack.length<4/\st.stack=c.state.stack++[w64 (e.pc+1)])/\((at_ p e.pc).kind=9->c.state.stack≠[]/\st.stack=c.state.stack.dropLast)/\((at_ p e.pc).kind≠8->(at_ p e.pc).kind≠9->st.stack=c.state.stack):=by
   refine⟨_,rfl,?_⟩
   have hs4:=h.stk
   unfold commitM
   split
   ·rename_i kk
    exact⟨h.mem,h.mv,setR_nn h.rg _ hE.vl,h.stk,h.sv,rfl,fun h=>by omega,fun h=>by omega,fun _ _=>rfl⟩
   split
   ·rename_i _ k3
    split
    ·refine ⟨by simpa using h.mem, fun x hx => ?_, h.rg, h.stk, h.sv, rfl, fun h => by omega, fun h => by omega, fun _ _ => rfl⟩
     rcases List.mem_or_eq_of_mem_set hx with hx | rfl
     ·exact h.mv x hx
     ·exact hE.vl
    ·exact⟨h.mem,h.mv,h.rg,h.stk,h.sv,rfl,fun h=>by omega,fun h=>by omega,fun _ _=>rfl⟩
   split
   ·rename_i _ _ k8
    obtain⟨l',hl',hlt⟩:=hE.cl k8 hf
    rw[hreal0] at hl'
    simp at hl';subst hl'
    obtain⟨p0,p1⟩:=Zue (p:=p) (pc:=e.pc) k12
    refine⟨h.mem,h.mv,h.rg,?_,fun x hx=> ?_,rfl,fun _=>⟨hlt,rfl⟩,fun h=>by omega,fun h=>absurd k8 h⟩
    ·show (c.state.stack ++ [w64 (e.pc + 1)]).length <= 4
     rw[List.length_append,List.length_singleton];omega
    ·rcases List.mem_append.1 hx with hx | hx
     ·exact h.sv x hx
     ·simp at hx; subst hx
      rw[Zf6 (by omega) (by omega)];omega
   split
   ·rename_i _ _ _ k9
    obtain⟨l',hl',hne⟩:=hE.rt k9 (dn (by omega)) hf
    rw[hreal0] at hl'
    simp at hl';subst hl'
    refine⟨h.mem,h.mv,h.rg,?_,fun x hx=>h.sv x ((List.dropLast_sublist _).subset hx),rfl,fun h=>by omega,fun _=>⟨hne,rfl⟩,fun _ h=>absurd k9 h⟩
    show c.state.stack.dropLast.length<=4
    rw[List.length_dropLast];omega
   ·rename_i _ _ k8 k9
    exact⟨h.mem,h.mv,h.rg,h.stk,h.sv,rfl,fun h=>absurd h k8,fun h=>absurd h k9,fun _ _=>rfl⟩
  rw[hst]
  refine⟨hmem,hmv,hrg,?_,h.rsb,h.rv,hstk,hsv,by show -1<=st.pc/\st.pc<=_;rw[hpc];exact h.pc,?_,?_⟩
  ·show ((popL c.buf).length : Int) <= _
   unfold popL
   rw[List.length_map,List.length_drop];omega
  ·intro _ h2
   have h2:st.pc= -1:=h2
   rw[hpc] at h2
   obtain⟨r,x,hr,hs⟩:=h.last hend h2
   rw[hb] at hr
   cases r with
   | nil=>
    simp at hr
    obtain⟨rfl,_⟩:=hr
    rcases hs with hs | hs
    ·exact absurd hs k11
    ·exact absurd hs k12
   | cons y r=>
    simp at hr
    obtain⟨rfl,hr⟩:=hr
    refine⟨r.map popE,popE x,?_,?_⟩
    ·show popL c.buf = _
     unfold popL
     rw[hb,hr];simp
    ·unfold Zuw at hs ⊢;rw[Zsj];exact hs
  ·intro k x hx
   have hx:(popL c.buf)[k]? =some x:=hx
   obtain⟨x',h1,rfl⟩:=Zv9 hx
   have hk:k+1<c.buf.length:=(List.getElem?_eq_some_iff.1 h1).1
   refine Zy6 (by omega) ?_ (h.ent (k+1) x' h1)
   show Md.real p st.stack (popL c.buf) k=_
   rw[hb]
   exact Zv2 c.state.stack e l k h8 h9 h0
 ·rename_i hend2
  refine⟨h.mem,h.mv,h.rg,?_,by simp,(fun x hx=>by cases hx),h.stk,h.sv,⟨by show -1<=e.pc;have:=hE.pc;omega,hE.pc.2⟩,fun h1=>absurd h1 hend2,fun k x hx=>by simp at hx⟩
  show((0:Nat):Int)<=_
  omega
theorem Inv.said (hp:Fine p)(h:Inv N p c)(d:Dir)(hc:canSay N p c d=true):Inv N p (say N p c d).1:=by
 unfold canSay at hc
 unfold say
 split at hc
 ·rename_i h1;rw[if_pos h1];exact h.fetched hp hc
 ·rename_i h1; rw [if_neg h1]
  split at hc
  ·rename_i h2;rw[if_pos h2];exact h.done hp hc
  ·rename_i h2; rw [if_neg h2]
   split at hc
   ·rename_i h3;rw[if_pos h3];exact h.addr hp hc
   ·rename_i h3; rw [if_neg h3]
    simp only[Bool.and_eq_true] at hc
    exact h.retired hp hc.2
theorem mem_all (d:Dir):d ∈ all N p c↔canSay N p c d=true:=by
 unfold all canSay
 simp only[List.mem_append,List.mem_map,List.mem_range,List.mem_filter]
 constructor
 ·rintro (((⟨n, h, rfl⟩ | ⟨n, ⟨_, h⟩, rfl⟩) | ⟨n, ⟨_, h⟩, rfl⟩) | h)
  ·rw [if_pos rfl]
   simp[canFetch];omega
  ·rw[if_neg (by simp),if_pos rfl];exact h
  ·rw[if_neg (by simp),if_neg (by simp),if_pos rfl];exact h
  ·cases hr : canRetire p c with
   | false=>rw[hr] at h;cases h
   | true=>
    rw[hr] at h
    simp at h
    subst h
    simp
 ·intro h
  split at h
  ·rename_i h1
   simp only[canFetch,Bool.and_eq_true,decide_eq_true_eq] at h
   refine .inl (.inl (.inl ⟨d.n.toNat,by omega,?_⟩))
   cases d with
   | mk k n=>
    simp at h1 h ⊢
    exact⟨h1.symm,by omega⟩
  split at h
  ·rename_i _ h2
   have ho:openM p c d.n=true:=by
    have h:=h
    simp only[can,Bool.and_eq_true] at h;exact h.1.1
   obtain⟨_,k,hk,hg⟩:=open_at ho
   refine .inl (.inl (.inr ⟨k,⟨(List.getElem?_eq_some_iff.1 hg).1,by rw[<-hk];exact h⟩,?_⟩))
   cases d with
   | mk kd n=>
    simp at h2 hk ⊢
    exact⟨h2.symm,hk.symm⟩
  split at h
  ·rename_i _ _ h3
   have ho:openM p c d.n=true:=by
    have h:=h
    simp only[canAddr,Bool.and_eq_true] at h;exact h.1.1.1.1
   obtain⟨_,k,hk,hg⟩:=open_at ho
   refine .inl (.inr ⟨k,⟨(List.getElem?_eq_some_iff.1 hg).1,by rw[<-hk];exact h⟩,?_⟩)
   cases d with
   | mk kd n=>
    simp at h3 hk ⊢
    exact⟨h3.symm,hk.symm⟩
  ·simp only [Bool.and_eq_true, decide_eq_true_eq] at h
   refine .inr ?_
   rw[h.2]
   cases d with
   | mk kd n=>
    simp at h ⊢
    exact h.1
end
def ixW (x:Int)(n:Nat):Nat:=(iand x 65535).toNat%n
theorem ixW_eq (x:Int)(n:Nat):(iand x 65535).tmod (n:Int)=(ixW x n:Nat):=by
 obtain⟨r,_,h⟩:=Zbr x 16 (by decide)
 have h:iand x 65535=r:=h
 rw[ixW,h,Int.toNat_natCast,<-Int.ofNat_tmod]
theorem ixW_lt (x:Int){n:Nat}(h:0<n):ixW x n<n:=Nat.mod_lt _ h
def pick (x:Int)(d:List Dir):Dir:=(d[ixW x d.length]?).getD ⟨0,0⟩
theorem Zva (x:Int){d:List Dir}(h:d≠[]):pick x d ∈ d:=by
 have hl:0<d.length:=List.length_pos_iff.2 h
 have:=ixW_lt x hl
 unfold pick
 rw[List.getElem?_eq_getElem this]
 exact List.getElem_mem this
def Zrt (N:Int)(p:Prog):List Int->Conf->Conf
 | [],c=>c
 | x::l,c=>if all N p c=[] then c else Zrt N p l (say N p c (pick x (all N p c))).1
def begin_ (s:State):Conf:=⟨s,[],[],0⟩
theorem Inv.walk {N:Int}{p:Prog}(hp:Fine p):∀(l:List Int) {c:Conf},Inv N p c->Inv N p (Zrt N p l c)
 | [],_,h=>h
 | x::l,c,h=>by
  unfold Zrt
  split
  ·exact h
  ·rename_i hne
   exact Inv.walk hp l (h.said hp _ ((mem_all _).1 (Zva x hne)))
theorem Inv.begin {N:Int}{p:Prog}(hp:Fine p){s:State}(h1:(s.mem.length:Int)=N)(h2:∀ x ∈ s.mem,0<=x)(h3:0<=s.regs.r0/\0<=s.regs.r1/\0<=s.regs.r2/\0<=s.regs.r3)(h4:s.stack=[])(h5:s.pc=0):Inv N p (begin_ s):=by
 have hw:=hp.win
 refine⟨h1,h2,h3,?_,by simp[begin_],(fun x hx=>by cases hx),(by rw[begin_,h4];simp),fun x hx=> ?_,?_,fun _ h=> ?_,fun k e h=>by simp[begin_] at h⟩
 ·show((0:Nat):Int)<=_;omega
 ·have hx : x ∈ s.stack := hx
  rw[h4] at hx;cases hx
 ·show -1 <= s.pc /\ s.pc <= _
  rw[h5];omega
 ·have h : s.pc = -1 := h
  rw[h5] at h;cases h
end Go.Aug.Md
namespace Go.Aug.Md
open Go Go.Aug
def runAll (N:Int)(p:Prog):List Dir->Conf->Conf
 | [],c=>c
 | d::l,c=>runAll N p l (say N p c d).1
def canAll (N:Int)(p:Prog):List Dir->Conf->Prop
 | [],_=>True
 | d::l,c=>canSay N p c d=true/\canAll N p l (say N p c d).1
theorem runAll_app {N:Int}{p:Prog}:∀(l m:List Dir) (c:Conf),runAll N p (l++m) c=runAll N p m (runAll N p l c)
 | [],_,_=>rfl
 | d::l,m,c=>runAll_app l m _
theorem canAll_app {N:Int}{p:Prog}:∀(l m:List Dir) (c:Conf),canAll N p (l++m) c↔canAll N p l c/\canAll N p m (runAll N p l c)
 | [],_,_=>⟨fun h=>⟨trivial,h⟩,fun h=>h.2⟩
 | d::l,m,c=>by
  show _/\canAll N p (l++m) _↔(_/\canAll N p l _)/\_
  rw[canAll_app l m]
  exact⟨fun h=>⟨⟨h.1,h.2.1⟩,h.2.2⟩,fun h=>⟨h.1.1,h.1.2,h.2⟩⟩
end Go.Aug.Md
namespace Go.Aug.Mc
open Go Go.Aug
open Nat renaming reduceLT -> zN0, reduceEqDiff -> zN1, reduceAdd -> zN2, reduceMul -> zN3, reduceLeDiff -> zN4
open Int renaming reduceEq -> zI0, reduceLT -> zI1, reduceLE -> zI2, reduceNeg -> zI3
set_option linter.unusedSimpArgs false
set_option linter.unusedVariables false
set_option maxHeartbeats 40000000
set_option maxRecDepth 200000
theorem Z70 {N:Int}{p:Prog}{c:Conf}(hp:Md.Fine p)(h:Md.Inv N p c)(hN:N<=1000)(d:Dir):
  p.ins.length<1073741824/\c.buf.length<1000000/\c.state.mem.length<1000000/\c.state.stack.length<1000000/\c.rsb.length<1000000/\
  (Zd4 (Md.real p c.state.stack c.buf d.n)).length<1073741824/\(Md.can N p c d.n=true->(Md.insM p c d.n).kind=2->(Md.entAt c.buf d.n).val=0/\(Md.entAt c.buf d.n).frm= -1)/\
  (Md.canAddr p c d.n=true->(Md.entAt c.buf d.n).fault=false)/\(0<=(Md.at_ p (Md.entAt c.buf 0).pc).d/\(Md.at_ p (Md.entAt c.buf 0).pc).d<=3)/\
  (Md.canRetire p c=true->(Md.at_ p (Md.entAt c.buf 0).pc).kind=3->(Md.entAt c.buf 0).fault=false->0<=(Md.entAt c.buf 0).addr/\(Md.entAt c.buf 0).addr<c.state.mem.length)/\
  (Md.canRetire p c=true->(Md.at_ p (Md.entAt c.buf 0).pc).kind=9->(Md.entAt c.buf 0).fault=false->c.state.stack≠[]):=by
 have hb:=h.buf
 have hw:=hp.win
 have hn:=hp.n
 have hm:=h.mem
 have hfa:=hp.at_ (Md.entAt c.buf 0).pc
 refine⟨by omega,by omega,by omega,by have:=h.stk;omega,by have:=h.rsb;omega,?_,fun hc k2=> ?_,fun hc=> ?_,⟨hfa.2.2.1,hfa.2.2.2.1⟩,fun hc k3 hf=> ?_,fun hc k9 hf=> ?_⟩
 ·cases hr : Md.real p c.state.stack c.buf d.n with
  | none=>exact(by decide:(0:Nat)<1073741824)
  | some l=>have:=(h.real hp hr).2;show l.length<_;omega
 ·have hc' := hc
  simp only[Md.can,Bool.and_eq_true,Bool.not_eq_true'] at hc'
  obtain⟨_,k,hk,he⟩:=Md.open_at hc'.1.1
  exact(h.ent k _ he).ld k2 hc'.1.2
 ·have hc' := hc
  simp only[Md.canAddr,Bool.and_eq_true,Bool.not_eq_true',decide_eq_true_eq] at hc'
  obtain⟨_,k,hk,he⟩:=Md.open_at hc'.1.1.1.1
  exact(h.ent k _ he).st hc'.1.1.2 hc'.1.1.1.2
 ·obtain ⟨e, he, he0, _⟩ := Z50 hc
  rw[he0] at k3 hf ⊢
  simp only[Md.canRetire,Bool.and_eq_true,Bool.or_eq_true,decide_eq_true_eq,he0] at hc
  have hk:e.known=true:=by
   rcases hc.2 with h | h
   ·exact absurd k3 h
   ·exact h
  have:=(h.ent 0 e he).sk k3 hk hf
  omega
 ·obtain ⟨e, he, he0, _⟩ := Z50 hc
  rw[he0] at k9 hf
  simp only[Md.canRetire,Bool.and_eq_true,Bool.or_eq_true,decide_eq_true_eq,he0] at hc
  have hd:e.done=true:=by
   rcases hc.1.2 with h | h
   ·exact h
   ·omega
  obtain⟨l,hl,hne⟩:=(h.ent 0 e he).rt k9 hd hf
  have:Md.real p c.state.stack c.buf ((0:Nat):Int)=some c.state.stack:=by
   unfold Md.real Md.cut
   rw[show(((0:Nat):Int)).toNat=0 from rfl,List.take_zero];rfl
  rw[this] at hl
  simp at hl;subst hl;exact hne
theorem Y0p {l:List Int}{k:Nat}{x:Int}(h:(l.take 60)[k]? =some x):l[k]? =some x/\k<60/\k<l.length:=by
 rw[List.getElem?_take] at h
 split at h
 ·rename_i hk;exact⟨h,hk,(List.getElem?_eq_some_iff.1 h).1⟩
 ·cases h
structure WInv (N:Int) (p:Prog) (c0 c:Conf) (o:List Dir):Prop where
 inv:Md.Inv N p c
 can:Md.canAll N p o c0
 run:Md.runAll N p o c0=c
 len:o.length<=60
theorem WInv.step {N:Int}{p:Prog}{c0 c:Conf}{o:List Dir}(hp:Md.Fine p)(h:WInv N p c0 c o)(d:Dir)(hc:Md.canSay N p c d=true)(hl:o.length<60):WInv N p c0 (Md.say N p c d).1 (o++[d]):=by
 refine⟨h.inv.said hp d hc,(Md.canAll_app _ _ _).2 ⟨h.can,by rw[h.run];exact⟨hc,trivial⟩⟩,?_,by rw[List.length_append,List.length_singleton];omega⟩
 rw[Md.runAll_app,h.run];rfl
variable {E:Env} {fn:FuncId->Option (Env->cT->cT)}
section
variable (S:Sur E fn)
include S
theorem Z3x:E.lives 15 1=none:=off S 15 1 (by decide) rfl
theorem Zt9 (dp:Nat)(N:Int)(hN:N<=1000)(p:Prog)(hp:Md.Fine p)(c0:Conf)(l:List Int)(kx:Nat->K)(P:Option DV->Prop)
  (hx:∀ T c' o',Z01 .bot T 6=.ref 1 0 0->Z01 .bot T 8=.ref 2 0 0->Z01 .bot T 9=Z3m 3 (o':List Dir)->WInv N p c0 c' o'->P (Zh (kx 0 (mk .bot 70 T) ([.cells ((Yd p).map .d) 0 false,.cells [zi,zi,zi,zi,zn,zn,zi,zn,zn,zi] 0 false,.cells ((Z22 c').map .d) 0 false]++Z30 o')))):
  ∀(m k f:Nat) (c:Conf) (o:List Dir),WInv N p c0 c o->k+m=(l.take 60).length->m<=f->o.length<=k->
  P (Zh (Ju (inn E 15) (evC E fn (dp+7)) (Zi 10 Ju (inn E 15) (evC E fn (dp+7)) kx (Z0u 0 [.cell 6 true 10,.tmp 7]) f) kx (Z0u 0 [.cell 6 true 10,.tmp 7]) (mk .bot 70 [(2,.d (rD l)),(3,.ref 0 0 0),(6,.ref 1 0 0),(8,.ref 2 0 0),(9,Z3m 3 o),(10,aI k)]) ([.cells ((Yd p).map .d) 0 false,.cells [zi,zi,zi,zi,zn,zn,zi,zn,zn,zi] 0 false,.cells ((Z22 c).map .d) 0 false]++Z30 o))):=by
 intro m
 have hlen:(l.take 60).length=min 60 l.length:=List.length_take
 induction m with
 | zero=>
  intro k f c o hI hk _ ho
  generalize Zi 10 Ju _ _ kx _ f=KK
  first | (conv=>lhs;rw[Ju]) | rw[Ju]
  by_cases hkl:(k:Int)<l.length
  ·have h60 : ¬ (k : Int) < 60 := by omega
   by_cases h0:o.length=0
   ·have : o = [] := List.length_eq_zero_iff.1 h0
    subst this
    simp only[eG,go_sem,thq S,nbr S,zN0,zN1,zN2,zN3,zN4,zI0,zI1,zI2,zI3,reduceCtorEq,Z3x S,Zz,Zy,hkl,h60]
    exact hx _ c [] rfl rfl rfl hI
   ·rw [Za h0, Z9 h0]
    simp only[eG,go_sem,thq S,nbr S,zN0,zN1,zN2,zN3,zN4,zI0,zI1,zI2,zI3,reduceCtorEq,Z3x S,hkl,h60]
    have:=fun T a b d=>hx T c o a b (by rw[Za h0];exact d) hI
    rw[Z9 h0] at this
    exact this _ rfl rfl rfl
  ·by_cases h0 : o.length = 0
   ·have : o = [] := List.length_eq_zero_iff.1 h0
    subst this
    simp only[eG,go_sem,thq S,nbr S,zN0,zN1,zN2,zN3,zN4,zI0,zI1,zI2,zI3,reduceCtorEq,Z3x S,Zz,Zy,hkl]
    exact hx _ c [] rfl rfl rfl hI
   ·rw [Za h0, Z9 h0]
    simp only[eG,go_sem,thq S,nbr S,zN0,zN1,zN2,zN3,zN4,zI0,zI1,zI2,zI3,reduceCtorEq,Z3x S,hkl]
    have:=fun T a b d=>hx T c o a b (by rw[Za h0];exact d) hI
    rw[Z9 h0] at this
    exact this _ rfl rfl rfl
 | succ m ih=>
  intro k f c o hI hk hf ho
  obtain⟨x,hx0⟩:=Yz (show k<(l.take 60).length by omega)
  obtain⟨hxk,h60,hkl⟩:=Y0p hx0
  have hkl':(k:Int)<l.length:=by omega
  have h60':(k:Int)<60:=by omega
  obtain⟨f,rfl⟩:∃ g,f=g+1:=⟨f-1,by omega⟩
  have hmem:=hI.inv.mem
  have hall0:=Z70 hp hI.inv hN ⟨0,0⟩
  obtain⟨q1,q2,q3,q4,q5,_⟩:=hall0
  have q2':c.buf.length<1073741824:=by omega
  generalize hK:Zi 10 Ju _ _ kx _ (f+1)=KK
  first | (conv=>lhs;rw[Ju]) | rw[Ju]
  generalize hD:Md.all N p c=d
  by_cases hd:d=[]
  ·subst hd
   by_cases h0:o.length=0
   ·have : o = [] := List.length_eq_zero_iff.1 h0
    subst this
    simp only[eG,go_sem,thq S,nbr S,zN0,zN1,zN2,zN3,zN4,zI0,zI1,zI2,zI3,reduceCtorEq,Z3x S,Zz,Zy,hkl',h60',Zbt S,q1,q2',hmem,hD,List.length_nil]
    exact hx _ c [] rfl rfl rfl hI
   ·rw [Za h0, Z9 h0]
    simp only[eG,go_sem,thq S,nbr S,zN0,zN1,zN2,zN3,zN4,zI0,zI1,zI2,zI3,reduceCtorEq,Z3x S,hkl',h60',Zbt S,q1,q2',hmem,hD,List.length_nil]
    have:=fun T a b d=>hx T c o a b (by rw[Za h0];exact d) hI
    rw[Z9 h0] at this
    exact this _ rfl rfl rfl
  ·have hdl : d.length ≠ 0 := fun h => hd (List.length_eq_zero_iff.1 h)
   have hdl':¬(d.length:Int)=0:=by omega
   have hix:=Md.ixW_lt x (show 0<d.length by omega)
   obtain⟨dd,hdd⟩:=Yz hix
   have hpick:Md.pick x d=dd:=by unfold Md.pick;rw[hdd];rfl
   have hmemd:dd ∈ Md.all N p c:=by rw[hD];exact List.mem_of_getElem? hdd
   have hcan:=(Md.mem_all dd).1 hmemd
   obtain⟨_,_,_,_,_,y1,y2,y3,y4,y5,y6⟩:=Z70 hp hI.inv hN dd
   have hS:Za5 N p c dd=Md.say N p c dd:=by unfold Za5;rw[hcan];rfl
   have hI':=hI.step hp dd hcan (by omega)
   have g2:c.buf.length<1073741823:=by omega
   have g3:c.state.mem.length<1073741824:=by omega
   have g4:c.state.stack.length<1073741823:=by omega
   have g5:c.rsb.length<1073741823:=by omega
   have lim:Zf=1099511627776:=rfl
   have hsay:∀(A:List Blk) (nb:Nat),Zb false E (evC E fn (dp+7)) 44 A nb (some ([Zn p,Zv c,.agg [vi dd.kind,vi dd.n]],[]))=some (.made (.d (.tup [Zv (Md.say N p c dd).1,rD (Md.say N p c dd).2,vb true])) []):=fun A nb=>by
    have:=Zwh S dp p.w p.window p.fuel p.regs.r0 p.regs.r1 p.regs.r2 p.regs.r3 p.mems p.labels p.ins c.state.regs.r0 c.state.regs.r1 c.state.regs.r2 c.state.regs.r3 c.state.mem c.state.stack c.state.pc c.buf c.rsb c.end_ dd.kind dd.n q1 g2 g3 g4 g5 y1 (by rw[<-hmem] at y2;exact y2) y3 y4 y5 y6 A nb
    have hc2:Md.canSay (c.state.mem.length:Int) p c dd=true:=by rw[hmem];exact hcan
    have hs2:Za5 (c.state.mem.length:Int) p c dd=Md.say N p c dd:=by rw[hmem];exact hS
    rw[<-hs2,<-hc2]
    exact this
   simp only[Zn,Yd,Zv,Z22] at hsay
   have next:=ih (k+1) f (Md.say N p c dd).1 (o++[dd]) hI' (by omega) (by omega) (by simp;omega)
   rw[Za (Z7a _ _),Z9 (Z7a _ _)] at next
   have hrem:Ji .rem (aI (Md.iand x 65535)) (aI d.length)=some (aI (Md.ixW x d.length:Nat)):=by
    rw[<-Md.ixW_eq];exact Y08 _ _ _ hdl'
   by_cases h0:o.length=0
   ·have : o = [] := List.length_eq_zero_iff.1 h0
    subst this
    simp only[eG,go_sem,thq S,nbr S,zN0,zN1,zN2,zN3,zN4,zI0,zI1,zI2,zI3,reduceCtorEq,Z3x S,Zz,Zy,hkl',h60',Zbt S,q1,q2',hmem,hD,hdl',Q4 hxk,Yy,hrem,Q4 hdd,hsay,Bool.not_true,Jd,Je,Zj,Z7,Zl,nc2,l16,Zfo,l1n,Option.map_some,Nat.zero_add,Nat.one_mul,Nat.zero_mul,and_self,true_and,wi k (by omega),show(0:Nat)<1 by decide]
    rw[<-hK,Z1 (on S _ _ [2,3,6,8,9,10] (by decide) rfl) rfl _ _ _ _ _ _ _ _ _ rfl]
    simp only[eG,go_sem,thq S,nbr S,zN0,zN1,zN2,zN3,zN4,zI0,zI1,zI2,zI3,reduceCtorEq,Z3x S]
    exact next
   ·rw [Za h0, Z9 h0]
    have k1:(o.length+1)*16<=Zf:=by omega
    have k2:o.length+1<=Zf:=by omega
    simp only[eG,go_sem,thq S,nbr S,zN0,zN1,zN2,zN3,zN4,zI0,zI1,zI2,zI3,reduceCtorEq,Z3x S,hkl',h60',Zbt S,q1,q2',hmem,hD,hdl',Q4 hxk,Yy,hrem,Q4 hdd,hsay,Bool.not_true,Jd,Je,Zj,Z7,Zl,nc2,Qv,k1,k2,Option.map_some,wi k (by omega)]
    rw[<-hK,Z1 (on S _ _ [2,3,6,8,9,10] (by decide) rfl) rfl _ _ _ _ _ _ _ _ _ rfl]
    simp only[eG,go_sem,thq S,nbr S,zN0,zN1,zN2,zN3,zN4,zI0,zI1,zI2,zI3,reduceCtorEq,Z3x S]
    rw[List.length_append,List.length_singleton] at next
    exact next
theorem Zqk (dp:Nat)(p:Prog)(hp:Md.Fine p)(N:Int)(hN:N<=1000)(s:State)(hI:Md.Inv N p (Md.begin_ s))(l:List Int):
  ∃(c:Conf) (o:List Dir),Zk E fn (dp+8) 15 [Zn p,Z0y s,rD l] (.tup [Zv c,rD o])/\WInv N p (Md.begin_ s) c o:=by
 obtain⟨P,hP⟩:∃ P:Option DV->Prop,P=fun r=>∃(c:Conf) (o:List Dir),r=some (.tup [Zv c,rD o])/\WInv N p (Md.begin_ s) c o:=⟨_,rfl⟩
 have fin:∀(c:Conf) (o:List Dir),WInv N p (Md.begin_ s) c o->P (some (.tup [Zv c,rD o])):=fun c o h=>by rw[hP];exact⟨c,o,rfl,h⟩
 have key:P (Zh (evC E fn (dp+8) 15 [.d (Zn p),.d (Z0y s),.d (rD l)] [])):=by
  clear hP
  show P (Zh (evC E fn (dp+7+1) 15 [.d (Zn p),.d (Z0y s),.d (rD l)] []))
  rw[Z2,S.Zfq,Z3,Zgj,Z6 _ _ _ _ _ _ _ _ rfl]
  simp only[eG,go_sem,thq S,nbr S,zN0,zN1,zN2,zN3,zN4,zI0,zI1,zI2,zI3,reduceCtorEq,Z3x S,Zrc S]
  rw[Y2,Z1 (on S _ _ [2,3,6,8,9,10] (by decide) rfl) rfl _ _ _ _ _ _ _ _ _ rfl]
  simp only[eG,go_sem,thq S,nbr S,zN0,zN1,zN2,zN3,zN4,zI0,zI1,zI2,zI3,reduceCtorEq,Z3x S]
  refine Zt9 S dp N hN p hp (Md.begin_ s) l _ P ?_ (l.take 60).length 0 _ (Md.begin_ s) [] ⟨hI,trivial,rfl,by simp⟩ (by omega) (by rw[List.length_take];omega) (by simp)
  intro T c' o' t6 t8 t9 hI'
  simp only[Zv,Z22] at fin
  by_cases h0:o'.length=0
  ·have e : o' = [] := List.length_eq_zero_iff.1 h0
   subst e
   rw[Zz] at t9
   rw[Zy,List.append_nil]
   simp only[eG,go_sem,thq S,nbr S,zN0,zN1,zN2,zN3,zN4,zI0,zI1,zI2,zI3,reduceCtorEq,Z3x S,t6,t8,t9]
   exact fin c' [] hI'
  ·rw [Za h0] at t9
   rw[Z9 h0]
   have hne:o'≠[]:=fun e=>h0 (by rw[e];rfl)
   have hd:deep [.cells ((rC o').map .d) 0 false] 7 (.sref 0 0 0 o'.length 2 none)=some (.lst (rC o') o'.length none,[0]):=Y8 o' hne _ rfl 5 2 none rfl
   simp only[eG,go_sem,thq S,nbr S,zN0,zN1,zN2,zN3,zN4,zI0,zI1,zI2,zI3,reduceCtorEq,Z3x S,t6,t8,t9,hd]
   exact fin c' o' hI'
 rw[hP] at key
 obtain⟨c,o,h1,h2⟩:=key
 exact⟨c,o,h1,h2⟩
end
end Go.Aug.Mc
namespace Go.Aug.Md
open Go Go.Aug
set_option linter.unusedSimpArgs false
set_option linter.unusedVariables false
def Zuu (c:Conf)(k:Nat)(R:Conf×List Obs):Prop:=
 ∃(px:Int) (bx:List Ent) (o:List Obs),R=(⟨⟨c.state.regs,c.state.mem,c.state.stack,px⟩,bx,c.rsb,0⟩,o)/\k<bx.length/\bx.length<=c.buf.length/\o.length<=1/\bx.take k=c.buf.take k/\
  (bx.length=c.buf.length->k+1<c.buf.length->px=c.state.pc)/\(bx.length<c.buf.length->k+1<bx.length->∃ e,c.buf[bx.length]? =some e/\px=e.pc)
section
variable {N:Int} {p:Prog} {c:Conf} {k:Nat}
theorem Z7s {l:List Ent}{k:Nat}{e:Ent}:(l.set k e).take k=l.take k:=List.take_set_of_le (Nat.le_refl _)
theorem Z2u (hend:c.end_=0)(hk:k<c.buf.length)(e:Ent)(o:List Obs)(ho:o.length<=1):Zuu c k (put c (k:Int) e,o):=by
 refine⟨c.state.pc,c.buf.set k e,o,?_,by simpa using hk,by simp,ho,Z7s,fun _ _=>rfl,fun h=>by simp at h⟩
 unfold put
 rw[Int.toNat_natCast,<-hend]
theorem Zd0 (hend:c.end_=0)(hk:k<c.buf.length)(e:Ent)(to:Int):Zuu c k (goesM c (k:Int) e to):=by
 unfold goesM
 split
 ·exact Z2u hend hk _ _ (by simp)
 ·refine ⟨to, (c.buf.set k { e with done := true, next := to }).take (k + 1), [⟨3, to⟩], ?_, by rw [List.length_take, List.length_set]; omega, by rw [List.length_take, List.length_set]; omega, Nat.le_refl 1, ?_, fun h1 h2 => ?_, fun h1 h2 => ?_⟩
  ·rw[Int.toNat_natCast,<-hend]
  ·rw[List.take_take,Nat.min_eq_left (by omega)];exact Z7s
  ·rw[List.length_take,List.length_set] at h1;omega
  ·rw[List.length_take,List.length_set] at h2;omega
theorem Zyx (hk:k<c.buf.length)(hc:can N p c (k:Int)=true):Zuu c k (doM N p c (k:Int)):=by
 have hend:c.end_=0:=by
  simp only[can,Bool.and_eq_true] at hc
  exact(open_at hc.1.1).1
 unfold doM
 generalize entAt c.buf (k:Int)=e
 generalize insM p c (k:Int)=x
 unfold doK
 split
 ·exact Z2u hend hk _ _ (by simp)
 split
 ·exact Z2u hend hk _ _ (by simp)
 split
 ·exact Z2u hend hk _ _ (by simp)
 split
 ·split
  ·exact Z2u hend hk _ _ (by simp)
  ·exact Z2u hend hk _ _ (by simp)
 split
 ·exact Zd0 hend hk _ _
 split
 ·exact Zd0 hend hk _ _
 split
 ·split
  ·exact Z2u hend hk _ _ (by simp)
  ·split
   ·exact Z2u hend hk _ _ (by simp)
   ·exact Zd0 hend hk _ _
 ·exact Z2u hend hk _ _ (by simp)
theorem Ztc (hk:k<c.buf.length)(hc:canAddr p c (k:Int)=true):Zuu c k (addrM N p c (k:Int)):=by
 have hend:c.end_=0:=by
  simp only[canAddr,Bool.and_eq_true] at hc
  exact(open_at hc.1.1.1.1).1
 unfold addrM
 generalize entAt c.buf (k:Int)=e
 generalize addrOf p c (k:Int)=ad
 unfold addrK
 split
 ·exact Z2u hend hk _ _ (by simp)
 ·rw [Int.toNat_natCast]
  generalize hL:c.buf.set k { e with addr:=ad,known:=true,fault:=false }=L
  have hLl:L.length=c.buf.length:=by rw[<-hL];exact List.length_set
  have hLt:L.take k=c.buf.take k:=by rw[<-hL];exact Z7s
  unfold drop1
  cases hz:(hazard p L (k:Int) ad).2 with
  | false=>
   refine⟨c.state.pc,L,[⟨2,ad⟩],?_,by omega,by omega,Nat.le_refl 1,hLt,fun _ _=>rfl,fun h=>by omega⟩
   simp only[cond_false]
   rw[<-hend]
  | true=>
   obtain⟨z1,z2⟩:=Zke hz (by omega) (by omega)
   simp only[cond_true]
   generalize (hazard p L (k:Int) ad).1=z at *
   obtain⟨e2,he2⟩:∃ e,L[z.toNat]? =some e:=⟨_,List.getElem?_eq_getElem (by omega)⟩
   have he3:entAt L z=e2:=by unfold entAt;rw[he2];rfl
   have he4:c.buf[z.toNat]? =some e2:=by
    rw[<-hL,List.getElem?_set_ne (by omega)] at he2;exact he2
   have hlen:(L.take z.toNat).length=z.toNat:=by rw[List.length_take];omega
   refine⟨e2.pc,L.take z.toNat,[⟨2,ad⟩],?_,by omega,by omega,Nat.le_refl 1,?_,fun h1 h2=>by omega,fun h1 h2=>⟨e2,by rw[hlen];exact he4,rfl⟩⟩
   ·rw[he3,<-hend]
   ·rw[List.take_take,Nat.min_eq_left (by omega)];exact hLt
end
end Go.Aug.Md
