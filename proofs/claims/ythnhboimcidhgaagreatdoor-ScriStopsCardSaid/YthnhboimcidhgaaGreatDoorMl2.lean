import Derived.Test.YthnhboimcidhgaaGreatDoorMk
namespace Go.Aug.Md
open Go Go.Aug
set_option linter.unusedSimpArgs false
set_option linter.unusedVariables false
structure Fine (p:Prog):Prop where
 w:okW p.w=true
 win:1<=p.window/\p.window<=3
 n:p.ins.length<=1000
 ins:∀ x ∈ p.ins,1<=x.kind/\x.kind<=12/\0<=x.d/\x.d<=3/\0<=x.target/\x.target<=p.ins.length/\(x.a.reg=true->0<=x.a.n/\x.a.n<=3)/\(x.b.reg=true->0<=x.b.n/\x.b.n<=3)
theorem Zxw {p:Prog}(pc:Int):(at_ p pc ∈ p.ins/\0<=pc/\pc<p.ins.length)∨at_ p pc=faultI:=by
 unfold at_
 by_cases h:0<=pc
 ·rw [if_pos h]
  cases hx:p.ins[pc.toNat]? with
  | none=>exact .inr rfl
  | some x=>
   have:=(List.getElem?_eq_some_iff.1 hx).1
   exact .inl ⟨List.mem_of_getElem? hx,h,by omega⟩
 ·rw[if_neg h];exact .inr rfl
theorem Zue {p:Prog}{pc:Int}(h:(at_ p pc).kind≠12):0<=pc/\pc<p.ins.length:=by
 rcases Zxw (p:=p) pc with⟨_,h1⟩ | h1
 ·exact h1
 ·exact absurd (by rw[h1];rfl) h
theorem Fine.at_ {p:Prog}(hp:Fine p)(pc:Int):1<=(Md.at_ p pc).kind/\(Md.at_ p pc).kind<=12/\0<=(Md.at_ p pc).d/\(Md.at_ p pc).d<=3/\0<=(Md.at_ p pc).target/\(Md.at_ p pc).target<=p.ins.length/\((Md.at_ p pc).a.reg=true->0<=(Md.at_ p pc).a.n/\(Md.at_ p pc).a.n<=3)/\((Md.at_ p pc).b.reg=true->0<=(Md.at_ p pc).b.n/\(Md.at_ p pc).b.n<=3):=by
 rcases Zxw (p:=p) pc with⟨h,_⟩ | h
 ·exact hp.ins _ h
 ·rw[h];simp[faultI]
theorem Zf6 {n:Int}(h1: -9223372036854775808<=n)(h2:n<=9223372036854775807):w64 n=n:=Zt h1 h2
theorem Zok (b:Bool):0<=truth b:=by cases b<;>decide
theorem Y0n (w op a b:Int):0<=wdo w op a b:=by
 unfold wdo
 cases hw:okW w with
 | false=>exact Int.le_refl _
 | true=>
  simp only[cond_true]
  have m:∀ n,0<=mask w n:=fun n=>mask_nn w n
  unfold opOf
  split
  ·exact m _
  split
  ·exact m _
  split
  ·show 0<=iand _ _;rw[<-mask_iand hw];exact m _
  split
  ·show 0<=ior _ _;rw[<-mask_ior hw];exact m _
  split
  ·show 0<=ixor _ _;rw[<-mask_ixor hw];exact m _
  split
  ·show 0 <= shl _ _ _
   unfold shl;split
   ·exact Int.le_refl _
   ·exact m _
  split
  ·show 0 <= shr _ _ _
   unfold shr;split
   ·exact Int.le_refl _
   ·rw[<-mask_shr hw];exact m _
  split
  ·exact m _
  split
  ·exact Zok _
  split
  ·exact Zok _
  ·exact Int.le_refl _
theorem Z4j (p:Prog):∀(l l':List Ent) (st:List Int),l.map Ent.pc=l'.map Ent.pc->realGo p l st=realGo p l' st
 | [],[],_,_=>rfl
 | [],_::_,_,h=>by simp at h
 | _::_,[],_,h=>by simp at h
 | e::l,e'::l',st,h=>by
  simp only[List.map_cons,List.cons.injEq] at h
  unfold realGo
  rw[h.1]
  split
  ·split
   ·rfl
   ·exact Z4j p l l' _ h.2
  ·split
   ·split
    ·rfl
    ·exact Z4j p l l' _ h.2
   ·exact Z4j p l l' _ h.2
theorem Zha (p:Prog)(st:List Int){l l':List Ent}{i:Int}(h:(cut l i).map Ent.pc=(cut l' i).map Ent.pc):real p st l i=real p st l' i:=Z4j p _ _ _ h
theorem Z6f (l:List Ent)(i:Int):(cut l i).map Ent.pc=(l.map Ent.pc).take i.toNat:=by unfold cut;rw[List.map_take]
theorem Zy2 {l:List Ent}{i:Nat}{e e':Ent}(h:l[i]? =some e)(hp:e'.pc=e.pc):(l.set i e').map Ent.pc=l.map Ent.pc:=by
 apply List.ext_getElem?
 intro k
 rw[List.getElem?_map,List.getElem?_map]
 by_cases hk:i=k
 ·subst hk
  have hl:=(List.getElem?_eq_some_iff.1 h).1
  rw[List.getElem?_set_self hl,h];simp[hp]
 ·rw[List.getElem?_set_ne hk]
theorem Zmu (p:Prog)(st:List Int){l:List Ent}{i:Nat}{e e':Ent}(h:l[i]? =some e)(hp:e'.pc=e.pc)(k:Int):real p st (l.set i e') k=real p st l k:=
 Zha p st (by rw[Z6f,Z6f,Zy2 h hp])
theorem Zs5 (p:Prog)(st:List Int)(l:List Ent){m:Nat}{k:Int}(h:k.toNat<=m):real p st (l.take m) k=real p st l k:=
 Zha p st (by rw[Z6f,Z6f,List.map_take,List.take_take,Nat.min_eq_left h])
theorem Zov (p:Prog)(st:List Int)(l r:List Ent){k:Int}(h:k.toNat<=l.length):real p st (l++r) k=real p st l k:=
 Zha p st (by rw[Z6f,Z6f,List.map_append,List.take_append_of_le_length (by rw[List.length_map];exact h)])
theorem Z6u (p:Prog)(hp:Fine p)(Q:Int->Prop)(hQ:∀ pc:Int,0<=pc->pc<(p.ins.length:Int)->Q (pc+1)):∀(l:List Ent) (st:List Int),(∀ x ∈ st,Q x)->∀ r,realGo p l st=some r->∀ x ∈ r,Q x
 | [],st,h,r,hr=>by simp[realGo] at hr;subst hr;exact h
 | e::l,st,h,r,hr=>by
  unfold realGo at hr
  split at hr
  ·rename_i k8
   split at hr
   ·cases hr
   ·refine Z6u p hp Q hQ l _ ?_ r hr
    obtain⟨a,b⟩:=Zue (p:=p) (pc:=e.pc) (by rw[k8];decide)
    have:=hp.n
    intro x hx
    rcases List.mem_append.1 hx with hx | hx
    ·exact h x hx
    ·simp at hx; subst hx
     rw[Zf6 (by omega) (by omega)];exact hQ _ a b
  ·split at hr
   ·split at hr
    ·cases hr
    ·exact Z6u p hp Q hQ l _ (fun x hx=>h x ((List.dropLast_sublist st).subset hx)) r hr
   ·exact Z6u p hp Q hQ l _ h r hr
theorem Z6t (p:Prog):∀(l:List Ent) (st:List Int) r,realGo p l st=some r->r.length<=st.length+l.length
 | [],st,r,hr=>by simp[realGo] at hr;subst hr;simp
 | e::l,st,r,hr=>by
  unfold realGo at hr
  split at hr
  ·split at hr
   ·cases hr
   ·have:=Z6t p l _ r hr;simp at this ⊢;omega
  ·split at hr
   ·split at hr
    ·cases hr
    ·have:=Z6t p l _ r hr;simp at this ⊢;omega
   ·have:=Z6t p l _ r hr;simp at this ⊢;omega
structure EntOk (N:Int) (p:Prog) (k:Nat) (r:Option (List Int)) (e:Ent):Prop where
 pc:0<=e.pc/\e.pc<=p.ins.length
 nx: -1<=e.next/\e.next<=p.ins.length
 fr: -1<=e.frm/\e.frm<k
 vl:0<=e.val
 ld:(at_ p e.pc).kind=2->e.done=false->e.val=0/\e.frm= -1
 st:(at_ p e.pc).kind=3->e.known=false->e.fault=false
 sk:(at_ p e.pc).kind=3->e.known=true->e.fault=false->0<=e.addr/\e.addr<N
 rt:(at_ p e.pc).kind=9->e.done=true->e.fault=false->∃ l,r=some l/\l≠[]
 cl:(at_ p e.pc).kind=8->e.fault=false->∃ l,r=some l/\l.length<4
 dn:(at_ p e.pc).kind=6∨(at_ p e.pc).kind=8∨(at_ p e.pc).kind=11∨(at_ p e.pc).kind=12->e.done=true
def Zuw (p:Prog)(e:Ent):Prop:=(at_ p e.pc).kind=11∨(at_ p e.pc).kind=12
structure Inv (N:Int) (p:Prog) (c:Conf):Prop where
 mem:(c.state.mem.length:Int)=N
 mv:∀ x ∈ c.state.mem,0<=x
 rg:0<=c.state.regs.r0/\0<=c.state.regs.r1/\0<=c.state.regs.r2/\0<=c.state.regs.r3
 buf:(c.buf.length:Int)<=p.window
 rsb:c.rsb.length<=2
 rv:∀ x ∈ c.rsb,0<=x/\x<=p.ins.length
 stk:c.state.stack.length<=4
 sv:∀ x ∈ c.state.stack,0<=x/\x<=p.ins.length
 pc: -1<=c.state.pc/\c.state.pc<=p.ins.length
 last:c.end_=0->c.state.pc= -1->∃ l e,c.buf=l++[e]/\Zuw p e
 ent:∀(k:Nat) e,c.buf[k]? =some e->EntOk N p k (real p c.state.stack c.buf (k:Int)) e
section
variable {N:Int} {p:Prog} {c:Conf}
theorem Zz6 (h:0<=c.state.regs.r0/\0<=c.state.regs.r1/\0<=c.state.regs.r2/\0<=c.state.regs.r3)(r:Int):0<=getR c.state.regs r:=by
 unfold getR;split
 ·exact h.1
 ·split
  ·exact h.2.1
  ·split
   ·exact h.2.2.1
   ·exact h.2.2.2
theorem Zou (p:Prog)(r d:Int)(hd:0<=d):∀ l:List Ent,(∀ e ∈ l,0<=e.val)->0<=(regGo p r d l).1
 | [],_=>hd
 | e::l,h=>by
  unfold regGo
  cases destK (at_ p e.pc)&&(at_ p e.pc).d==r with
  | true=>
   cases e.done with
   | true=>exact h e (by simp)
   | false=>exact Int.le_refl _
  | false=>exact Zou p r d hd l fun x hx=>h x (by simp[hx])
theorem Zt1 {l:List Ent}{i:Int}{e:Ent}(h:e ∈ cut l i):e ∈ l:=List.mem_of_mem_take h
theorem Inv.vals (h:Inv N p c){e:Ent}(he:e ∈ c.buf):0<=e.val:=by
 obtain⟨k,hk⟩:=List.getElem?_of_mem he
 exact(h.ent k e hk).vl
theorem Inv.reg (h:Inv N p c)(i r:Int):0<=(regM p c i r).1:=by
 unfold regM Md.reg
 split
 ·exact Int.le_refl _
 ·exact Zou p r _ (Zz6 h.rg r) _ fun e he=>h.vals (Zt1 (List.mem_reverse.1 he))
theorem Inv.val (h:Inv N p c)(i:Int)(v:Val):0<=(valM p c i v).1:=by
 unfold valM Md.val
 cases v.reg with
 | true=>exact h.reg i v.n
 | false=>exact mask_nn _ _
theorem Zk8 (p:Prog)(mem:List Int)(a:Int)(hm:∀ x ∈ mem,0<=x):∀ l:List Ent,(∀ e ∈ l,0<=e.val)->0<=(loadGo p mem a l).1/\((loadGo p mem a l).2.2=true-> -1<=(loadGo p mem a l).2.1/\(loadGo p mem a l).2.1<l.length)
 | [],_=>by
  unfold loadGo
  split
  ·exact⟨Int.le_refl _,fun _=>⟨Int.le_refl _,by simp⟩⟩
  ·refine ⟨?_, fun _ => ⟨Int.le_refl _, by simp⟩⟩
   cases hx:mem[a.toNat]? with
   | none=>exact Int.le_refl _
   | some x=>exact hm x (List.mem_of_getElem? hx)
 | e::l,h=>by
  unfold loadGo
  have ih:=Zk8 p mem a hm l fun x hx=>h x (by simp[hx])
  cases hitS p a e with
  | true=>
   cases e.done with
   | true=>exact⟨h e (by simp),fun _=>⟨by simp<;>omega,by simp<;>omega⟩⟩
   | false=>exact⟨Int.le_refl _,fun h=>by simp at h⟩
  | false=>exact⟨ih.1,fun h=>⟨(ih.2 h).1,by have:=(ih.2 h).2;simp;omega⟩⟩
theorem Inv.load (h:Inv N p c){i a:Int}(h0:0<=i):0<=(loadM p c i a).1/\((loadM p c i a).2.2=true-> -1<=(loadM p c i a).2.1/\(loadM p c i a).2.1<i):=by
 have:=Zk8 p c.state.mem a h.mv (cut c.buf i).reverse fun e he=>h.vals (Zt1 (List.mem_reverse.1 he))
 refine⟨this.1,fun hk=> ?_⟩
 obtain⟨a1,a2⟩:=this.2 hk
 refine⟨a1,Int.lt_of_lt_of_le a2 ?_⟩
 rw[List.length_reverse]
 unfold cut
 rw[List.length_take];omega
theorem Inv.real (hp:Fine p)(h:Inv N p c){i:Int}{l:List Int}(hr:real p c.state.stack c.buf i=some l):(∀ x ∈ l,0<=x/\x<=p.ins.length)/\l.length<=7:=by
 refine⟨Z6u p hp (fun x=>0<=x/\x<=p.ins.length) (fun pc h1 h2=>⟨by omega,by omega⟩) _ _ h.sv _ hr,?_⟩
 have h1:=Z6t p _ _ _ hr
 have h2:=h.stk
 have h3:=h.buf
 have h4:=hp.win
 have:(cut c.buf i).length<=c.buf.length:=by unfold cut;rw[List.length_take];omega
 omega
theorem Zk9 {l:List Int}(h:l≠[]):lastI l ∈ l:=by
 unfold lastI
 rw[List.getLast?_eq_some_getLast h]
 exact List.getLast_mem h
theorem Inv.put (h:Inv N p c){i:Nat}{e e':Ent}(he:c.buf[i]? =some e)(hpc:e'.pc=e.pc)(ho:EntOk N p i (Md.real p c.state.stack c.buf (i:Int)) e'):Inv N p { c with buf:=c.buf.set i e' }:=by
 refine { h with buf:=by simpa using h.buf,last:=fun h1 h2=> ?_,ent:=fun k x hx=> ?_ }
 ·obtain ⟨l, x, hl, hs⟩ := h.last h1 h2
  have hil:=(List.getElem?_eq_some_iff.1 he).1
  rw[hl] at he hil ⊢
  rw[List.length_append,List.length_singleton] at hil
  by_cases hi:i=l.length
  ·subst hi
   rw[List.getElem?_append_right (Nat.le_refl _),Nat.sub_self] at he
   simp at he
   subst he
   refine⟨l,e',?_,?_⟩
   ·rw[List.set_append_right _ _ (Nat.le_refl _),Nat.sub_self];rfl
   ·unfold Zuw at hs ⊢;rw[hpc];exact hs
  ·refine ⟨l.set i e', x, ?_, hs⟩
   rw[List.set_append_left _ _ (by omega)]
 ·show EntOk N p k (Md.real p c.state.stack (c.buf.set i e') k) x
  rw[Zmu p _ he hpc]
  by_cases hk:i=k
  ·subst hk
   have hx':(c.buf.set i e')[i]? =some x:=hx
   rw[List.getElem?_set_self (List.getElem?_eq_some_iff.1 he).1] at hx'
   simp at hx'
   subst hx'
   exact ho
  ·have hx' : (c.buf.set i e')[k]? = some x := hx
   rw[List.getElem?_set_ne hk] at hx'
   exact h.ent k x hx'
theorem Inv.cut (h:Inv N p c)(m:Nat){pc:Int}(h0:0<=pc)(h1:pc<=p.ins.length):Inv N p { c with buf:=c.buf.take m,state:={ c.state with pc:=pc } }:=by
 refine { h with buf:= ?_,pc:=⟨by show -1<=pc;omega,h1⟩,last:=fun _ h2=> ?_,ent:=fun k x hx=> ?_ }
 ·have := h.buf
  show((c.buf.take m).length:Int)<=_
  rw[List.length_take];omega
 ·have : pc = -1 := h2
  omega
 ·have hx' : (c.buf.take m)[k]? = some x := hx
  rw[List.getElem?_take] at hx'
  split at hx'
  ·show EntOk N p k (Md.real p c.state.stack (c.buf.take m) k) x
   rw[Zs5 p _ _ (by simp;omega)]
   exact h.ent k x hx'
  ·cases hx'
theorem Inv.goes (h:Inv N p c){i:Nat}{e:Ent}(he:c.buf[i]? =some e){to:Int}(h0:0<=to)(h1:to<=p.ins.length)(ho:∀ nx,-1<=nx->nx<=(p.ins.length:Int)->EntOk N p i (Md.real p c.state.stack c.buf (i:Int)) { e with done:=true,next:=nx }):Inv N p (goesM c i e to).1:=by
 unfold goesM
 split
 ·exact h.put he rfl (by
   have hn:=(h.ent i e he).nx
   exact ho e.next hn.1 hn.2)
 ·exact(h.put (e':={ e with done:=true,next:=to }) he rfl (ho to (by omega) h1)).cut (i+1) h0 h1
end
end Go.Aug.Md
namespace Go.Aug.Md
open Go Go.Aug
set_option linter.unusedSimpArgs false
set_option linter.unusedVariables false
section
variable {N:Int} {p:Prog} {c:Conf}
theorem open_at {i:Int}(h:openM p c i=true):c.end_=0/\∃ k:Nat,i=k/\c.buf[k]? =some (entAt c.buf i):=by
 simp only[openM,Bool.and_eq_true,beq_iff_eq,decide_eq_true_eq] at h
 obtain⟨⟨⟨h1,h2⟩,h3⟩,_⟩:=h
 refine⟨h1,i.toNat,by omega,?_⟩
 unfold entAt
 obtain⟨e,he⟩:∃ e,c.buf[i.toNat]? =some e:=⟨_,List.getElem?_eq_getElem (by omega)⟩
 rw[he];rfl
theorem Inv.done {i:Int}(hp:Fine p)(h:Inv N p c)(hc:can N p c i=true):Inv N p (doM N p c i).1:=by
 have hc':=hc
 simp only[can,Bool.and_eq_true,Bool.not_eq_true'] at hc'
 obtain⟨⟨ho,hd⟩,hr⟩:=hc'
 obtain⟨hend,k,hik,he⟩:=open_at ho
 have hE:=h.ent k _ he
 have hx:at_ p (entAt c.buf i).pc=insM p c i:=rfl
 have ha:=h.val i (insM p c i).a
 have hb:=h.val i (insM p c i).b
 have hD:=h.reg i (insM p c i).d
 have hfa:=hp.at_ (entAt c.buf i).pc
 rw[hx] at hfa
 have hn:=hp.n
 unfold doM
 generalize insM p c i=x at *
 generalize entAt c.buf i=e at *
 unfold doK
 have hki:i.toNat=k:=by omega
 have e0:=hE
 obtain⟨q1,q2,q3,q4,q5,q6,q7,q8,q9,q10⟩:=hE
 rw[hx] at q5 q6 q7 q8 q9 q10
 split
 ·rename_i k1
  show Inv N p { c with buf:=c.buf.set i.toNat _ }
  rw[hki]
  refine h.put he rfl ⟨q1,q2,q3,Y0n _ _ _ _,?_,?_,?_,?_,?_,?_⟩<;>simp only[hx,k1,Int.reduceEq,false_imp_iff,or_self,or_false,false_or]
 split
 ·rename_i _ k4
  show Inv N p { c with buf:=c.buf.set i.toNat _ }
  rw[hki]
  refine h.put he rfl ⟨q1,q2,q3,?_,?_,?_,?_,?_,?_,?_⟩
  ·show 0 <= (if _ then _ else _ : Int)
   split
   ·exact hD
   ·exact hb
  all_goals simp only[hx,k4,Int.reduceEq,false_imp_iff,or_self,or_false,false_or]
 split
 ·rename_i _ _ k3
  show Inv N p { c with buf:=c.buf.set i.toNat _ }
  rw[hki]
  refine h.put he rfl ⟨q1,q2,q3,hD,?_,fun _=>q6 k3,fun _=>q7 k3,?_,?_,?_⟩<;>simp only[hx,k3,Int.reduceEq,false_imp_iff,or_self,or_false,false_or]
 split
 ·rename_i _ _ _ k2
  split
  ·show Inv N p { c with buf := c.buf.set i.toNat _ }
   rw[hki]
   refine h.put he rfl ⟨q1,q2,⟨Int.le_refl (-1),by show(-1:Int)<k;omega⟩,Int.le_refl _,?_,?_,?_,?_,?_,?_⟩
   ·intro _ h;cases h
   all_goals simp only[hx,k2,Int.reduceEq,false_imp_iff,or_self,or_false,false_or]
  ·rename_i hlt
   have hl:=h.load (i:=i) (a:=mask p.w ((valM p c i x.a).1+(valM p c i x.b).1)) (by omega)
   have hok:(loadM p c i (mask p.w ((valM p c i x.a).1+(valM p c i x.b).1))).2.2=true:=by
    simp only[ready,k2,Int.reduceEq,or_self,if_false,if_true,Bool.and_eq_true,Bool.or_eq_true,decide_eq_true_eq] at hr
    rcases hr.2 with h | h
    ·exact absurd h hlt
    ·exact h
   have hl2:=hl.2 hok
   show Inv N p { c with buf:=c.buf.set i.toNat _ }
   rw[hki]
   refine h.put he rfl ⟨q1,q2,⟨hl2.1,hik ▸ hl2.2⟩,hl.1,?_,?_,?_,?_,?_,?_⟩
   ·intro _ h;cases h
   all_goals simp only[hx,k2,Int.reduceEq,false_imp_iff,or_self,or_false,false_or]
 have goal9:∀ {to:Int},0<=to->to<=p.ins.length->x.kind≠2->x.kind≠3->(x.kind=9->∃ l,Md.real p c.state.stack c.buf (k:Int)=some l/\l≠[])->Inv N p (goesM c i e to).1:=by
  intro to h0 h1 n2 n3 h9
  rw[hik]
  refine h.goes he h0 h1 fun nx n0 n1=>⟨q1,⟨n0,n1⟩,q3,q4,?_,?_,?_,?_,?_,?_⟩
  ·intro h;rw[hx] at h;exact absurd h n2
  ·intro h;rw[hx] at h;exact absurd h n3
  ·intro h;rw[hx] at h;exact absurd h n3
  ·intro h;rw[hx] at h;intro _ _;exact h9 h
  ·intro h;rw[hx] at h;exact q9 h
  ·intro _;rfl
 split
 ·rename_i _ _ _ _ k5
  refine goal9 ?_ ?_ (by omega) (by omega) (by omega)
  ·split
   ·rw[Zf6 (by omega) (by omega)];omega
   ·exact hfa.2.2.2.2.1
  ·split
   ·obtain ⟨a1, a2⟩ := Zue (p := p) (pc := e.pc) (by rw [hx]; omega)
    rw[Zf6 (by omega) (by omega)];omega
   ·exact hfa.2.2.2.2.2.1
 split
 ·rename_i _ _ _ _ _ k7
  exact goal9 (by omega) (by omega) (by omega) (by omega) (by omega)
 split
 ·rename_i _ _ _ _ _ _ k9
  have fl:Inv N p (Md.put c i { e with done:=true,fault:=true }):=by
   show Inv N p { c with buf:=c.buf.set i.toNat _ }
   rw[hki]
   refine h.put he rfl ⟨q1,q2,q3,q4,?_,?_,?_,?_,?_,?_⟩
   ·intro h;rw[hx,k9] at h;simp at h
   ·intro h;rw[hx,k9] at h;simp at h
   ·intro h;rw[hx,k9] at h;simp at h
   ·intro _ _ h;cases h
   ·intro h;rw[hx,k9] at h;simp at h
   ·intro _;rfl
  split
  ·exact fl
  ·rename_i l hl
   split
   ·exact fl
   ·rename_i hne
    have hne':l≠[]:=fun e=>hne (by rw[e];rfl)
    obtain⟨b1,b2⟩:=(h.real hp hl).1 _ (Zk9 hne')
    exact goal9 b1 b2 (by omega) (by omega) (fun _=>⟨l,by rw[hik] at hl;exact hl,hne'⟩)
 ·rename_i n1 n4 n3 n2 n5 n7 n9
  have:x.kind=9:=by
   simp only[ready,n1,n4,n3,n2,n5,n7,or_self,if_false,decide_eq_true_eq] at hr
   exact hr
  exact absurd this n9
theorem Zpg (p:Prog)(i addr:Int):∀(l:List Ent) (k:Nat),(hazGo p i addr k l).2=true->(k:Int)<=(hazGo p i addr k l).1/\(hazGo p i addr k l).1<k+l.length
 | [],_,h=>by cases h
 | e::l,k,h=>by
  unfold hazGo at h ⊢
  cases hh:hitL p i addr e with
  | true=>simp;omega
  | false=>
   rw[hh] at h
   simp only[cond_false] at h ⊢
   have:=Zpg p i addr l (k+1) h
   simp only[List.length_cons]
   omega
theorem Zke {l:List Ent}{i addr:Int}(h:(hazard p l i addr).2=true)(h0:0<=i)(h1:i<l.length):i+1<=(hazard p l i addr).1/\(hazard p l i addr).1<l.length:=by
 have:=Zpg p i addr _ _ h
 unfold hazard
 rw[List.length_drop] at this
 have e:hazAt l i=i.toNat+1:=by unfold hazAt;omega
 rw[e] at this ⊢
 omega
theorem Inv.addr {i:Int}(hp:Fine p)(h:Inv N p c)(hc:canAddr p c i=true):Inv N p (addrM N p c i).1:=by
 have hc':=hc
 simp only[canAddr,Bool.and_eq_true,Bool.not_eq_true',decide_eq_true_eq] at hc'
 obtain⟨⟨⟨⟨ho,hkn⟩,k3⟩,ha⟩,hb⟩:=hc'
 obtain⟨hend,k,hik,he⟩:=open_at ho
 have hE:=h.ent k _ he
 have hx:(at_ p (entAt c.buf i).pc).kind=3:=k3
 have hki:i.toNat=k:=by omega
 have had:0<=addrOf p c i:=mask_nn _ _
 unfold addrM
 generalize addrOf p c i=ad at *
 generalize entAt c.buf i=e at *
 obtain⟨q1,q2,q3,q4,q5,q6,q7,q8,q9,q10⟩:=hE
 unfold addrK
 split
 ·show Inv N p { c with buf := c.buf.set i.toNat _ }
  rw[hki]
  refine h.put he rfl ⟨q1,q2,q3,q4,?_,?_,?_,?_,?_,?_⟩
  ·intro h;have h:(at_ p e.pc).kind=_:=h;omega
  ·intro _ h;cases h
  ·intro _ _ h;cases h
  ·intro h;have h:(at_ p e.pc).kind=_:=h;omega
  ·intro h;have h:(at_ p e.pc).kind=_:=h;omega
  ·intro h;exact q10 h
 ·rename_i hlt
  have h1:Inv N p { c with buf:=c.buf.set i.toNat { e with addr:=ad,known:=true,fault:=false } }:=by
   rw[hki]
   refine h.put he rfl ⟨q1,q2,q3,q4,?_,?_,?_,?_,?_,?_⟩
   ·intro h;have h:(at_ p e.pc).kind=_:=h;omega
   ·intro _ h;cases h
   ·intro _ _ _;exact⟨had,Int.not_le.1 hlt⟩
   ·intro h;have h:(at_ p e.pc).kind=_:=h;omega
   ·intro h;have h:(at_ p e.pc).kind=_:=h;omega
   ·intro h;exact q10 h
  show Inv N p (drop1 p c i ad _)
  generalize hL:c.buf.set i.toNat { e with addr:=ad,known:=true,fault:=false }=L at h1 ⊢
  unfold drop1
  cases hz:(hazard p L i ad).2 with
  | false=>exact h1
  | true=>
   simp only[cond_true]
   have hk:=(List.getElem?_eq_some_iff.1 he).1
   have hLl:L.length=c.buf.length:=by rw[<-hL];exact List.length_set
   obtain⟨z1,z2⟩:=Zke hz (by omega) (by omega)
   generalize (hazard p L i ad).1=z at *
   obtain⟨e2,he2⟩:∃ e,L[z.toNat]? =some e:=⟨_,List.getElem?_eq_getElem (by omega)⟩
   have he3:entAt L z=e2:=by unfold entAt;rw[he2];rfl
   rw[he3]
   have hp2:=(h1.ent z.toNat e2 he2).pc
   exact h1.cut z.toNat hp2.1 hp2.2
theorem Zv6 {l:List Int}{x y:Int}(h:y ∈ push l x):y ∈ l∨y=x:=by
 unfold push at h
 have:=List.mem_of_mem_drop h
 simpa using this
theorem Inv.fetched {g:Int}(hp:Fine p)(h:Inv N p c)(hc:canFetch p c g=true):Inv N p (fetch p c g):=by
 simp only[canFetch,Bool.and_eq_true,decide_eq_true_eq] at hc
 obtain⟨g0,g1⟩:=hc
 have hg:c.end_=0/\c.state.pc≠ -1/\(c.buf.length:Int)<p.window:=by
  unfold guesses at g1
  split at g1
  ·omega
  ·rename_i hh
   simp only[not_or,ne_eq,Decidable.not_not] at hh
   exact⟨hh.1,hh.2.1,by omega⟩
 obtain⟨he0,hpc,hlen⟩:=hg
 have hpc2:=h.pc
 have hn:=hp.n
 have hfa:=hp.at_ c.state.pc
 have key:EntOk N p c.buf.length (Md.real p c.state.stack c.buf (c.buf.length:Int)) (entry p c g).1/\(entry p c g).1.pc=c.state.pc/\((entry p c g).1.next= -1->Zuw p (entry p c g).1)/\(entry p c g).2.length<=2/\∀ x ∈ (entry p c g).2,0<=x/\x<=p.ins.length:=by
  have hlt:∀ q:Int,q≠12->(Md.at_ p c.state.pc).kind=q->0<=c.state.pc/\c.state.pc<p.ins.length:=fun q hq hk=>Zue (by rw[hk];exact hq)
  have w1:w64 (c.state.pc+1)=c.state.pc+1:=Zf6 (by omega) (by omega)
  unfold entry
  simp only[w1]
  split
  ·rename_i k5
   obtain⟨p0,p1⟩:=hlt 5 (by decide) k5
   refine⟨⟨⟨by show 0<=c.state.pc;omega,by show c.state.pc<=_;omega⟩,?_,⟨Int.le_refl (-1),by show(-1:Int)<_;omega⟩,Int.le_refl _,?_,?_,?_,?_,?_,?_⟩,rfl,?_,h.rsb,h.rv⟩
   ·show -1 <= (if g = 1 then (Md.at_ p c.state.pc).target else c.state.pc + 1) /\ (if g = 1 then (Md.at_ p c.state.pc).target else c.state.pc + 1) <= (p.ins.length : Int)
    split
    ·omega
    ·omega
   all_goals first
    | (intro h;simp only[k5] at h;omega)
    | skip
   all_goals (intro h;have h:(if g=1 then(Md.at_ p c.state.pc).target else c.state.pc+1)= -1:=h;split at h<;>omega)
  split
  ·rename_i _ k6
   obtain⟨p0,p1⟩:=hlt 6 (by decide) k6
   refine⟨⟨⟨by show 0<=c.state.pc;omega,by show c.state.pc<=_;omega⟩,⟨by show -1<=(Md.at_ p c.state.pc).target;omega,by show(Md.at_ p c.state.pc).target<=_;omega⟩,⟨Int.le_refl (-1),by show(-1:Int)<_;omega⟩,Int.le_refl _,?_,?_,?_,?_,?_,fun _=>rfl⟩,rfl,?_,h.rsb,h.rv⟩
   all_goals first
    | (intro h;simp only[k6] at h;omega)
    | skip
   all_goals (intro h;have h:(Md.at_ p c.state.pc).target= -1:=h;omega)
  split
  ·rename_i _ _ k7
   obtain⟨p0,p1⟩:=hlt 7 (by decide) k7
   have hg2:guesses p c=p.ins.length+1:=by
    unfold guesses
    rw[if_neg (by simp only[not_or];exact⟨by omega,hpc,by omega⟩),if_neg (by omega),if_pos (.inl k7)]
   refine⟨⟨⟨by show 0<=c.state.pc;omega,by show c.state.pc<=_;omega⟩,⟨by show -1<=g;omega,by show g<=_;omega⟩,⟨Int.le_refl (-1),by show(-1:Int)<_;omega⟩,Int.le_refl _,?_,?_,?_,?_,?_,?_⟩,rfl,?_,h.rsb,h.rv⟩
   all_goals first
    | (intro h;simp only[k7] at h;omega)
    | skip
   all_goals (intro h;have h:g= -1:=h;omega)
  split
  ·rename_i _ _ _ k8
   obtain⟨p0,p1⟩:=hlt 8 (by decide) k8
   refine⟨⟨⟨by show 0<=c.state.pc;omega,by show c.state.pc<=_;omega⟩,⟨by show -1<=(Md.at_ p c.state.pc).target;omega,by show(Md.at_ p c.state.pc).target<=_;omega⟩,⟨Int.le_refl (-1),by show(-1:Int)<_;omega⟩,Int.le_refl _,?_,?_,?_,?_,?_,fun _=>rfl⟩,rfl,?_,?_,?_⟩
   ·intro h;simp only[k8] at h;omega
   ·intro h;simp only[k8] at h;omega
   ·intro h;simp only[k8] at h;omega
   ·intro h;simp only[k8] at h;omega
   ·intro _ hf
    have hf:(match Md.real p c.state.stack c.buf c.buf.length with | none=>true | some l=>decide (4<=l.length))=false:=hf
    cases hr:Md.real p c.state.stack c.buf c.buf.length with
    | none=>rw[hr] at hf;cases hf
    | some l=>
     rw[hr] at hf
     exact⟨l,rfl,by simpa using hf⟩
   ·intro h
    have h:(Md.at_ p c.state.pc).target= -1:=h
    omega
   ·show (push c.rsb (c.state.pc + 1)).length <= 2
    unfold push
    rw[List.length_drop,List.length_append,List.length_singleton];omega
   ·intro x hx
    rcases Zv6 hx with hx | rfl
    ·exact h.rv x hx
    ·omega
  split
  ·rename_i _ _ _ _ k9
   obtain⟨p0,p1⟩:=hlt 9 (by decide) k9
   have ok:∀ nx:Int,0<=nx->nx<=p.ins.length->EntOk N p c.buf.length (Md.real p c.state.stack c.buf (c.buf.length:Int)) ⟨c.state.pc,0,0,-1,nx,false,false,false⟩:=by
    intro nx n0 n1
    refine⟨⟨by show 0<=c.state.pc;omega,by show c.state.pc<=_;omega⟩,⟨by show -1<=nx;omega,n1⟩,⟨Int.le_refl (-1),by show(-1:Int)<_;omega⟩,Int.le_refl _,?_,?_,?_,?_,?_,?_⟩
    ·intro h;simp only[k9] at h;omega
    ·intro h;simp only[k9] at h;omega
    ·intro h;simp only[k9] at h;omega
    ·intro _ h;cases h
    ·intro h;simp only[k9] at h;omega
    ·intro h;simp only[k9] at h;omega
   split
   ·rename_i hr0
    have hg2:guesses p c=p.ins.length+1:=by
     unfold guesses
     rw[if_neg (by simp only[not_or];exact⟨by omega,hpc,by omega⟩),if_neg (by omega),if_pos (.inr ⟨k9,hr0⟩)]
    exact⟨ok g g0 (by omega),rfl,fun h=>by have h:g= -1:=h;omega,h.rsb,h.rv⟩
   ·rename_i hr0
    have hne:c.rsb≠[]:=fun e=>hr0 (by rw[e];rfl)
    obtain⟨b1,b2⟩:=h.rv _ (Zk9 hne)
    refine⟨ok _ b1 b2,rfl,fun h=>by have h:lastI c.rsb= -1:=h;omega,?_,fun x hx=>h.rv x ((List.dropLast_sublist _).subset hx)⟩
    show c.rsb.dropLast.length<=2
    have:=h.rsb
    rw[List.length_dropLast];omega
  split
  ·rename_i _ _ _ _ _ k11
   refine⟨⟨⟨by show 0<=c.state.pc;omega,by show c.state.pc<=_;omega⟩,⟨by show(-1:Int)<= -1;omega,by show(-1:Int)<=_;omega⟩,⟨Int.le_refl (-1),by show(-1:Int)<_;omega⟩,Int.le_refl _,?_,?_,?_,?_,?_,fun _=>rfl⟩,rfl,fun _=>k11,h.rsb,h.rv⟩
   all_goals (intro h;have h:(Md.at_ p c.state.pc).kind=_:=h;omega)
  ·rename_i n5 n6 n7 n8 n9 n11
   obtain⟨p0,p1⟩:=Zue (p:=p) (pc:=c.state.pc) (by omega)
   refine⟨⟨⟨by show 0<=c.state.pc;omega,by show c.state.pc<=_;omega⟩,⟨by show -1<=c.state.pc+1;omega,by show c.state.pc+1<=_;omega⟩,⟨Int.le_refl (-1),by show(-1:Int)<_;omega⟩,Int.le_refl _,fun _ _=>⟨rfl,rfl⟩,fun _ _=>rfl,?_,?_,?_,?_⟩,rfl,fun h=>by have h:c.state.pc+1= -1:=h;omega,h.rsb,h.rv⟩
   ·intro _ h;cases h
   ·intro _ h;cases h
   ·intro h;have h:(Md.at_ p c.state.pc).kind=_:=h;omega
   ·intro h
    have h:(Md.at_ p c.state.pc).kind=6∨(Md.at_ p c.state.pc).kind=8∨(Md.at_ p c.state.pc).kind=11∨(Md.at_ p c.state.pc).kind=12:=h
    omega
 obtain⟨k1,k2,k3,k4,k5⟩:=key
 refine⟨h.mem,h.mv,h.rg,?_,k4,k5,h.stk,h.sv,k1.nx,?_,?_⟩
 ·show ((c.buf ++ [(entry p c g).1]).length : Int) <= _
  rw[List.length_append,List.length_singleton];omega
 ·intro _ hn
  exact⟨c.buf,_,rfl,k3 hn⟩
 ·intro k e he
  have he:(c.buf++[(entry p c g).1])[k]? =some e:=he
  show EntOk N p k (Md.real p c.state.stack (c.buf++[(entry p c g).1]) k) e
  by_cases hk:k<c.buf.length
  ·rw [Zov p _ _ _ (by simp; omega)]
   rw[List.getElem?_append_left hk] at he
   exact h.ent k e he
  ·have hk2:k=c.buf.length:=by
    have:=(List.getElem?_eq_some_iff.1 he).1
    rw[List.length_append,List.length_singleton] at this;omega
   subst hk2
   rw[Zov p _ _ _ (by simp)]
   rw[List.getElem?_append_right (Nat.le_refl _),Nat.sub_self] at he
   simp at he
   subst he
   exact k1
end
end Go.Aug.Md
