import Derived.Test.YtmfdoekbjkgckaaGreatMl
namespace Go.Aug.Md
open Go Go.Aug
set_option linter.unusedSimpArgs false
set_option linter.unusedVariables false
section
variable {N:Int} {p:Prog} {c:Conf}
theorem Gq {i:Int}(h:QX p c i=true):c.end_=0/\∃ k:Nat,i=k/\c.buf[k]? =some (ZT c.buf i):=by
 simp only[QX,Bool.and_eq_true,beq_iff_eq,decide_eq_true_eq] at h
 obtain⟨⟨⟨h1,h2⟩,h3⟩,_⟩:=h
 refine⟨h1,i.toNat,by omega,?_⟩
 unfold ZT
 obtain⟨e,he⟩:∃ e,c.buf[i.toNat]? =some e:=⟨_,List.getElem?_eq_getElem (by omega)⟩
 rw[he];rfl
theorem Inv.done {i:Int}(hp:Fine p)(h:Inv N p c)(hc:can N p c i=true):Inv N p (A9 N p c i).1:=by
 have hc':=hc
 simp only[can,Bool.and_eq_true,Bool.not_eq_true'] at hc'
 obtain⟨⟨ho,hd⟩,hr⟩:=hc'
 obtain⟨hend,k,hik,he⟩:=Gq ho
 have hE:=h.ent k _ he
 have hx:at_ p (ZT c.buf i).pc=Qk p c i:=rfl
 have ha:=h.val i (Qk p c i).a
 have hb:=h.val i (Qk p c i).b
 have hD:=h.reg i (Qk p c i).d
 have hfa:=hp.at_ (ZT c.buf i).pc
 rw[hx] at hfa
 have hn:=hp.n
 unfold A9
 generalize Qk p c i=x at *
 generalize ZT c.buf i=e at *
 unfold Bz
 have hki:i.toNat=k:=by omega
 have e0:=hE
 obtain⟨q1,q2,q3,q4,q5,q6,q7,q8,q9,q10⟩:=hE
 rw[hx] at q5 q6 q7 q8 q9 q10
 split
 ·rename_i k1
  show Inv N p { c with buf:=c.buf.set i.toNat _ }
  rw[hki]
  refine h.put he rfl ⟨q1,q2,q3,Zc9 _ _ _ _,?_,?_,?_,?_,?_,?_⟩<;>simp only[hx,k1,Int.reduceEq,false_imp_iff,or_self,or_false,false_or]
 split
 ·rename_i _ k4
  show Inv N p { c with buf:=c.buf.set i.toNat _ }
  rw[hki]
  refine h.put he rfl ⟨q1,q2,q3,?_,?_,?_,?_,?_,?_,?_⟩
  ·show 0 <= (if _ then _ else _ : Int)
   split
   ·exact hD
   ·exact hb
  all_goals simp only[hx,k4,Int.reduceEq,false_imp_iff,or_self,or_false,false_or]
 split
 ·rename_i _ _ k3
  show Inv N p { c with buf:=c.buf.set i.toNat _ }
  rw[hki]
  refine h.put he rfl ⟨q1,q2,q3,hD,?_,fun _=>q6 k3,fun _=>q7 k3,?_,?_,?_⟩<;>simp only[hx,k3,Int.reduceEq,false_imp_iff,or_self,or_false,false_or]
 split
 ·rename_i _ _ _ k2
  split
  ·show Inv N p { c with buf := c.buf.set i.toNat _ }
   rw[hki]
   refine h.put he rfl ⟨q1,q2,⟨Int.le_refl (-1),by show(-1:Int)<k;omega⟩,Int.le_refl _,?_,?_,?_,?_,?_,?_⟩
   ·intro _ h;cases h
   all_goals simp only[hx,k2,Int.reduceEq,false_imp_iff,or_self,or_false,false_or]
  ·rename_i hlt
   have hl:=h.load (i:=i) (a:=Y4 p.w ((Y7 p c i x.a).1+(Y7 p c i x.b).1)) (by omega)
   have hok:(D2 p c i (Y4 p.w ((Y7 p c i x.a).1+(Y7 p c i x.b).1))).2.2=true:=by
    simp only[ready,k2,Int.reduceEq,or_self,if_false,if_true,Bool.and_eq_true,Bool.or_eq_true,decide_eq_true_eq] at hr
    rcases hr.2 with h | h
    ·exact absurd h hlt
    ·exact h
   have hl2:=hl.2 hok
   show Inv N p { c with buf:=c.buf.set i.toNat _ }
   rw[hki]
   refine h.put he rfl ⟨q1,q2,⟨hl2.1,hik ▸ hl2.2⟩,hl.1,?_,?_,?_,?_,?_,?_⟩
   ·intro _ h;cases h
   all_goals simp only[hx,k2,Int.reduceEq,false_imp_iff,or_self,or_false,false_or]
 have goal9:∀ {to:Int},0<=to->to<=p.ins.length->x.kind≠2->x.kind≠3->(x.kind=9->∃ l,Md.real p c.state.stack c.buf (k:Int)=some l/\l≠[])->Inv N p (BW c i e to).1:=by
  intro to h0 h1 n2 n3 h9
  rw[hik]
  refine h.goes he h0 h1 fun nx n0 n1=>⟨q1,⟨n0,n1⟩,q3,q4,?_,?_,?_,?_,?_,?_⟩
  ·intro h;rw[hx] at h;exact absurd h n2
  ·intro h;rw[hx] at h;exact absurd h n3
  ·intro h;rw[hx] at h;exact absurd h n3
  ·intro h;rw[hx] at h;intro _ _;exact h9 h
  ·intro h;rw[hx] at h;exact q9 h
  ·intro _;rfl
 split
 ·rename_i _ _ _ _ k5
  refine goal9 ?_ ?_ (by omega) (by omega) (by omega)
  ·split
   ·rw[NS (by omega) (by omega)];omega
   ·exact hfa.2.2.2.2.1
  ·split
   ·obtain ⟨a1, a2⟩ := SQ (p := p) (pc := e.pc) (by rw [hx]; omega)
    rw[NS (by omega) (by omega)];omega
   ·exact hfa.2.2.2.2.2.1
 split
 ·rename_i _ _ _ _ _ k7
  exact goal9 (by omega) (by omega) (by omega) (by omega) (by omega)
 split
 ·rename_i _ _ _ _ _ _ k9
  have fl:Inv N p (Md.put c i { e with done:=true,fault:=true }):=by
   show Inv N p { c with buf:=c.buf.set i.toNat _ }
   rw[hki]
   refine h.put he rfl ⟨q1,q2,q3,q4,?_,?_,?_,?_,?_,?_⟩
   ·intro h;rw[hx,k9] at h;simp at h
   ·intro h;rw[hx,k9] at h;simp at h
   ·intro h;rw[hx,k9] at h;simp at h
   ·intro _ _ h;cases h
   ·intro h;rw[hx,k9] at h;simp at h
   ·intro _;rfl
  split
  ·exact fl
  ·rename_i l hl
   split
   ·exact fl
   ·rename_i hne
    have hne':l≠[]:=fun e=>hne (by rw[e];rfl)
    obtain⟨b1,b2⟩:=(h.real hp hl).1 _ (Z53 hne')
    exact goal9 b1 b2 (by omega) (by omega) (fun _=>⟨l,by rw[hik] at hl;exact hl,hne'⟩)
 ·rename_i n1 n4 n3 n2 n5 n7 n9
  have:x.kind=9:=by
   simp only[ready,n1,n4,n3,n2,n5,n7,or_self,if_false,decide_eq_true_eq] at hr
   exact hr
  exact absurd this n9
theorem Z5l (p:Prog)(i addr:Int):∀(l:List Ent) (k:Nat),(Bx p i addr k l).2=true->(k:Int)<=(Bx p i addr k l).1/\(Bx p i addr k l).1<k+l.length
 | [],_,h=>by cases h
 | e::l,k,h=>by
  unfold Bx at h ⊢
  cases hh:M1 p i addr e with
  | true=>simp;omega
  | false=>
   rw[hh] at h
   simp only[cond_false] at h ⊢
   have:=Z5l p i addr l (k+1) h
   simp only[List.length_cons]
   omega
theorem Z5k {l:List Ent}{i addr:Int}(h:(A6 p l i addr).2=true)(h0:0<=i)(h1:i<l.length):i+1<=(A6 p l i addr).1/\(A6 p l i addr).1<l.length:=by
 have:=Z5l p i addr _ _ h
 unfold A6
 rw[List.length_drop] at this
 have e:DF l i=i.toNat+1:=by unfold DF;omega
 rw[e] at this ⊢
 omega
theorem Inv.addr {i:Int}(hp:Fine p)(h:Inv N p c)(hc:YU p c i=true):Inv N p (K4 N p c i).1:=by
 have hc':=hc
 simp only[YU,Bool.and_eq_true,Bool.not_eq_true',decide_eq_true_eq] at hc'
 obtain⟨⟨⟨⟨ho,hkn⟩,k3⟩,ha⟩,hb⟩:=hc'
 obtain⟨hend,k,hik,he⟩:=Gq ho
 have hE:=h.ent k _ he
 have hx:(at_ p (ZT c.buf i).pc).kind=3:=k3
 have hki:i.toNat=k:=by omega
 have had:0<=JR p c i:=Px _ _
 unfold K4
 generalize JR p c i=ad at *
 generalize ZT c.buf i=e at *
 obtain⟨q1,q2,q3,q4,q5,q6,q7,q8,q9,q10⟩:=hE
 unfold R1
 split
 ·show Inv N p { c with buf := c.buf.set i.toNat _ }
  rw[hki]
  refine h.put he rfl ⟨q1,q2,q3,q4,?_,?_,?_,?_,?_,?_⟩
  ·intro h;have h:(at_ p e.pc).kind=_:=h;omega
  ·intro _ h;cases h
  ·intro _ _ h;cases h
  ·intro h;have h:(at_ p e.pc).kind=_:=h;omega
  ·intro h;have h:(at_ p e.pc).kind=_:=h;omega
  ·intro h;exact q10 h
 ·rename_i hlt
  have h1:Inv N p { c with buf:=c.buf.set i.toNat { e with addr:=ad,known:=true,fault:=false } }:=by
   rw[hki]
   refine h.put he rfl ⟨q1,q2,q3,q4,?_,?_,?_,?_,?_,?_⟩
   ·intro h;have h:(at_ p e.pc).kind=_:=h;omega
   ·intro _ h;cases h
   ·intro _ _ _;exact⟨had,Int.not_le.1 hlt⟩
   ·intro h;have h:(at_ p e.pc).kind=_:=h;omega
   ·intro h;have h:(at_ p e.pc).kind=_:=h;omega
   ·intro h;exact q10 h
  show Inv N p (PG p c i ad _)
  generalize hL:c.buf.set i.toNat { e with addr:=ad,known:=true,fault:=false }=L at h1 ⊢
  unfold PG
  cases hz:(A6 p L i ad).2 with
  | false=>exact h1
  | true=>
   simp only[cond_true]
   have hk:=(List.getElem?_eq_some_iff.1 he).1
   have hLl:L.length=c.buf.length:=by rw[<-hL];exact List.length_set
   obtain⟨z1,z2⟩:=Z5k hz (by omega) (by omega)
   generalize (A6 p L i ad).1=z at *
   obtain⟨e2,he2⟩:∃ e,L[z.toNat]? =some e:=⟨_,List.getElem?_eq_getElem (by omega)⟩
   have he3:ZT L z=e2:=by unfold ZT;rw[he2];rfl
   rw[he3]
   have hp2:=(h1.ent z.toNat e2 he2).pc
   exact h1.cut z.toNat hp2.1 hp2.2
theorem Zg6 {l:List Int}{x y:Int}(h:y ∈ push l x):y ∈ l∨y=x:=by
 unfold push at h
 have:=List.mem_of_mem_drop h
 simpa using this
theorem Inv.fetched {g:Int}(hp:Fine p)(h:Inv N p c)(hc:DM p c g=true):Inv N p (EC p c g):=by
 simp only[DM,Bool.and_eq_true,decide_eq_true_eq] at hc
 obtain⟨g0,g1⟩:=hc
 have hg:c.end_=0/\c.state.pc≠ -1/\(c.buf.length:Int)<p.window:=by
  unfold YE at g1
  split at g1
  ·omega
  ·rename_i hh
   simp only[not_or,ne_eq,Decidable.not_not] at hh
   exact⟨hh.1,hh.2.1,by omega⟩
 obtain⟨he0,hpc,hlen⟩:=hg
 have hpc2:=h.pc
 have hn:=hp.n
 have hfa:=hp.at_ c.state.pc
 have key:EntOk N p c.buf.length (Md.real p c.state.stack c.buf (c.buf.length:Int)) (A8 p c g).1/\(A8 p c g).1.pc=c.state.pc/\((A8 p c g).1.next= -1->Tq p (A8 p c g).1)/\(A8 p c g).2.length<=2/\∀ x ∈ (A8 p c g).2,0<=x/\x<=p.ins.length:=by
  have hlt:∀ q:Int,q≠12->(Md.at_ p c.state.pc).kind=q->0<=c.state.pc/\c.state.pc<p.ins.length:=fun q hq hk=>SQ (by rw[hk];exact hq)
  have w1:YC (c.state.pc+1)=c.state.pc+1:=NS (by omega) (by omega)
  unfold A8
  simp only[w1]
  split
  ·rename_i k5
   obtain⟨p0,p1⟩:=hlt 5 (by decide) k5
   refine⟨⟨⟨by show 0<=c.state.pc;omega,by show c.state.pc<=_;omega⟩,?_,⟨Int.le_refl (-1),by show(-1:Int)<_;omega⟩,Int.le_refl _,?_,?_,?_,?_,?_,?_⟩,rfl,?_,h.rsb,h.rv⟩
   ·show -1 <= (if g = 1 then (Md.at_ p c.state.pc).target else c.state.pc + 1) /\ (if g = 1 then (Md.at_ p c.state.pc).target else c.state.pc + 1) <= (p.ins.length : Int)
    split
    ·omega
    ·omega
   all_goals first
    | (intro h;simp only[k5] at h;omega)
    | skip
   all_goals (intro h;have h:(if g=1 then(Md.at_ p c.state.pc).target else c.state.pc+1)= -1:=h;split at h<;>omega)
  split
  ·rename_i _ k6
   obtain⟨p0,p1⟩:=hlt 6 (by decide) k6
   refine⟨⟨⟨by show 0<=c.state.pc;omega,by show c.state.pc<=_;omega⟩,⟨by show -1<=(Md.at_ p c.state.pc).target;omega,by show(Md.at_ p c.state.pc).target<=_;omega⟩,⟨Int.le_refl (-1),by show(-1:Int)<_;omega⟩,Int.le_refl _,?_,?_,?_,?_,?_,fun _=>rfl⟩,rfl,?_,h.rsb,h.rv⟩
   all_goals first
    | (intro h;simp only[k6] at h;omega)
    | skip
   all_goals (intro h;have h:(Md.at_ p c.state.pc).target= -1:=h;omega)
  split
  ·rename_i _ _ k7
   obtain⟨p0,p1⟩:=hlt 7 (by decide) k7
   have hg2:YE p c=p.ins.length+1:=by
    unfold YE
    rw[if_neg (by simp only[not_or];exact⟨by omega,hpc,by omega⟩),if_neg (by omega),if_pos (.inl k7)]
   refine⟨⟨⟨by show 0<=c.state.pc;omega,by show c.state.pc<=_;omega⟩,⟨by show -1<=g;omega,by show g<=_;omega⟩,⟨Int.le_refl (-1),by show(-1:Int)<_;omega⟩,Int.le_refl _,?_,?_,?_,?_,?_,?_⟩,rfl,?_,h.rsb,h.rv⟩
   all_goals first
    | (intro h;simp only[k7] at h;omega)
    | skip
   all_goals (intro h;have h:g= -1:=h;omega)
  split
  ·rename_i _ _ _ k8
   obtain⟨p0,p1⟩:=hlt 8 (by decide) k8
   refine⟨⟨⟨by show 0<=c.state.pc;omega,by show c.state.pc<=_;omega⟩,⟨by show -1<=(Md.at_ p c.state.pc).target;omega,by show(Md.at_ p c.state.pc).target<=_;omega⟩,⟨Int.le_refl (-1),by show(-1:Int)<_;omega⟩,Int.le_refl _,?_,?_,?_,?_,?_,fun _=>rfl⟩,rfl,?_,?_,?_⟩
   ·intro h;simp only[k8] at h;omega
   ·intro h;simp only[k8] at h;omega
   ·intro h;simp only[k8] at h;omega
   ·intro h;simp only[k8] at h;omega
   ·intro _ hf
    have hf:(match Md.real p c.state.stack c.buf c.buf.length with | none=>true | some l=>decide (4<=l.length))=false:=hf
    cases hr:Md.real p c.state.stack c.buf c.buf.length with
    | none=>rw[hr] at hf;cases hf
    | some l=>
     rw[hr] at hf
     exact⟨l,rfl,by simpa using hf⟩
   ·intro h
    have h:(Md.at_ p c.state.pc).target= -1:=h
    omega
   ·show (push c.rsb (c.state.pc + 1)).length <= 2
    unfold push
    rw[List.length_drop,List.length_append,List.length_singleton];omega
   ·intro x hx
    rcases Zg6 hx with hx | rfl
    ·exact h.rv x hx
    ·omega
  split
  ·rename_i _ _ _ _ k9
   obtain⟨p0,p1⟩:=hlt 9 (by decide) k9
   have ok:∀ nx:Int,0<=nx->nx<=p.ins.length->EntOk N p c.buf.length (Md.real p c.state.stack c.buf (c.buf.length:Int)) ⟨c.state.pc,0,0,-1,nx,false,false,false⟩:=by
    intro nx n0 n1
    refine⟨⟨by show 0<=c.state.pc;omega,by show c.state.pc<=_;omega⟩,⟨by show -1<=nx;omega,n1⟩,⟨Int.le_refl (-1),by show(-1:Int)<_;omega⟩,Int.le_refl _,?_,?_,?_,?_,?_,?_⟩
    ·intro h;simp only[k9] at h;omega
    ·intro h;simp only[k9] at h;omega
    ·intro h;simp only[k9] at h;omega
    ·intro _ h;cases h
    ·intro h;simp only[k9] at h;omega
    ·intro h;simp only[k9] at h;omega
   split
   ·rename_i hr0
    have hg2:YE p c=p.ins.length+1:=by
     unfold YE
     rw[if_neg (by simp only[not_or];exact⟨by omega,hpc,by omega⟩),if_neg (by omega),if_pos (.inr ⟨k9,hr0⟩)]
    exact⟨ok g g0 (by omega),rfl,fun h=>by have h:g= -1:=h;omega,h.rsb,h.rv⟩
   ·rename_i hr0
    have hne:c.rsb≠[]:=fun e=>hr0 (by rw[e];rfl)
    obtain⟨b1,b2⟩:=h.rv _ (Z53 hne)
    refine⟨ok _ b1 b2,rfl,fun h=>by have h:GG c.rsb= -1:=h;omega,?_,fun x hx=>h.rv x ((List.dropLast_sublist _).subset hx)⟩
    show c.rsb.dropLast.length<=2
    have:=h.rsb
    rw[List.length_dropLast];omega
  split
  ·rename_i _ _ _ _ _ k11
   refine⟨⟨⟨by show 0<=c.state.pc;omega,by show c.state.pc<=_;omega⟩,⟨by show(-1:Int)<= -1;omega,by show(-1:Int)<=_;omega⟩,⟨Int.le_refl (-1),by show(-1:Int)<_;omega⟩,Int.le_refl _,?_,?_,?_,?_,?_,fun _=>rfl⟩,rfl,fun _=>k11,h.rsb,h.rv⟩
   all_goals (intro h;have h:(Md.at_ p c.state.pc).kind=_:=h;omega)
  ·rename_i n5 n6 n7 n8 n9 n11
   obtain⟨p0,p1⟩:=SQ (p:=p) (pc:=c.state.pc) (by omega)
   refine⟨⟨⟨by show 0<=c.state.pc;omega,by show c.state.pc<=_;omega⟩,⟨by show -1<=c.state.pc+1;omega,by show c.state.pc+1<=_;omega⟩,⟨Int.le_refl (-1),by show(-1:Int)<_;omega⟩,Int.le_refl _,fun _ _=>⟨rfl,rfl⟩,fun _ _=>rfl,?_,?_,?_,?_⟩,rfl,fun h=>by have h:c.state.pc+1= -1:=h;omega,h.rsb,h.rv⟩
   ·intro _ h;cases h
   ·intro _ h;cases h
   ·intro h;have h:(Md.at_ p c.state.pc).kind=_:=h;omega
   ·intro h
    have h:(Md.at_ p c.state.pc).kind=6∨(Md.at_ p c.state.pc).kind=8∨(Md.at_ p c.state.pc).kind=11∨(Md.at_ p c.state.pc).kind=12:=h
    omega
 obtain⟨k1,k2,k3,k4,k5⟩:=key
 refine⟨h.mem,h.mv,h.rg,?_,k4,k5,h.stk,h.sv,k1.nx,?_,?_⟩
 ·show ((c.buf ++ [(A8 p c g).1]).length : Int) <= _
  rw[List.length_append,List.length_singleton];omega
 ·intro _ hn
  exact⟨c.buf,_,rfl,k3 hn⟩
 ·intro k e he
  have he:(c.buf++[(A8 p c g).1])[k]? =some e:=he
  show EntOk N p k (Md.real p c.state.stack (c.buf++[(A8 p c g).1]) k) e
  by_cases hk:k<c.buf.length
  ·rw [Z34 p _ _ _ (by simp; omega)]
   rw[List.getElem?_append_left hk] at he
   exact h.ent k e he
  ·have hk2:k=c.buf.length:=by
    have:=(List.getElem?_eq_some_iff.1 he).1
    rw[List.length_append,List.length_singleton] at this;omega
   subst hk2
   rw[Z34 p _ _ _ (by simp)]
   rw[List.getElem?_append_right (Nat.le_refl _),Nat.sub_self] at he
   simp at he
   subst he
   exact k1
end
end Go.Aug.Md
namespace Go.Aug.Md
open Go Go.Aug
set_option linter.unusedSimpArgs false
set_option linter.unusedVariables false
section
variable {N:Int} {p:Prog} {c:Conf}
theorem Z2e {r:Regs}(h:0<=r.r0/\0<=r.r1/\0<=r.r2/\0<=r.r3)(i:Int){n:Int}(hn:0<=n):0<=(CW r i n).r0/\0<=(CW r i n).r1/\0<=(CW r i n).r2/\0<=(CW r i n).r3:=by
 unfold CW
 split
 ·exact⟨hn,h.2.1,h.2.2.1,h.2.2.2⟩
 split
 ·exact⟨h.1,hn,h.2.2.1,h.2.2.2⟩
 split
 ·exact⟨h.1,h.2.1,hn,h.2.2.2⟩
 split
 ·exact⟨h.1,h.2.1,h.2.2.1,hn⟩
 ·exact h
theorem Z3h (e:Ent):(AK e).pc=e.pc:=by unfold AK;split<;>rfl
theorem Zgv {k:Nat}(hk:k<=1000){r r':Option (List Int)}(hr:r'=r){e:Ent}(h:EntOk N p (k+1) r e):EntOk N p k r' (AK e):=by
 subst hr
 have hf:=h.fr
 unfold AK
 split
 ·rename_i h0
  have hw:YC (e.frm-1)=e.frm-1:=NS (by omega) (by omega)
  refine⟨h.pc,h.nx,?_,h.vl,?_,h.st,h.sk,h.rt,h.cl,h.dn⟩
  ·show -1 <= YC (e.frm - 1) /\ YC (e.frm - 1) < (k : Int)
   rw[hw];omega
  ·intro h1 h2
   have:=(h.ld h1 h2).2
   omega
 ·rename_i h0
  exact⟨h.pc,h.nx,⟨hf.1,by omega⟩,h.vl,h.ld,h.st,h.sk,h.rt,h.cl,h.dn⟩
theorem Zgu {l:List Ent}{k:Nat}{e:Ent}(h:(AJ l)[k]? =some e):∃ e',l[k+1]? =some e'/\e=AK e':=by
 unfold AJ at h
 rw[List.getElem?_map,List.getElem?_drop,Nat.add_comm] at h
 cases hx:l[k+1]? with
 | none=>rw[hx] at h;cases h
 | some e'=>rw[hx] at h;simp at h;exact⟨e',rfl,h.symm⟩
theorem Zgt (l:List Ent):(AJ l).map Ent.pc=(l.map Ent.pc).drop 1:=by
 unfold AJ
 rw[List.map_map,List.map_drop]
 congr 1
 exact List.map_congr_left fun e _=>Z3h e
theorem Zdz (p:Prog)(e:Ent)(l:List Ent)(st:List Int):JC p (e::l) st=if(at_ p e.pc).kind=8 then(if 4<=st.length then none else JC p l (st++[YC (e.pc+1)])) else if(at_ p e.pc).kind=9 then(if st.length=0 then none else JC p l st.dropLast) else JC p l st:=rfl
theorem Zdy (st:List Int)(e:Ent)(l:List Ent)(k:Nat){st':List Int}
  (h8:(at_ p e.pc).kind=8->st.length<4/\st'=st++[YC (e.pc+1)]) (h9:(at_ p e.pc).kind=9->st≠[]/\st'=st.dropLast) (h0:(at_ p e.pc).kind≠8->(at_ p e.pc).kind≠9->st'=st):
  real p st' (AJ (e::l)) (k:Int)=real p st (e::l) ((k+1:Nat):Int):=by
 have e1:real p st (e::l) ((k+1:Nat):Int)=JC p (e::cut l (k:Int)) st:=by
  unfold real cut
  rw[show(((k+1:Nat):Int)).toNat=k+1 by omega,show((k:Int)).toNat=k by omega,List.take_succ_cons]
 have e2:real p st' (AJ (e::l)) (k:Int)=JC p (cut l (k:Int)) st':=by
  unfold real
  exact RD p _ _ _ (by rw[M9,M9,Zgt];rfl)
 rw[e1,e2,Zdz]
 by_cases k8:(at_ p e.pc).kind=8
 ·obtain ⟨a, rfl⟩ := h8 k8
  rw[if_pos k8,if_neg (by omega)]
 ·rw [if_neg k8]
  by_cases k9:(at_ p e.pc).kind=9
  ·obtain ⟨a, rfl⟩ := h9 k9
   rw[if_pos k9,if_neg (fun h=>a (List.length_eq_zero_iff.1 h))]
  ·rw[if_neg k9,h0 k8 k9]
theorem Inv.retired (hp:Fine p)(h:Inv N p c)(hc:YM p c=true):Inv N p (CF p c):=by
 have hc':=hc
 simp only[YM,Bool.and_eq_true,beq_iff_eq,decide_eq_true_eq,Bool.or_eq_true] at hc'
 obtain⟨⟨⟨hend,hlen⟩,hdone⟩,hknown⟩:=hc'
 obtain⟨e,l,hb⟩:∃ e l,c.buf=e::l:=by
  cases hq:c.buf with
  | nil=>exact absurd (by rw[hq];rfl) hlen
  | cons e l=>exact⟨e,l,rfl⟩
 have he0:ZT c.buf 0=e:=by rw[hb];rfl
 have hE:=h.ent 0 e (by rw[hb];rfl)
 have hn:=hp.n
 have hw:=hp.win
 have hbl:=h.buf
 have hreal0:Md.real p c.state.stack c.buf ((0:Nat):Int)=some c.state.stack:=by
  unfold Md.real Md.cut
  rw[show(((0:Nat):Int)).toNat=0 from rfl,List.take_zero];rfl
 rw[he0] at hdone hknown
 unfold CF
 rw[he0]
 simp only
 split
 ·rename_i hgo
  have hnf:e.fault=false/\(at_ p e.pc).kind≠12/\(at_ p e.pc).kind≠11:=by
   unfold D5 at hgo
   cases hf:e.fault with
   | true=>rw[hf] at hgo;simp at hgo
   | false=>
    rw[hf] at hgo
    by_cases k12:(at_ p e.pc).kind=12
    ·simp[k12] at hgo
    ·by_cases k11 : (at_ p e.pc).kind = 11
     ·simp[k11] at hgo
     ·exact⟨rfl,k12,k11⟩
  obtain⟨hf,k12,k11⟩:=hnf
  have dn:(at_ p e.pc).kind≠10->e.done=true:=fun h=>by
   rcases hdone with h1 | h1
   ·exact h1
   ·exact absurd h1 h
  obtain⟨st,hst,hmem,hmv,hrg,hstk,hsv,hpc,h8,h9,h0⟩:∃ st,D7 c.state e (at_ p e.pc)=st/\(st.mem.length:Int)=N/\(∀ x ∈ st.mem,0<=x)/\(0<=st.regs.r0/\0<=st.regs.r1/\0<=st.regs.r2/\0<=st.regs.r3)/\st.stack.length<=4/\(∀ x ∈ st.stack,0<=x/\x<=p.ins.length)/\st.pc=c.state.pc/\
    ((at_ p e.pc).kind=8->c.state.stack.length<4/\st.stack=c.state.stack++[YC (e.pc+1)])/\((at_ p e.pc).kind=9->c.state.stack≠[]/\st.stack=c.state.stack.dropLast)/\((at_ p e.pc).kind≠8->(at_ p e.pc).kind≠9->st.stack=c.state.stack):=by
   refine⟨_,rfl,?_⟩
   have hs4:=h.stk
   unfold D7
   split
   ·rename_i kk
    exact⟨h.mem,h.mv,Z2e h.rg _ hE.vl,h.stk,h.sv,rfl,fun h=>by omega,fun h=>by omega,fun _ _=>rfl⟩
   split
   ·rename_i _ k3
    split
    ·refine ⟨by simpa using h.mem, fun x hx => ?_, h.rg, h.stk, h.sv, rfl, fun h => by omega, fun h => by omega, fun _ _ => rfl⟩
     rcases List.mem_or_eq_of_mem_set hx with hx | rfl
     ·exact h.mv x hx
     ·exact hE.vl
    ·exact⟨h.mem,h.mv,h.rg,h.stk,h.sv,rfl,fun h=>by omega,fun h=>by omega,fun _ _=>rfl⟩
   split
   ·rename_i _ _ k8
    obtain⟨l',hl',hlt⟩:=hE.cl k8 hf
    rw[hreal0] at hl'
    simp at hl';subst hl'
    obtain⟨p0,p1⟩:=SQ (p:=p) (pc:=e.pc) k12
    refine⟨h.mem,h.mv,h.rg,?_,fun x hx=> ?_,rfl,fun _=>⟨hlt,rfl⟩,fun h=>by omega,fun h=>absurd k8 h⟩
    ·show (c.state.stack ++ [YC (e.pc + 1)]).length <= 4
     rw[List.length_append,List.length_singleton];omega
    ·rcases List.mem_append.1 hx with hx | hx
     ·exact h.sv x hx
     ·simp at hx; subst hx
      rw[NS (by omega) (by omega)];omega
   split
   ·rename_i _ _ _ k9
    obtain⟨l',hl',hne⟩:=hE.rt k9 (dn (by omega)) hf
    rw[hreal0] at hl'
    simp at hl';subst hl'
    refine⟨h.mem,h.mv,h.rg,?_,fun x hx=>h.sv x ((List.dropLast_sublist _).subset hx),rfl,fun h=>by omega,fun _=>⟨hne,rfl⟩,fun _ h=>absurd k9 h⟩
    show c.state.stack.dropLast.length<=4
    rw[List.length_dropLast];omega
   ·rename_i _ _ k8 k9
    exact⟨h.mem,h.mv,h.rg,h.stk,h.sv,rfl,fun h=>absurd h k8,fun h=>absurd h k9,fun _ _=>rfl⟩
  rw[hst]
  refine⟨hmem,hmv,hrg,?_,h.rsb,h.rv,hstk,hsv,by show -1<=st.pc/\st.pc<=_;rw[hpc];exact h.pc,?_,?_⟩
  ·show ((AJ c.buf).length : Int) <= _
   unfold AJ
   rw[List.length_map,List.length_drop];omega
  ·intro _ h2
   have h2:st.pc= -1:=h2
   rw[hpc] at h2
   obtain⟨r,x,hr,hs⟩:=h.last hend h2
   rw[hb] at hr
   cases r with
   | nil=>
    simp at hr
    obtain⟨rfl,_⟩:=hr
    rcases hs with hs | hs
    ·exact absurd hs k11
    ·exact absurd hs k12
   | cons y r=>
    simp at hr
    obtain⟨rfl,hr⟩:=hr
    refine⟨r.map AK,AK x,?_,?_⟩
    ·show AJ c.buf = _
     unfold AJ
     rw[hb,hr];simp
    ·unfold Tq at hs ⊢;rw[Z3h];exact hs
  ·intro k x hx
   have hx:(AJ c.buf)[k]? =some x:=hx
   obtain⟨x',h1,rfl⟩:=Zgu hx
   have hk:k+1<c.buf.length:=(List.getElem?_eq_some_iff.1 h1).1
   refine Zgv (by omega) ?_ (h.ent (k+1) x' h1)
   show Md.real p st.stack (AJ c.buf) k=_
   rw[hb]
   exact Zdy c.state.stack e l k h8 h9 h0
 ·rename_i hend2
  refine⟨h.mem,h.mv,h.rg,?_,by simp,(fun x hx=>by cases hx),h.stk,h.sv,⟨by show -1<=e.pc;have:=hE.pc;omega,hE.pc.2⟩,fun h1=>absurd h1 hend2,fun k x hx=>by simp at hx⟩
  show((0:Nat):Int)<=_
  omega
theorem Inv.said (hp:Fine p)(h:Inv N p c)(d:Dir)(hc:Jx N p c d=true):Inv N p (say N p c d).1:=by
 unfold Jx at hc
 unfold say
 split at hc
 ·rename_i h1;rw[if_pos h1];exact h.fetched hp hc
 ·rename_i h1; rw [if_neg h1]
  split at hc
  ·rename_i h2;rw[if_pos h2];exact h.done hp hc
  ·rename_i h2; rw [if_neg h2]
   split at hc
   ·rename_i h3;rw[if_pos h3];exact h.addr hp hc
   ·rename_i h3; rw [if_neg h3]
    simp only[Bool.and_eq_true] at hc
    exact h.retired hp hc.2
theorem X9 (d:Dir):d ∈ all N p c↔Jx N p c d=true:=by
 unfold all Jx
 simp only[List.mem_append,List.mem_map,List.mem_range,List.mem_filter]
 constructor
 ·rintro (((⟨n, h, rfl⟩ | ⟨n, ⟨_, h⟩, rfl⟩) | ⟨n, ⟨_, h⟩, rfl⟩) | h)
  ·rw [if_pos rfl]
   simp[DM];omega
  ·rw[if_neg (by simp),if_pos rfl];exact h
  ·rw[if_neg (by simp),if_neg (by simp),if_pos rfl];exact h
  ·cases hr : YM p c with
   | false=>rw[hr] at h;cases h
   | true=>
    rw[hr] at h
    simp at h
    subst h
    simp
 ·intro h
  split at h
  ·rename_i h1
   simp only[DM,Bool.and_eq_true,decide_eq_true_eq] at h
   refine .inl (.inl (.inl ⟨d.n.toNat,by omega,?_⟩))
   cases d with
   | mk k n=>
    simp at h1 h ⊢
    exact⟨h1.symm,by omega⟩
  split at h
  ·rename_i _ h2
   have ho:QX p c d.n=true:=by
    have h:=h
    simp only[can,Bool.and_eq_true] at h;exact h.1.1
   obtain⟨_,k,hk,hg⟩:=Gq ho
   refine .inl (.inl (.inr ⟨k,⟨(List.getElem?_eq_some_iff.1 hg).1,by rw[<-hk];exact h⟩,?_⟩))
   cases d with
   | mk kd n=>
    simp at h2 hk ⊢
    exact⟨h2.symm,hk.symm⟩
  split at h
  ·rename_i _ _ h3
   have ho:QX p c d.n=true:=by
    have h:=h
    simp only[YU,Bool.and_eq_true] at h;exact h.1.1.1.1
   obtain⟨_,k,hk,hg⟩:=Gq ho
   refine .inl (.inr ⟨k,⟨(List.getElem?_eq_some_iff.1 hg).1,by rw[<-hk];exact h⟩,?_⟩)
   cases d with
   | mk kd n=>
    simp at h3 hk ⊢
    exact⟨h3.symm,hk.symm⟩
  ·simp only [Bool.and_eq_true, decide_eq_true_eq] at h
   refine .inr ?_
   rw[h.2]
   cases d with
   | mk kd n=>
    simp at h ⊢
    exact h.1
end
def S4 (x:Int)(n:Nat):Nat:=(YK x 65535).toNat%n
theorem Zjn (x:Int)(n:Nat):(YK x 65535).tmod (n:Int)=(S4 x n:Nat):=by
 obtain⟨r,_,h⟩:=UJ x 16 (by decide)
 have h:YK x 65535=r:=h
 rw[S4,h,Int.toNat_natCast,<-Int.ofNat_tmod]
theorem Z5a (x:Int){n:Nat}(h:0<n):S4 x n<n:=Nat.mod_lt _ h
def pick (x:Int)(d:List Dir):Dir:=(d[S4 x d.length]?).getD ⟨0,0⟩
theorem Zgz (x:Int){d:List Dir}(h:d≠[]):pick x d ∈ d:=by
 have hl:0<d.length:=List.length_pos_iff.2 h
 have:=Z5a x hl
 unfold pick
 rw[List.getElem?_eq_getElem this]
 exact List.getElem_mem this
def VN (N:Int)(p:Prog):List Int->Conf->Conf
 | [],c=>c
 | x::l,c=>if all N p c=[] then c else VN N p l (say N p c (pick x (all N p c))).1
def K2 (s:State):Conf:=⟨s,[],[],0⟩
theorem Inv.walk {N:Int}{p:Prog}(hp:Fine p):∀(l:List Int) {c:Conf},Inv N p c->Inv N p (VN N p l c)
 | [],_,h=>h
 | x::l,c,h=>by
  unfold VN
  split
  ·exact h
  ·rename_i hne
   exact Inv.walk hp l (h.said hp _ ((X9 _).1 (Zgz x hne)))
theorem Inv.begin {N:Int}{p:Prog}(hp:Fine p){s:State}(h1:(s.mem.length:Int)=N)(h2:∀ x ∈ s.mem,0<=x)(h3:0<=s.regs.r0/\0<=s.regs.r1/\0<=s.regs.r2/\0<=s.regs.r3)(h4:s.stack=[])(h5:s.pc=0):Inv N p (K2 s):=by
 have hw:=hp.win
 refine⟨h1,h2,h3,?_,by simp[K2],(fun x hx=>by cases hx),(by rw[K2,h4];simp),fun x hx=> ?_,?_,fun _ h=> ?_,fun k e h=>by simp[K2] at h⟩
 ·show((0:Nat):Int)<=_;omega
 ·have hx : x ∈ s.stack := hx
  rw[h4] at hx;cases hx
 ·show -1 <= s.pc /\ s.pc <= _
  rw[h5];omega
 ·have h : s.pc = -1 := h
  rw[h5] at h;cases h
end Go.Aug.Md
namespace Go.Aug.Md
open Go Go.Aug
def Z2s (N:Int)(p:Prog):List Dir->Conf->Conf
 | [],c=>c
 | d::l,c=>Z2s N p l (say N p c d).1
def Z92 (N:Int)(p:Prog):List Dir->Conf->Prop
 | [],_=>True
 | d::l,c=>Jx N p c d=true/\Z92 N p l (say N p c d).1
end Go.Aug.Md
namespace Go.Aug.Mc
open Go Go.Aug
set_option linter.unusedSimpArgs false
set_option linter.unusedVariables false
set_option maxHeartbeats 40000000
set_option maxRecDepth 200000
theorem Nj {N:Int}{p:Prog}{c:Conf}(hp:Md.Fine p)(h:Md.Inv N p c)(hN:N<=1000)(d:Dir):
  p.ins.length<1073741824/\c.buf.length<1000000/\c.state.mem.length<1000000/\c.state.stack.length<1000000/\c.rsb.length<1000000/\
  (GQ (Md.real p c.state.stack c.buf d.n)).length<1073741824/\(Md.can N p c d.n=true->(Md.Qk p c d.n).kind=2->(Md.ZT c.buf d.n).val=0/\(Md.ZT c.buf d.n).frm= -1)/\
  (Md.YU p c d.n=true->(Md.ZT c.buf d.n).fault=false)/\(0<=(Md.at_ p (Md.ZT c.buf 0).pc).d/\(Md.at_ p (Md.ZT c.buf 0).pc).d<=3)/\
  (Md.YM p c=true->(Md.at_ p (Md.ZT c.buf 0).pc).kind=3->(Md.ZT c.buf 0).fault=false->0<=(Md.ZT c.buf 0).addr/\(Md.ZT c.buf 0).addr<c.state.mem.length)/\
  (Md.YM p c=true->(Md.at_ p (Md.ZT c.buf 0).pc).kind=9->(Md.ZT c.buf 0).fault=false->c.state.stack≠[]):=by
 have hb:=h.buf
 have hw:=hp.win
 have hn:=hp.n
 have hm:=h.mem
 have hfa:=hp.at_ (Md.ZT c.buf 0).pc
 refine⟨by omega,by omega,by omega,by have:=h.stk;omega,by have:=h.rsb;omega,?_,fun hc k2=> ?_,fun hc=> ?_,⟨hfa.2.2.1,hfa.2.2.2.1⟩,fun hc k3 hf=> ?_,fun hc k9 hf=> ?_⟩
 ·cases hr : Md.real p c.state.stack c.buf d.n with
  | none=>exact(by decide:(0:Nat)<1073741824)
  | some l=>have:=(h.real hp hr).2;show l.length<_;omega
 ·have hc' := hc
  simp only[Md.can,Bool.and_eq_true,Bool.not_eq_true'] at hc'
  obtain⟨_,k,hk,he⟩:=Md.Gq hc'.1.1
  exact(h.ent k _ he).ld k2 hc'.1.2
 ·have hc' := hc
  simp only[Md.YU,Bool.and_eq_true,Bool.not_eq_true',decide_eq_true_eq] at hc'
  obtain⟨_,k,hk,he⟩:=Md.Gq hc'.1.1.1.1
  exact(h.ent k _ he).st hc'.1.1.2 hc'.1.1.1.2
 ·obtain ⟨e, he, he0, _⟩ := Ww hc
  rw[he0] at k3 hf ⊢
  simp only[Md.YM,Bool.and_eq_true,Bool.or_eq_true,decide_eq_true_eq,he0] at hc
  have hk:e.known=true:=by
   rcases hc.2 with h | h
   ·exact absurd k3 h
   ·exact h
  have:=(h.ent 0 e he).sk k3 hk hf
  omega
 ·obtain ⟨e, he, he0, _⟩ := Ww hc
  rw[he0] at k9 hf
  simp only[Md.YM,Bool.and_eq_true,Bool.or_eq_true,decide_eq_true_eq,he0] at hc
  have hd:e.done=true:=by
   rcases hc.1.2 with h | h
   ·exact h
   ·omega
  obtain⟨l,hl,hne⟩:=(h.ent 0 e he).rt k9 hd hf
  have:Md.real p c.state.stack c.buf ((0:Nat):Int)=some c.state.stack:=by
   unfold Md.real Md.cut
   rw[show(((0:Nat):Int)).toNat=0 from rfl,List.take_zero];rfl
  rw[this] at hl
  simp at hl;subst hl;exact hne
structure WInv (N:Int) (p:Prog) (c0 c:Conf) (o:List Dir):Prop where
 inv:Md.Inv N p c
 can:Md.Z92 N p o c0
 run:Md.Z2s N p o c0=c
 len:o.length<=60
variable {E:Env} {fn:FuncId->Option (Env->cT->cT)}
section
variable (S:Sur E fn)
include S
end
end Go.Aug.Mc
