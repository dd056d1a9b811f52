import Derived.Test.YtmfdoekbjkgckaaGreatMl
namespace Go.Aug.Md
open Go Go.Aug
set_option linter.unusedSimpArgs false
set_option linter.unusedVariables false
section
variable {N:Int} {p:Prog} {c:Conf}
theorem N8 {i:Int}(h:Bv p c i=true):c.end_=0/\∃ k:Nat,i=k/\c.buf[k]? =some (ZA c.buf i):=by
 simp only[Bv,Bool.and_eq_true,beq_iff_eq,decide_eq_true_eq] at h
 obtain⟨⟨⟨h1,h2⟩,h3⟩,_⟩:=h
 refine⟨h1,i.toNat,by omega,?_⟩
 unfold ZA
 obtain⟨e,he⟩:∃ e,c.buf[i.toNat]? =some e:=⟨_,List.getElem?_eq_getElem (by omega)⟩
 rw[he];rfl
theorem Inv.done {i:Int}(hp:Fine p)(h:Inv N p c)(hc:can N p c i=true):Inv N p (JZ N p c i).1:=by
 have hc':=hc
 simp only[can,Bool.and_eq_true,Bool.not_eq_true'] at hc'
 obtain⟨⟨ho,hd⟩,hr⟩:=hc'
 obtain⟨hend,k,hik,he⟩:=N8 ho
 have hE:=h.ent k _ he
 have hx:at_ p (ZA c.buf i).pc=QA p c i:=rfl
 have ha:=h.val i (QA p c i).a
 have hb:=h.val i (QA p c i).b
 have hD:=h.reg i (QA p c i).d
 have hfa:=hp.at_ (ZA c.buf i).pc
 rw[hx] at hfa
 have hn:=hp.n
 unfold JZ
 generalize QA p c i=x at *
 generalize ZA c.buf i=e at *
 unfold doK
 have hki:i.toNat=k:=by omega
 have e0:=hE
 obtain⟨q1,q2,q3,q4,q5,q6,q7,q8,q9,q10⟩:=hE
 rw[hx] at q5 q6 q7 q8 q9 q10
 split
 ·rename_i k1
  show Inv N p { c with buf:=c.buf.set i.toNat _ }
  rw[hki]
  refine h.put he rfl ⟨q1,q2,q3,Z94 _ _ _ _,?_,?_,?_,?_,?_,?_⟩<;>simp only[hx,k1,Int.reduceEq,false_imp_iff,or_self,or_false,false_or]
 split
 ·rename_i _ k4
  show Inv N p { c with buf:=c.buf.set i.toNat _ }
  rw[hki]
  refine h.put he rfl ⟨q1,q2,q3,?_,?_,?_,?_,?_,?_,?_⟩
  ·show 0 <= (if _ then _ else _ : Int)
   split
   ·exact hD
   ·exact hb
  all_goals simp only[hx,k4,Int.reduceEq,false_imp_iff,or_self,or_false,false_or]
 split
 ·rename_i _ _ k3
  show Inv N p { c with buf:=c.buf.set i.toNat _ }
  rw[hki]
  refine h.put he rfl ⟨q1,q2,q3,hD,?_,fun _=>q6 k3,fun _=>q7 k3,?_,?_,?_⟩<;>simp only[hx,k3,Int.reduceEq,false_imp_iff,or_self,or_false,false_or]
 split
 ·rename_i _ _ _ k2
  split
  ·show Inv N p { c with buf := c.buf.set i.toNat _ }
   rw[hki]
   refine h.put he rfl ⟨q1,q2,⟨Int.le_refl (-1),by show(-1:Int)<k;omega⟩,Int.le_refl _,?_,?_,?_,?_,?_,?_⟩
   ·intro _ h;cases h
   all_goals simp only[hx,k2,Int.reduceEq,false_imp_iff,or_self,or_false,false_or]
  ·rename_i hlt
   have hl:=h.load (i:=i) (a:=ZR p.w ((YS p c i x.a).1+(YS p c i x.b).1)) (by omega)
   have hok:(EX p c i (ZR p.w ((YS p c i x.a).1+(YS p c i x.b).1))).2.2=true:=by
    simp only[ready,k2,Int.reduceEq,or_self,if_false,if_true,Bool.and_eq_true,Bool.or_eq_true,decide_eq_true_eq] at hr
    rcases hr.2 with h | h
    ·exact absurd h hlt
    ·exact h
   have hl2:=hl.2 hok
   show Inv N p { c with buf:=c.buf.set i.toNat _ }
   rw[hki]
   refine h.put he rfl ⟨q1,q2,⟨hl2.1,hik ▸ hl2.2⟩,hl.1,?_,?_,?_,?_,?_,?_⟩
   ·intro _ h;cases h
   all_goals simp only[hx,k2,Int.reduceEq,false_imp_iff,or_self,or_false,false_or]
 have goal9:∀ {to:Int},0<=to->to<=p.ins.length->x.kind≠2->x.kind≠3->(x.kind=9->∃ l,Md.real p c.state.stack c.buf (k:Int)=some l/\l≠[])->Inv N p (BC c i e to).1:=by
  intro to h0 h1 n2 n3 h9
  rw[hik]
  refine h.goes he h0 h1 fun nx n0 n1=>⟨q1,⟨n0,n1⟩,q3,q4,?_,?_,?_,?_,?_,?_⟩
  ·intro h;rw[hx] at h;exact absurd h n2
  ·intro h;rw[hx] at h;exact absurd h n3
  ·intro h;rw[hx] at h;exact absurd h n3
  ·intro h;rw[hx] at h;intro _ _;exact h9 h
  ·intro h;rw[hx] at h;exact q9 h
  ·intro _;rfl
 split
 ·rename_i _ _ _ _ k5
  refine goal9 ?_ ?_ (by omega) (by omega) (by omega)
  ·split
   ·rw[MW (by omega) (by omega)];omega
   ·exact hfa.2.2.2.2.1
  ·split
   ·obtain ⟨a1, a2⟩ := RH (p := p) (pc := e.pc) (by rw [hx]; omega)
    rw[MW (by omega) (by omega)];omega
   ·exact hfa.2.2.2.2.2.1
 split
 ·rename_i _ _ _ _ _ k7
  exact goal9 (by omega) (by omega) (by omega) (by omega) (by omega)
 split
 ·rename_i _ _ _ _ _ _ k9
  have fl:Inv N p (Md.put c i { e with done:=true,fault:=true }):=by
   show Inv N p { c with buf:=c.buf.set i.toNat _ }
   rw[hki]
   refine h.put he rfl ⟨q1,q2,q3,q4,?_,?_,?_,?_,?_,?_⟩
   ·intro h;rw[hx,k9] at h;simp at h
   ·intro h;rw[hx,k9] at h;simp at h
   ·intro h;rw[hx,k9] at h;simp at h
   ·intro _ _ h;cases h
   ·intro h;rw[hx,k9] at h;simp at h
   ·intro _;rfl
  split
  ·exact fl
  ·rename_i l hl
   split
   ·exact fl
   ·rename_i hne
    have hne':l≠[]:=fun e=>hne (by rw[e];rfl)
    obtain⟨b1,b2⟩:=(h.real hp hl).1 _ (Z37 hne')
    exact goal9 b1 b2 (by omega) (by omega) (fun _=>⟨l,by rw[hik] at hl;exact hl,hne'⟩)
 ·rename_i n1 n4 n3 n2 n5 n7 n9
  have:x.kind=9:=by
   simp only[ready,n1,n4,n3,n2,n5,n7,or_self,if_false,decide_eq_true_eq] at hr
   exact hr
  exact absurd this n9
theorem Z3p (p:Prog)(i addr:Int):∀(l:List Ent) (k:Nat),(AP p i addr k l).2=true->(k:Int)<=(AP p i addr k l).1/\(AP p i addr k l).1<k+l.length
 | [],_,h=>by cases h
 | e::l,k,h=>by
  unfold AP at h ⊢
  cases hh:K4 p i addr e with
  | true=>simp;omega
  | false=>
   rw[hh] at h
   simp only[cond_false] at h ⊢
   have:=Z3p p i addr l (k+1) h
   simp only[List.length_cons]
   omega
theorem Zfq {l:List Ent}{i addr:Int}(h:(JH p l i addr).2=true)(h0:0<=i)(h1:i<l.length):i+1<=(JH p l i addr).1/\(JH p l i addr).1<l.length:=by
 have:=Z3p p i addr _ _ h
 unfold JH
 rw[List.length_drop] at this
 have e:D6 l i=i.toNat+1:=by unfold D6;omega
 rw[e] at this ⊢
 omega
theorem Inv.addr {i:Int}(hp:Fine p)(h:Inv N p c)(hc:QX p c i=true):Inv N p (addrM N p c i).1:=by
 have hc':=hc
 simp only[QX,Bool.and_eq_true,Bool.not_eq_true',decide_eq_true_eq] at hc'
 obtain⟨⟨⟨⟨ho,hkn⟩,k3⟩,ha⟩,hb⟩:=hc'
 obtain⟨hend,k,hik,he⟩:=N8 ho
 have hE:=h.ent k _ he
 have hx:(at_ p (ZA c.buf i).pc).kind=3:=k3
 have hki:i.toNat=k:=by omega
 have had:0<=QP p c i:=EW _ _
 unfold addrM
 generalize QP p c i=ad at *
 generalize ZA c.buf i=e at *
 obtain⟨q1,q2,q3,q4,q5,q6,q7,q8,q9,q10⟩:=hE
 unfold NZ
 split
 ·show Inv N p { c with buf := c.buf.set i.toNat _ }
  rw[hki]
  refine h.put he rfl ⟨q1,q2,q3,q4,?_,?_,?_,?_,?_,?_⟩
  ·intro h;have h:(at_ p e.pc).kind=_:=h;omega
  ·intro _ h;cases h
  ·intro _ _ h;cases h
  ·intro h;have h:(at_ p e.pc).kind=_:=h;omega
  ·intro h;have h:(at_ p e.pc).kind=_:=h;omega
  ·intro h;exact q10 h
 ·rename_i hlt
  have h1:Inv N p { c with buf:=c.buf.set i.toNat { e with addr:=ad,known:=true,fault:=false } }:=by
   rw[hki]
   refine h.put he rfl ⟨q1,q2,q3,q4,?_,?_,?_,?_,?_,?_⟩
   ·intro h;have h:(at_ p e.pc).kind=_:=h;omega
   ·intro _ h;cases h
   ·intro _ _ _;exact⟨had,Int.not_le.1 hlt⟩
   ·intro h;have h:(at_ p e.pc).kind=_:=h;omega
   ·intro h;have h:(at_ p e.pc).kind=_:=h;omega
   ·intro h;exact q10 h
  show Inv N p (MB p c i ad _)
  generalize hL:c.buf.set i.toNat { e with addr:=ad,known:=true,fault:=false }=L at h1 ⊢
  unfold MB
  cases hz:(JH p L i ad).2 with
  | false=>exact h1
  | true=>
   simp only[cond_true]
   have hk:=(List.getElem?_eq_some_iff.1 he).1
   have hLl:L.length=c.buf.length:=by rw[<-hL];exact List.length_set
   obtain⟨z1,z2⟩:=Zfq hz (by omega) (by omega)
   generalize (JH p L i ad).1=z at *
   obtain⟨e2,he2⟩:∃ e,L[z.toNat]? =some e:=⟨_,List.getElem?_eq_getElem (by omega)⟩
   have he3:ZA L z=e2:=by unfold ZA;rw[he2];rfl
   rw[he3]
   have hp2:=(h1.ent z.toNat e2 he2).pc
   exact h1.cut z.toNat hp2.1 hp2.2
theorem Zc5 {l:List Int}{x y:Int}(h:y ∈ push l x):y ∈ l∨y=x:=by
 unfold push at h
 have:=List.mem_of_mem_drop h
 simpa using this
theorem Inv.fetched {g:Int}(hp:Fine p)(h:Inv N p c)(hc:Ew p c g=true):Inv N p (fetch p c g):=by
 simp only[Ew,Bool.and_eq_true,decide_eq_true_eq] at hc
 obtain⟨g0,g1⟩:=hc
 have hg:c.end_=0/\c.state.pc≠ -1/\(c.buf.length:Int)<p.window:=by
  unfold J7 at g1
  split at g1
  ·omega
  ·rename_i hh
   simp only[not_or,ne_eq,Decidable.not_not] at hh
   exact⟨hh.1,hh.2.1,by omega⟩
 obtain⟨he0,hpc,hlen⟩:=hg
 have hpc2:=h.pc
 have hn:=hp.n
 have hfa:=hp.at_ c.state.pc
 have key:EntOk N p c.buf.length (Md.real p c.state.stack c.buf (c.buf.length:Int)) (J8 p c g).1/\(J8 p c g).1.pc=c.state.pc/\((J8 p c g).1.next= -1->S6 p (J8 p c g).1)/\(J8 p c g).2.length<=2/\∀ x ∈ (J8 p c g).2,0<=x/\x<=p.ins.length:=by
  have hlt:∀ q:Int,q≠12->(Md.at_ p c.state.pc).kind=q->0<=c.state.pc/\c.state.pc<p.ins.length:=fun q hq hk=>RH (by rw[hk];exact hq)
  have w1:Y1 (c.state.pc+1)=c.state.pc+1:=MW (by omega) (by omega)
  unfold J8
  simp only[w1]
  split
  ·rename_i k5
   obtain⟨p0,p1⟩:=hlt 5 (by decide) k5
   refine⟨⟨⟨by show 0<=c.state.pc;omega,by show c.state.pc<=_;omega⟩,?_,⟨Int.le_refl (-1),by show(-1:Int)<_;omega⟩,Int.le_refl _,?_,?_,?_,?_,?_,?_⟩,rfl,?_,h.rsb,h.rv⟩
   ·show -1 <= (if g = 1 then (Md.at_ p c.state.pc).target else c.state.pc + 1) /\ (if g = 1 then (Md.at_ p c.state.pc).target else c.state.pc + 1) <= (p.ins.length : Int)
    split
    ·omega
    ·omega
   all_goals first
    | (intro h;simp only[k5] at h;omega)
    | skip
   all_goals (intro h;have h:(if g=1 then(Md.at_ p c.state.pc).target else c.state.pc+1)= -1:=h;split at h<;>omega)
  split
  ·rename_i _ k6
   obtain⟨p0,p1⟩:=hlt 6 (by decide) k6
   refine⟨⟨⟨by show 0<=c.state.pc;omega,by show c.state.pc<=_;omega⟩,⟨by show -1<=(Md.at_ p c.state.pc).target;omega,by show(Md.at_ p c.state.pc).target<=_;omega⟩,⟨Int.le_refl (-1),by show(-1:Int)<_;omega⟩,Int.le_refl _,?_,?_,?_,?_,?_,fun _=>rfl⟩,rfl,?_,h.rsb,h.rv⟩
   all_goals first
    | (intro h;simp only[k6] at h;omega)
    | skip
   all_goals (intro h;have h:(Md.at_ p c.state.pc).target= -1:=h;omega)
  split
  ·rename_i _ _ k7
   obtain⟨p0,p1⟩:=hlt 7 (by decide) k7
   have hg2:J7 p c=p.ins.length+1:=by
    unfold J7
    rw[if_neg (by simp only[not_or];exact⟨by omega,hpc,by omega⟩),if_neg (by omega),if_pos (.inl k7)]
   refine⟨⟨⟨by show 0<=c.state.pc;omega,by show c.state.pc<=_;omega⟩,⟨by show -1<=g;omega,by show g<=_;omega⟩,⟨Int.le_refl (-1),by show(-1:Int)<_;omega⟩,Int.le_refl _,?_,?_,?_,?_,?_,?_⟩,rfl,?_,h.rsb,h.rv⟩
   all_goals first
    | (intro h;simp only[k7] at h;omega)
    | skip
   all_goals (intro h;have h:g= -1:=h;omega)
  split
  ·rename_i _ _ _ k8
   obtain⟨p0,p1⟩:=hlt 8 (by decide) k8
   refine⟨⟨⟨by show 0<=c.state.pc;omega,by show c.state.pc<=_;omega⟩,⟨by show -1<=(Md.at_ p c.state.pc).target;omega,by show(Md.at_ p c.state.pc).target<=_;omega⟩,⟨Int.le_refl (-1),by show(-1:Int)<_;omega⟩,Int.le_refl _,?_,?_,?_,?_,?_,fun _=>rfl⟩,rfl,?_,?_,?_⟩
   ·intro h;simp only[k8] at h;omega
   ·intro h;simp only[k8] at h;omega
   ·intro h;simp only[k8] at h;omega
   ·intro h;simp only[k8] at h;omega
   ·intro _ hf
    have hf:(match Md.real p c.state.stack c.buf c.buf.length with | none=>true | some l=>decide (4<=l.length))=false:=hf
    cases hr:Md.real p c.state.stack c.buf c.buf.length with
    | none=>rw[hr] at hf;cases hf
    | some l=>
     rw[hr] at hf
     exact⟨l,rfl,by simpa using hf⟩
   ·intro h
    have h:(Md.at_ p c.state.pc).target= -1:=h
    omega
   ·show (push c.rsb (c.state.pc + 1)).length <= 2
    unfold push
    rw[List.length_drop,List.length_append,List.length_singleton];omega
   ·intro x hx
    rcases Zc5 hx with hx | rfl
    ·exact h.rv x hx
    ·omega
  split
  ·rename_i _ _ _ _ k9
   obtain⟨p0,p1⟩:=hlt 9 (by decide) k9
   have ok:∀ nx:Int,0<=nx->nx<=p.ins.length->EntOk N p c.buf.length (Md.real p c.state.stack c.buf (c.buf.length:Int)) ⟨c.state.pc,0,0,-1,nx,false,false,false⟩:=by
    intro nx n0 n1
    refine⟨⟨by show 0<=c.state.pc;omega,by show c.state.pc<=_;omega⟩,⟨by show -1<=nx;omega,n1⟩,⟨Int.le_refl (-1),by show(-1:Int)<_;omega⟩,Int.le_refl _,?_,?_,?_,?_,?_,?_⟩
    ·intro h;simp only[k9] at h;omega
    ·intro h;simp only[k9] at h;omega
    ·intro h;simp only[k9] at h;omega
    ·intro _ h;cases h
    ·intro h;simp only[k9] at h;omega
    ·intro h;simp only[k9] at h;omega
   split
   ·rename_i hr0
    have hg2:J7 p c=p.ins.length+1:=by
     unfold J7
     rw[if_neg (by simp only[not_or];exact⟨by omega,hpc,by omega⟩),if_neg (by omega),if_pos (.inr ⟨k9,hr0⟩)]
    exact⟨ok g g0 (by omega),rfl,fun h=>by have h:g= -1:=h;omega,h.rsb,h.rv⟩
   ·rename_i hr0
    have hne:c.rsb≠[]:=fun e=>hr0 (by rw[e];rfl)
    obtain⟨b1,b2⟩:=h.rv _ (Z37 hne)
    refine⟨ok _ b1 b2,rfl,fun h=>by have h:G1 c.rsb= -1:=h;omega,?_,fun x hx=>h.rv x ((List.dropLast_sublist _).subset hx)⟩
    show c.rsb.dropLast.length<=2
    have:=h.rsb
    rw[List.length_dropLast];omega
  split
  ·rename_i _ _ _ _ _ k11
   refine⟨⟨⟨by show 0<=c.state.pc;omega,by show c.state.pc<=_;omega⟩,⟨by show(-1:Int)<= -1;omega,by show(-1:Int)<=_;omega⟩,⟨Int.le_refl (-1),by show(-1:Int)<_;omega⟩,Int.le_refl _,?_,?_,?_,?_,?_,fun _=>rfl⟩,rfl,fun _=>k11,h.rsb,h.rv⟩
   all_goals (intro h;have h:(Md.at_ p c.state.pc).kind=_:=h;omega)
  ·rename_i n5 n6 n7 n8 n9 n11
   obtain⟨p0,p1⟩:=RH (p:=p) (pc:=c.state.pc) (by omega)
   refine⟨⟨⟨by show 0<=c.state.pc;omega,by show c.state.pc<=_;omega⟩,⟨by show -1<=c.state.pc+1;omega,by show c.state.pc+1<=_;omega⟩,⟨Int.le_refl (-1),by show(-1:Int)<_;omega⟩,Int.le_refl _,fun _ _=>⟨rfl,rfl⟩,fun _ _=>rfl,?_,?_,?_,?_⟩,rfl,fun h=>by have h:c.state.pc+1= -1:=h;omega,h.rsb,h.rv⟩
   ·intro _ h;cases h
   ·intro _ h;cases h
   ·intro h;have h:(Md.at_ p c.state.pc).kind=_:=h;omega
   ·intro h
    have h:(Md.at_ p c.state.pc).kind=6∨(Md.at_ p c.state.pc).kind=8∨(Md.at_ p c.state.pc).kind=11∨(Md.at_ p c.state.pc).kind=12:=h
    omega
 obtain⟨k1,k2,k3,k4,k5⟩:=key
 refine⟨h.mem,h.mv,h.rg,?_,k4,k5,h.stk,h.sv,k1.nx,?_,?_⟩
 ·show ((c.buf ++ [(J8 p c g).1]).length : Int) <= _
  rw[List.length_append,List.length_singleton];omega
 ·intro _ hn
  exact⟨c.buf,_,rfl,k3 hn⟩
 ·intro k e he
  have he:(c.buf++[(J8 p c g).1])[k]? =some e:=he
  show EntOk N p k (Md.real p c.state.stack (c.buf++[(J8 p c g).1]) k) e
  by_cases hk:k<c.buf.length
  ·rw [Z1c p _ _ _ (by simp; omega)]
   rw[List.getElem?_append_left hk] at he
   exact h.ent k e he
  ·have hk2:k=c.buf.length:=by
    have:=(List.getElem?_eq_some_iff.1 he).1
    rw[List.length_append,List.length_singleton] at this;omega
   subst hk2
   rw[Z1c p _ _ _ (by simp)]
   rw[List.getElem?_append_right (Nat.le_refl _),Nat.sub_self] at he
   simp at he
   subst he
   exact k1
end
end Go.Aug.Md
namespace Go.Aug.Md
open Go Go.Aug
set_option linter.unusedSimpArgs false
set_option linter.unusedVariables false
section
variable {N:Int} {p:Prog} {c:Conf}
theorem Z0i {r:Regs}(h:0<=r.r0/\0<=r.r1/\0<=r.r2/\0<=r.r3)(i:Int){n:Int}(hn:0<=n):0<=(AD r i n).r0/\0<=(AD r i n).r1/\0<=(AD r i n).r2/\0<=(AD r i n).r3:=by
 unfold AD
 split
 ·exact⟨hn,h.2.1,h.2.2.1,h.2.2.2⟩
 split
 ·exact⟨h.1,hn,h.2.2.1,h.2.2.2⟩
 split
 ·exact⟨h.1,h.2.1,hn,h.2.2.2⟩
 split
 ·exact⟨h.1,h.2.1,h.2.2.1,hn⟩
 ·exact h
theorem Z1s (e:Ent):(Jv e).pc=e.pc:=by unfold Jv;split<;>rfl
theorem Zcv {k:Nat}(hk:k<=1000){r r':Option (List Int)}(hr:r'=r){e:Ent}(h:EntOk N p (k+1) r e):EntOk N p k r' (Jv e):=by
 subst hr
 have hf:=h.fr
 unfold Jv
 split
 ·rename_i h0
  have hw:Y1 (e.frm-1)=e.frm-1:=MW (by omega) (by omega)
  refine⟨h.pc,h.nx,?_,h.vl,?_,h.st,h.sk,h.rt,h.cl,h.dn⟩
  ·show -1 <= Y1 (e.frm - 1) /\ Y1 (e.frm - 1) < (k : Int)
   rw[hw];omega
  ·intro h1 h2
   have:=(h.ld h1 h2).2
   omega
 ·rename_i h0
  exact⟨h.pc,h.nx,⟨hf.1,by omega⟩,h.vl,h.ld,h.st,h.sk,h.rt,h.cl,h.dn⟩
theorem Zcu {l:List Ent}{k:Nat}{e:Ent}(h:(JE l)[k]? =some e):∃ e',l[k+1]? =some e'/\e=Jv e':=by
 unfold JE at h
 rw[List.getElem?_map,List.getElem?_drop,Nat.add_comm] at h
 cases hx:l[k+1]? with
 | none=>rw[hx] at h;cases h
 | some e'=>rw[hx] at h;simp at h;exact⟨e',rfl,h.symm⟩
theorem Zct (l:List Ent):(JE l).map Ent.pc=(l.map Ent.pc).drop 1:=by
 unfold JE
 rw[List.map_map,List.map_drop]
 congr 1
 exact List.map_congr_left fun e _=>Z1s e
theorem Zaj (p:Prog)(e:Ent)(l:List Ent)(st:List Int):QV p (e::l) st=if(at_ p e.pc).kind=8 then(if 4<=st.length then none else QV p l (st++[Y1 (e.pc+1)])) else if(at_ p e.pc).kind=9 then(if st.length=0 then none else QV p l st.dropLast) else QV p l st:=rfl
theorem Zai (st:List Int)(e:Ent)(l:List Ent)(k:Nat){st':List Int}
  (h8:(at_ p e.pc).kind=8->st.length<4/\st'=st++[Y1 (e.pc+1)]) (h9:(at_ p e.pc).kind=9->st≠[]/\st'=st.dropLast) (h0:(at_ p e.pc).kind≠8->(at_ p e.pc).kind≠9->st'=st):
  real p st' (JE (e::l)) (k:Int)=real p st (e::l) ((k+1:Nat):Int):=by
 have e1:real p st (e::l) ((k+1:Nat):Int)=QV p (e::cut l (k:Int)) st:=by
  unfold real cut
  rw[show(((k+1:Nat):Int)).toNat=k+1 by omega,show((k:Int)).toNat=k by omega,List.take_succ_cons]
 have e2:real p st' (JE (e::l)) (k:Int)=QV p (cut l (k:Int)) st':=by
  unfold real
  exact Pv p _ _ _ (by rw[Kx,Kx,Zct];rfl)
 rw[e1,e2,Zaj]
 by_cases k8:(at_ p e.pc).kind=8
 ·obtain ⟨a, rfl⟩ := h8 k8
  rw[if_pos k8,if_neg (by omega)]
 ·rw [if_neg k8]
  by_cases k9:(at_ p e.pc).kind=9
  ·obtain ⟨a, rfl⟩ := h9 k9
   rw[if_pos k9,if_neg (fun h=>a (List.length_eq_zero_iff.1 h))]
  ·rw[if_neg k9,h0 k8 k9]
theorem Inv.retired (hp:Fine p)(h:Inv N p c)(hc:QC p c=true):Inv N p (retire p c):=by
 have hc':=hc
 simp only[QC,Bool.and_eq_true,beq_iff_eq,decide_eq_true_eq,Bool.or_eq_true] at hc'
 obtain⟨⟨⟨hend,hlen⟩,hdone⟩,hknown⟩:=hc'
 obtain⟨e,l,hb⟩:∃ e l,c.buf=e::l:=by
  cases hq:c.buf with
  | nil=>exact absurd (by rw[hq];rfl) hlen
  | cons e l=>exact⟨e,l,rfl⟩
 have he0:ZA c.buf 0=e:=by rw[hb];rfl
 have hE:=h.ent 0 e (by rw[hb];rfl)
 have hn:=hp.n
 have hw:=hp.win
 have hbl:=h.buf
 have hreal0:Md.real p c.state.stack c.buf ((0:Nat):Int)=some c.state.stack:=by
  unfold Md.real Md.cut
  rw[show(((0:Nat):Int)).toNat=0 from rfl,List.take_zero];rfl
 rw[he0] at hdone hknown
 unfold retire
 rw[he0]
 simp only
 split
 ·rename_i hgo
  have hnf:e.fault=false/\(at_ p e.pc).kind≠12/\(at_ p e.pc).kind≠11:=by
   unfold BH at hgo
   cases hf:e.fault with
   | true=>rw[hf] at hgo;simp at hgo
   | false=>
    rw[hf] at hgo
    by_cases k12:(at_ p e.pc).kind=12
    ·simp[k12] at hgo
    ·by_cases k11 : (at_ p e.pc).kind = 11
     ·simp[k11] at hgo
     ·exact⟨rfl,k12,k11⟩
  obtain⟨hf,k12,k11⟩:=hnf
  have dn:(at_ p e.pc).kind≠10->e.done=true:=fun h=>by
   rcases hdone with h1 | h1
   ·exact h1
   ·exact absurd h1 h
  obtain⟨st,hst,hmem,hmv,hrg,hstk,hsv,hpc,h8,h9,h0⟩:∃ st,A8 c.state e (at_ p e.pc)=st/\(st.mem.length:Int)=N/\(∀ x ∈ st.mem,0<=x)/\(0<=st.regs.r0/\0<=st.regs.r1/\0<=st.regs.r2/\0<=st.regs.r3)/\st.stack.length<=4/\(∀ x ∈ st.stack,0<=x/\x<=p.ins.length)/\st.pc=c.state.pc/\
    ((at_ p e.pc).kind=8->c.state.stack.length<4/\st.stack=c.state.stack++[Y1 (e.pc+1)])/\((at_ p e.pc).kind=9->c.state.stack≠[]/\st.stack=c.state.stack.dropLast)/\((at_ p e.pc).kind≠8->(at_ p e.pc).kind≠9->st.stack=c.state.stack):=by
   refine⟨_,rfl,?_⟩
   have hs4:=h.stk
   unfold A8
   split
   ·rename_i kk
    exact⟨h.mem,h.mv,Z0i h.rg _ hE.vl,h.stk,h.sv,rfl,fun h=>by omega,fun h=>by omega,fun _ _=>rfl⟩
   split
   ·rename_i _ k3
    split
    ·refine ⟨by simpa using h.mem, fun x hx => ?_, h.rg, h.stk, h.sv, rfl, fun h => by omega, fun h => by omega, fun _ _ => rfl⟩
     rcases List.mem_or_eq_of_mem_set hx with hx | rfl
     ·exact h.mv x hx
     ·exact hE.vl
    ·exact⟨h.mem,h.mv,h.rg,h.stk,h.sv,rfl,fun h=>by omega,fun h=>by omega,fun _ _=>rfl⟩
   split
   ·rename_i _ _ k8
    obtain⟨l',hl',hlt⟩:=hE.cl k8 hf
    rw[hreal0] at hl'
    simp at hl';subst hl'
    obtain⟨p0,p1⟩:=RH (p:=p) (pc:=e.pc) k12
    refine⟨h.mem,h.mv,h.rg,?_,fun x hx=> ?_,rfl,fun _=>⟨hlt,rfl⟩,fun h=>by omega,fun h=>absurd k8 h⟩
    ·show (c.state.stack ++ [Y1 (e.pc + 1)]).length <= 4
     rw[List.length_append,List.length_singleton];omega
    ·rcases List.mem_append.1 hx with hx | hx
     ·exact h.sv x hx
     ·simp at hx; subst hx
      rw[MW (by omega) (by omega)];omega
   split
   ·rename_i _ _ _ k9
    obtain⟨l',hl',hne⟩:=hE.rt k9 (dn (by omega)) hf
    rw[hreal0] at hl'
    simp at hl';subst hl'
    refine⟨h.mem,h.mv,h.rg,?_,fun x hx=>h.sv x ((List.dropLast_sublist _).subset hx),rfl,fun h=>by omega,fun _=>⟨hne,rfl⟩,fun _ h=>absurd k9 h⟩
    show c.state.stack.dropLast.length<=4
    rw[List.length_dropLast];omega
   ·rename_i _ _ k8 k9
    exact⟨h.mem,h.mv,h.rg,h.stk,h.sv,rfl,fun h=>absurd h k8,fun h=>absurd h k9,fun _ _=>rfl⟩
  rw[hst]
  refine⟨hmem,hmv,hrg,?_,h.rsb,h.rv,hstk,hsv,by show -1<=st.pc/\st.pc<=_;rw[hpc];exact h.pc,?_,?_⟩
  ·show ((JE c.buf).length : Int) <= _
   unfold JE
   rw[List.length_map,List.length_drop];omega
  ·intro _ h2
   have h2:st.pc= -1:=h2
   rw[hpc] at h2
   obtain⟨r,x,hr,hs⟩:=h.last hend h2
   rw[hb] at hr
   cases r with
   | nil=>
    simp at hr
    obtain⟨rfl,_⟩:=hr
    rcases hs with hs | hs
    ·exact absurd hs k11
    ·exact absurd hs k12
   | cons y r=>
    simp at hr
    obtain⟨rfl,hr⟩:=hr
    refine⟨r.map Jv,Jv x,?_,?_⟩
    ·show JE c.buf = _
     unfold JE
     rw[hb,hr];simp
    ·unfold S6 at hs ⊢;rw[Z1s];exact hs
  ·intro k x hx
   have hx:(JE c.buf)[k]? =some x:=hx
   obtain⟨x',h1,rfl⟩:=Zcu hx
   have hk:k+1<c.buf.length:=(List.getElem?_eq_some_iff.1 h1).1
   refine Zcv (by omega) ?_ (h.ent (k+1) x' h1)
   show Md.real p st.stack (JE c.buf) k=_
   rw[hb]
   exact Zai c.state.stack e l k h8 h9 h0
 ·rename_i hend2
  refine⟨h.mem,h.mv,h.rg,?_,by simp,(fun x hx=>by cases hx),h.stk,h.sv,⟨by show -1<=e.pc;have:=hE.pc;omega,hE.pc.2⟩,fun h1=>absurd h1 hend2,fun k x hx=>by simp at hx⟩
  show((0:Nat):Int)<=_
  omega
theorem Inv.said (hp:Fine p)(h:Inv N p c)(d:Dir)(hc:Cz N p c d=true):Inv N p (say N p c d).1:=by
 unfold Cz at hc
 unfold say
 split at hc
 ·rename_i h1;rw[if_pos h1];exact h.fetched hp hc
 ·rename_i h1; rw [if_neg h1]
  split at hc
  ·rename_i h2;rw[if_pos h2];exact h.done hp hc
  ·rename_i h2; rw [if_neg h2]
   split at hc
   ·rename_i h3;rw[if_pos h3];exact h.addr hp hc
   ·rename_i h3; rw [if_neg h3]
    simp only[Bool.and_eq_true] at hc
    exact h.retired hp hc.2
theorem Z2k (d:Dir):d ∈ all N p c↔Cz N p c d=true:=by
 unfold all Cz
 simp only[List.mem_append,List.mem_map,List.mem_range,List.mem_filter]
 constructor
 ·rintro (((⟨n, h, rfl⟩ | ⟨n, ⟨_, h⟩, rfl⟩) | ⟨n, ⟨_, h⟩, rfl⟩) | h)
  ·rw [if_pos rfl]
   simp[Ew];omega
  ·rw[if_neg (by simp),if_pos rfl];exact h
  ·rw[if_neg (by simp),if_neg (by simp),if_pos rfl];exact h
  ·cases hr : QC p c with
   | false=>rw[hr] at h;cases h
   | true=>
    rw[hr] at h
    simp at h
    subst h
    simp
 ·intro h
  split at h
  ·rename_i h1
   simp only[Ew,Bool.and_eq_true,decide_eq_true_eq] at h
   refine .inl (.inl (.inl ⟨d.n.toNat,by omega,?_⟩))
   cases d with
   | mk k n=>
    simp at h1 h ⊢
    exact⟨h1.symm,by omega⟩
  split at h
  ·rename_i _ h2
   have ho:Bv p c d.n=true:=by
    have h:=h
    simp only[can,Bool.and_eq_true] at h;exact h.1.1
   obtain⟨_,k,hk,hg⟩:=N8 ho
   refine .inl (.inl (.inr ⟨k,⟨(List.getElem?_eq_some_iff.1 hg).1,by rw[<-hk];exact h⟩,?_⟩))
   cases d with
   | mk kd n=>
    simp at h2 hk ⊢
    exact⟨h2.symm,hk.symm⟩
  split at h
  ·rename_i _ _ h3
   have ho:Bv p c d.n=true:=by
    have h:=h
    simp only[QX,Bool.and_eq_true] at h;exact h.1.1.1.1
   obtain⟨_,k,hk,hg⟩:=N8 ho
   refine .inl (.inr ⟨k,⟨(List.getElem?_eq_some_iff.1 hg).1,by rw[<-hk];exact h⟩,?_⟩)
   cases d with
   | mk kd n=>
    simp at h3 hk ⊢
    exact⟨h3.symm,hk.symm⟩
  ·simp only [Bool.and_eq_true, decide_eq_true_eq] at h
   refine .inr ?_
   rw[h.2]
   cases d with
   | mk kd n=>
    simp at h ⊢
    exact h.1
end
def R0 (x:Int)(n:Nat):Nat:=(Y9 x 65535).toNat%n
theorem Zfb (x:Int)(n:Nat):(Y9 x 65535).tmod (n:Int)=(R0 x n:Nat):=by
 obtain⟨r,_,h⟩:=Tx x 16 (by decide)
 have h:Y9 x 65535=r:=h
 rw[R0,h,Int.toNat_natCast,<-Int.ofNat_tmod]
theorem Z3d (x:Int){n:Nat}(h:0<n):R0 x n<n:=Nat.mod_lt _ h
def pick (x:Int)(d:List Dir):Dir:=(d[R0 x d.length]?).getD ⟨0,0⟩
theorem Zd0 (x:Int){d:List Dir}(h:d≠[]):pick x d ∈ d:=by
 have hl:0<d.length:=List.length_pos_iff.2 h
 have:=Z3d x hl
 unfold pick
 rw[List.getElem?_eq_getElem this]
 exact List.getElem_mem this
def P3 (N:Int)(p:Prog):List Int->Conf->Conf
 | [],c=>c
 | x::l,c=>if all N p c=[] then c else P3 N p l (say N p c (pick x (all N p c))).1
def DU (s:State):Conf:=⟨s,[],[],0⟩
theorem Inv.walk {N:Int}{p:Prog}(hp:Fine p):∀(l:List Int) {c:Conf},Inv N p c->Inv N p (P3 N p l c)
 | [],_,h=>h
 | x::l,c,h=>by
  unfold P3
  split
  ·exact h
  ·rename_i hne
   exact Inv.walk hp l (h.said hp _ ((Z2k _).1 (Zd0 x hne)))
theorem Inv.begin {N:Int}{p:Prog}(hp:Fine p){s:State}(h1:(s.mem.length:Int)=N)(h2:∀ x ∈ s.mem,0<=x)(h3:0<=s.regs.r0/\0<=s.regs.r1/\0<=s.regs.r2/\0<=s.regs.r3)(h4:s.stack=[])(h5:s.pc=0):Inv N p (DU s):=by
 have hw:=hp.win
 refine⟨h1,h2,h3,?_,by simp[DU],(fun x hx=>by cases hx),(by rw[DU,h4];simp),fun x hx=> ?_,?_,fun _ h=> ?_,fun k e h=>by simp[DU] at h⟩
 ·show((0:Nat):Int)<=_;omega
 ·have hx : x ∈ s.stack := hx
  rw[h4] at hx;cases hx
 ·show -1 <= s.pc /\ s.pc <= _
  rw[h5];omega
 ·have h : s.pc = -1 := h
  rw[h5] at h;cases h
end Go.Aug.Md
namespace Go.Aug.Md
open Go Go.Aug
def KU (N:Int)(p:Prog):List Dir->Conf->Conf
 | [],c=>c
 | d::l,c=>KU N p l (say N p c d).1
def MD (N:Int)(p:Prog):List Dir->Conf->Prop
 | [],_=>True
 | d::l,c=>Cz N p c d=true/\MD N p l (say N p c d).1
theorem Z0v {N:Int}{p:Prog}:∀(l m:List Dir) (c:Conf),KU N p (l++m) c=KU N p m (KU N p l c)
 | [],_,_=>rfl
 | d::l,m,c=>Z0v l m _
theorem Z6n {N:Int}{p:Prog}:∀(l m:List Dir) (c:Conf),MD N p (l++m) c↔MD N p l c/\MD N p m (KU N p l c)
 | [],_,_=>⟨fun h=>⟨trivial,h⟩,fun h=>h.2⟩
 | d::l,m,c=>by
  show _/\MD N p (l++m) _↔(_/\MD N p l _)/\_
  rw[Z6n l m]
  exact⟨fun h=>⟨⟨h.1,h.2.1⟩,h.2.2⟩,fun h=>⟨h.1.1,h.1.2,h.2⟩⟩
end Go.Aug.Md
namespace Go.Aug.Mc
open Go Go.Aug
open Nat renaming reduceLT -> zN0, reduceEqDiff -> zN1, reduceAdd -> zN2, reduceMul -> zN3, reduceLeDiff -> zN4
open Int renaming reduceEq -> zI0, reduceLT -> zI1, reduceLE -> zI2, reduceNeg -> zI3
set_option linter.unusedSimpArgs false
set_option linter.unusedVariables false
set_option maxHeartbeats 40000000
set_option maxRecDepth 200000
theorem VU {N:Int}{p:Prog}{c:Conf}(hp:Md.Fine p)(h:Md.Inv N p c)(hN:N<=1000)(d:Dir):
  p.ins.length<1073741824/\c.buf.length<1000000/\c.state.mem.length<1000000/\c.state.stack.length<1000000/\c.rsb.length<1000000/\
  (F0 (Md.real p c.state.stack c.buf d.n)).length<1073741824/\(Md.can N p c d.n=true->(Md.QA p c d.n).kind=2->(Md.ZA c.buf d.n).val=0/\(Md.ZA c.buf d.n).frm= -1)/\
  (Md.QX p c d.n=true->(Md.ZA c.buf d.n).fault=false)/\(0<=(Md.at_ p (Md.ZA c.buf 0).pc).d/\(Md.at_ p (Md.ZA c.buf 0).pc).d<=3)/\
  (Md.QC p c=true->(Md.at_ p (Md.ZA c.buf 0).pc).kind=3->(Md.ZA c.buf 0).fault=false->0<=(Md.ZA c.buf 0).addr/\(Md.ZA c.buf 0).addr<c.state.mem.length)/\
  (Md.QC p c=true->(Md.at_ p (Md.ZA c.buf 0).pc).kind=9->(Md.ZA c.buf 0).fault=false->c.state.stack≠[]):=by
 have hb:=h.buf
 have hw:=hp.win
 have hn:=hp.n
 have hm:=h.mem
 have hfa:=hp.at_ (Md.ZA c.buf 0).pc
 refine⟨by omega,by omega,by omega,by have:=h.stk;omega,by have:=h.rsb;omega,?_,fun hc k2=> ?_,fun hc=> ?_,⟨hfa.2.2.1,hfa.2.2.2.1⟩,fun hc k3 hf=> ?_,fun hc k9 hf=> ?_⟩
 ·cases hr : Md.real p c.state.stack c.buf d.n with
  | none=>exact(by decide:(0:Nat)<1073741824)
  | some l=>have:=(h.real hp hr).2;show l.length<_;omega
 ·have hc' := hc
  simp only[Md.can,Bool.and_eq_true,Bool.not_eq_true'] at hc'
  obtain⟨_,k,hk,he⟩:=Md.N8 hc'.1.1
  exact(h.ent k _ he).ld k2 hc'.1.2
 ·have hc' := hc
  simp only[Md.QX,Bool.and_eq_true,Bool.not_eq_true',decide_eq_true_eq] at hc'
  obtain⟨_,k,hk,he⟩:=Md.N8 hc'.1.1.1.1
  exact(h.ent k _ he).st hc'.1.1.2 hc'.1.1.1.2
 ·obtain ⟨e, he, he0, _⟩ := UP hc
  rw[he0] at k3 hf ⊢
  simp only[Md.QC,Bool.and_eq_true,Bool.or_eq_true,decide_eq_true_eq,he0] at hc
  have hk:e.known=true:=by
   rcases hc.2 with h | h
   ·exact absurd k3 h
   ·exact h
  have:=(h.ent 0 e he).sk k3 hk hf
  omega
 ·obtain ⟨e, he, he0, _⟩ := UP hc
  rw[he0] at k9 hf
  simp only[Md.QC,Bool.and_eq_true,Bool.or_eq_true,decide_eq_true_eq,he0] at hc
  have hd:e.done=true:=by
   rcases hc.1.2 with h | h
   ·exact h
   ·omega
  obtain⟨l,hl,hne⟩:=(h.ent 0 e he).rt k9 hd hf
  have:Md.real p c.state.stack c.buf ((0:Nat):Int)=some c.state.stack:=by
   unfold Md.real Md.cut
   rw[show(((0:Nat):Int)).toNat=0 from rfl,List.take_zero];rfl
  rw[this] at hl
  simp at hl;subst hl;exact hne
theorem Z9j {l:List Int}{k:Nat}{x:Int}(h:(l.take 60)[k]? =some x):l[k]? =some x/\k<60/\k<l.length:=by
 rw[List.getElem?_take] at h
 split at h
 ·rename_i hk;exact⟨h,hk,(List.getElem?_eq_some_iff.1 h).1⟩
 ·cases h
structure WInv (N:Int) (p:Prog) (c0 c:Conf) (o:List Dir):Prop where
 inv:Md.Inv N p c
 can:Md.MD N p o c0
 run:Md.KU N p o c0=c
 len:o.length<=60
theorem WInv.step {N:Int}{p:Prog}{c0 c:Conf}{o:List Dir}(hp:Md.Fine p)(h:WInv N p c0 c o)(d:Dir)(hc:Md.Cz N p c d=true)(hl:o.length<60):WInv N p c0 (Md.say N p c d).1 (o++[d]):=by
 refine⟨h.inv.said hp d hc,(Md.Z6n _ _ _).2 ⟨h.can,by rw[h.run];exact⟨hc,trivial⟩⟩,?_,by rw[List.length_append,List.length_singleton];omega⟩
 rw[Md.Z0v,h.run];rfl
variable {E:Env} {fn:FuncId->Option (Env->cT->cT)}
section
variable (S:Sur E fn)
include S
theorem D4:E.lives 18 1=none:=off S 18 1 (by decide) rfl
theorem Zet (dp:Nat)(N:Int)(hN:N<=1000)(p:Prog)(hp:Md.Fine p)(c0:Conf)(l:List Int)(kx:Nat->K)(P:Option DV->Prop)
  (hx:∀ T c' o',ZG .bot T 6=.ref 1 0 0->ZG .bot T 8=.ref 2 0 0->ZG .bot T 9=Bw 3 (o':List Dir)->WInv N p c0 c' o'->P (Zz (kx 0 (mk .bot 70 T) ([.cells ((YH p).map .d) 0 false,.cells [zi,zi,zi,zi,zn,zn,zi,zn,zn,zi] 0 false,.cells ((QU c').map .d) 0 false]++Bz o')))):
  ∀(m k f:Nat) (c:Conf) (o:List Dir),WInv N p c0 c o->k+m=(l.take 60).length->m<=f->o.length<=k->
  P (Zz (HC (Zj E 18) (Z5 E fn (dp+7)) (Z9 10 HC (Zj E 18) (Z5 E fn (dp+7)) kx (YD 0 [.cell 6 true 10,.tmp 7]) f) kx (YD 0 [.cell 6 true 10,.tmp 7]) (mk .bot 70 [(2,.d (rD l)),(3,.ref 0 0 0),(6,.ref 1 0 0),(8,.ref 2 0 0),(9,Bw 3 o),(10,aI k)]) ([.cells ((YH p).map .d) 0 false,.cells [zi,zi,zi,zi,zn,zn,zi,zn,zn,zi] 0 false,.cells ((QU c).map .d) 0 false]++Bz o))):=by
 intro m
 have hlen:(l.take 60).length=min 60 l.length:=List.length_take
 induction m with
 | zero=>
  intro k f c o hI hk _ ho
  generalize Z9 10 HC _ _ kx _ f=KK
  first | (conv=>lhs;rw[HC]) | rw[HC]
  by_cases hkl:(k:Int)<l.length
  ·have h60 : ¬ (k : Int) < 60 := by omega
   by_cases h0:o.length=0
   ·have : o = [] := List.length_eq_zero_iff.1 h0
    subst this
    simp only[eG,go_sem,Z2 S,Z1 S,zN0,zN1,zN2,zN3,zN4,zI0,zI1,zI2,zI3,reduceCtorEq,D4 S,QK,QJ,hkl,h60]
    exact hx _ c [] rfl rfl rfl hI
   ·rw [Yk h0, Yj h0]
    simp only[eG,go_sem,Z2 S,Z1 S,zN0,zN1,zN2,zN3,zN4,zI0,zI1,zI2,zI3,reduceCtorEq,D4 S,hkl,h60]
    have:=fun T a b d=>hx T c o a b (by rw[Yk h0];exact d) hI
    rw[Yj h0] at this
    exact this _ rfl rfl rfl
  ·by_cases h0 : o.length = 0
   ·have : o = [] := List.length_eq_zero_iff.1 h0
    subst this
    simp only[eG,go_sem,Z2 S,Z1 S,zN0,zN1,zN2,zN3,zN4,zI0,zI1,zI2,zI3,reduceCtorEq,D4 S,QK,QJ,hkl]
    exact hx _ c [] rfl rfl rfl hI
   ·rw [Yk h0, Yj h0]
    simp only[eG,go_sem,Z2 S,Z1 S,zN0,zN1,zN2,zN3,zN4,zI0,zI1,zI2,zI3,reduceCtorEq,D4 S,hkl]
    have:=fun T a b d=>hx T c o a b (by rw[Yk h0];exact d) hI
    rw[Yj h0] at this
    exact this _ rfl rfl rfl
 | succ m ih=>
  intro k f c o hI hk hf ho
  obtain⟨x,hx0⟩:=QB (show k<(l.take 60).length by omega)
  obtain⟨hxk,h60,hkl⟩:=Z9j hx0
  have hkl':(k:Int)<l.length:=by omega
  have h60':(k:Int)<60:=by omega
  obtain⟨f,rfl⟩:∃ g,f=g+1:=⟨f-1,by omega⟩
  have hmem:=hI.inv.mem
  have hall0:=VU hp hI.inv hN ⟨0,0⟩
  obtain⟨q1,q2,q3,q4,q5,_⟩:=hall0
  have q2':c.buf.length<1073741824:=by omega
  generalize hK:Z9 10 HC _ _ kx _ (f+1)=KK
  first | (conv=>lhs;rw[HC]) | rw[HC]
  generalize hD:Md.all N p c=d
  by_cases hd:d=[]
  ·subst hd
   by_cases h0:o.length=0
   ·have : o = [] := List.length_eq_zero_iff.1 h0
    subst this
    simp only[eG,go_sem,Z2 S,Z1 S,zN0,zN1,zN2,zN3,zN4,zI0,zI1,zI2,zI3,reduceCtorEq,D4 S,QK,QJ,hkl',h60',TS S,q1,q2',hmem,hD,List.length_nil]
    exact hx _ c [] rfl rfl rfl hI
   ·rw [Yk h0, Yj h0]
    simp only[eG,go_sem,Z2 S,Z1 S,zN0,zN1,zN2,zN3,zN4,zI0,zI1,zI2,zI3,reduceCtorEq,D4 S,hkl',h60',TS S,q1,q2',hmem,hD,List.length_nil]
    have:=fun T a b d=>hx T c o a b (by rw[Yk h0];exact d) hI
    rw[Yj h0] at this
    exact this _ rfl rfl rfl
  ·have hdl : d.length ≠ 0 := fun h => hd (List.length_eq_zero_iff.1 h)
   have hdl':¬(d.length:Int)=0:=by omega
   have hix:=Md.Z3d x (show 0<d.length by omega)
   obtain⟨dd,hdd⟩:=QB hix
   have hpick:Md.pick x d=dd:=by unfold Md.pick;rw[hdd];rfl
   have hmemd:dd ∈ Md.all N p c:=by rw[hD];exact List.mem_of_getElem? hdd
   have hcan:=(Md.Z2k dd).1 hmemd
   obtain⟨_,_,_,_,_,y1,y2,y3,y4,y5,y6⟩:=VU hp hI.inv hN dd
   have hS:Dv N p c dd=Md.say N p c dd:=by unfold Dv;rw[hcan];rfl
   have hI':=hI.step hp dd hcan (by omega)
   have g2:c.buf.length<1073741823:=by omega
   have g3:c.state.mem.length<1073741824:=by omega
   have g4:c.state.stack.length<1073741823:=by omega
   have g5:c.rsb.length<1073741823:=by omega
   have lim:Z4=1099511627776:=rfl
   have hsay:∀(A:List Blk) (nb:Nat),ZX false E (Z5 E fn (dp+7)) 43 A nb (some ([ZP p,ZY c,.agg [vi dd.kind,vi dd.n]],[]))=some (.made (.d (.tup [ZY (Md.say N p c dd).1,rD (Md.say N p c dd).2,vb true])) []):=fun A nb=>by
    have:=Zi2 S dp p.w p.window p.fuel p.regs.r0 p.regs.r1 p.regs.r2 p.regs.r3 p.mems p.labels p.ins c.state.regs.r0 c.state.regs.r1 c.state.regs.r2 c.state.regs.r3 c.state.mem c.state.stack c.state.pc c.buf c.rsb c.end_ dd.kind dd.n q1 g2 g3 g4 g5 y1 (by rw[<-hmem] at y2;exact y2) y3 y4 y5 y6 A nb
    have hc2:Md.Cz (c.state.mem.length:Int) p c dd=true:=by rw[hmem];exact hcan
    have hs2:Dv (c.state.mem.length:Int) p c dd=Md.say N p c dd:=by rw[hmem];exact hS
    rw[<-hs2,<-hc2]
    exact this
   simp only[ZP,YH,ZY,QU] at hsay
   have next:=ih (k+1) f (Md.say N p c dd).1 (o++[dd]) hI' (by omega) (by omega) (by simp;omega)
   rw[Yk (HW _ _),Yj (HW _ _)] at next
   have hrem:YF .rem (aI (Md.Y9 x 65535)) (aI d.length)=some (aI (Md.R0 x d.length:Nat)):=by
    rw[<-Md.Zfb];exact Xj _ _ _ hdl'
   by_cases h0:o.length=0
   ·have : o = [] := List.length_eq_zero_iff.1 h0
    subst this
    simp only[eG,go_sem,Z2 S,Z1 S,zN0,zN1,zN2,zN3,zN4,zI0,zI1,zI2,zI3,reduceCtorEq,D4 S,QK,QJ,hkl',h60',TS S,q1,q2',hmem,hD,hdl',ZF hxk,YZ,hrem,ZF hdd,hsay,Bool.not_true,ZB,ZC,ZD,ZE,Zq,AK,B5,B4,B3,Option.map_some,Nat.zero_add,Nat.one_mul,Nat.zero_mul,and_self,true_and,wi k (by omega),show(0:Nat)<1 by decide]
    rw[<-hK,Z6 (on S _ _ [2,3,6,8,9,10] (by decide) rfl) rfl _ _ _ _ _ _ _ _ _ rfl]
    simp only[eG,go_sem,Z2 S,Z1 S,zN0,zN1,zN2,zN3,zN4,zI0,zI1,zI2,zI3,reduceCtorEq,D4 S]
    exact next
   ·rw [Yk h0, Yj h0]
    have k1:(o.length+1)*16<=Z4:=by omega
    have k2:o.length+1<=Z4:=by omega
    simp only[eG,go_sem,Z2 S,Z1 S,zN0,zN1,zN2,zN3,zN4,zI0,zI1,zI2,zI3,reduceCtorEq,D4 S,hkl',h60',TS S,q1,q2',hmem,hD,hdl',ZF hxk,YZ,hrem,ZF hdd,hsay,Bool.not_true,ZB,ZC,ZD,ZE,Zq,AK,B8,k1,k2,Option.map_some,wi k (by omega)]
    rw[<-hK,Z6 (on S _ _ [2,3,6,8,9,10] (by decide) rfl) rfl _ _ _ _ _ _ _ _ _ rfl]
    simp only[eG,go_sem,Z2 S,Z1 S,zN0,zN1,zN2,zN3,zN4,zI0,zI1,zI2,zI3,reduceCtorEq,D4 S]
    rw[List.length_append,List.length_singleton] at next
    exact next
theorem UJ (dp:Nat)(p:Prog)(hp:Md.Fine p)(N:Int)(hN:N<=1000)(s:State)(hI:Md.Inv N p (Md.DU s))(l:List Int):
  ∃(c:Conf) (o:List Dir),Z7 E fn (dp+8) 18 [ZP p,JD s,rD l] (.tup [ZY c,rD o])/\WInv N p (Md.DU s) c o:=by
 obtain⟨P,hP⟩:∃ P:Option DV->Prop,P=fun r=>∃(c:Conf) (o:List Dir),r=some (.tup [ZY c,rD o])/\WInv N p (Md.DU s) c o:=⟨_,rfl⟩
 have fin:∀(c:Conf) (o:List Dir),WInv N p (Md.DU s) c o->P (some (.tup [ZY c,rD o])):=fun c o h=>by rw[hP];exact⟨c,o,rfl,h⟩
 have key:P (Zz (Z5 E fn (dp+8) 18 [.d (ZP p),.d (JD s),.d (rD l)] [])):=by
  clear hP
  show P (Zz (Z5 E fn (dp+7+1) 18 [.d (ZP p),.d (JD s),.d (rD l)] []))
  rw[Yx,S.Z48,Yw,Z7t,Yq _ _ _ _ _ _ _ _ rfl]
  simp only[eG,go_sem,Z2 S,Z1 S,zN0,zN1,zN2,zN3,zN4,zI0,zI1,zI2,zI3,reduceCtorEq,D4 S,Zi5 S]
  rw[ZU,Z6 (on S _ _ [2,3,6,8,9,10] (by decide) rfl) rfl _ _ _ _ _ _ _ _ _ rfl]
  simp only[eG,go_sem,Z2 S,Z1 S,zN0,zN1,zN2,zN3,zN4,zI0,zI1,zI2,zI3,reduceCtorEq,D4 S]
  refine Zet S dp N hN p hp (Md.DU s) l _ P ?_ (l.take 60).length 0 _ (Md.DU s) [] ⟨hI,trivial,rfl,by simp⟩ (by omega) (by rw[List.length_take];omega) (by simp)
  intro T c' o' t6 t8 t9 hI'
  simp only[ZY,QU] at fin
  by_cases h0:o'.length=0
  ·have e : o' = [] := List.length_eq_zero_iff.1 h0
   subst e
   rw[QK] at t9
   rw[QJ,List.append_nil]
   simp only[eG,go_sem,Z2 S,Z1 S,zN0,zN1,zN2,zN3,zN4,zI0,zI1,zI2,zI3,reduceCtorEq,D4 S,t6,t8,t9]
   exact fin c' [] hI'
  ·rw [Yk h0] at t9
   rw[Yj h0]
   have hne:o'≠[]:=fun e=>h0 (by rw[e];rfl)
   have hd:deep [.cells ((rC o').map .d) 0 false] 7 (.sref 0 0 0 o'.length 2 none)=some (.lst (rC o') o'.length none,[0]):=Ck o' hne _ rfl 5 2 none rfl
   simp only[eG,go_sem,Z2 S,Z1 S,zN0,zN1,zN2,zN3,zN4,zI0,zI1,zI2,zI3,reduceCtorEq,D4 S,t6,t8,t9,hd]
   exact fin c' o' hI'
 rw[hP] at key
 obtain⟨c,o,h1,h2⟩:=key
 exact⟨c,o,h1,h2⟩
end
end Go.Aug.Mc
