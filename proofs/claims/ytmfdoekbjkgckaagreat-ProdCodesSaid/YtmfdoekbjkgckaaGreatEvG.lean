import Derived.Test.YtmfdoekbjkgckaaGreatEvD
namespace Go.Aug
open Go
theorem VB {n:Nat}{l:List Nat}(h:n ∈ l):ZW n l=true:=VC.2 h
theorem GD {a b:Nat}:Nat.beq a b=true↔a=b:=⟨Nat.eq_of_beq_eq_true,fun h=>by subst h;exact Nat.beq_refl a⟩
theorem Ww {as:List Nat}{i:Nat}:∀ {l:List Edge},(Kj as l).testBit i=true->∃ e ∈ l,Region.binds .any e=true/\(i=e.on∨(as.getD e.on 0).testBit i=true)
 | [],h=>by simp[Kj] at h
 | e::l,h=>by
  simp only[Kj] at h
  cases hb:Region.binds .any e with
  | false=>
   rw[hb] at h
   obtain⟨e',he,h1,h2⟩:=Ww (l:=l) (by simpa using h)
   exact⟨e',by simp[he],h1,h2⟩
  | true=>
   rw[hb] at h
   simp only[cond_true,Nat.testBit_or,Bool.or_eq_true] at h
   rcases h with h | h | h
   ·refine ⟨e, by simp, hb, .inl ?_⟩
    rw[Nat.testBit_two_pow] at h
    simpa using(of_decide_eq_true h).symm
   ·exact⟨e,by simp,hb,.inr h⟩
   ·obtain ⟨e', he, h1, h2⟩ := Ww h
    exact⟨e',by simp[he],h1,h2⟩
structure Chk (P:Program) (ops:Array Oper) (as:List Nat) (fl:Nat) (ps:List (Nat×Nat)):Prop where
 bits:∀ {j:Nat} {y:Oper},ops[j]? =some y->as.getD j 0=Kj as y.after.toList
 edge:∀ {j:Nat} {y:Oper},ops[j]? =some y->∀ e ∈ y.after,Region.binds .any e=true->e.on<j
 self:∀ {j:Nat} {y:Oper},ops[j]? =some y->∀ t,y.dst=some t->t ∈ CZ ops y->GW j ps=false
 pair:∀ {i j:Nat} {x y:Oper},i<j->ops[i]? =some x->ops[j]? =some y->HP P ops as fl ps i j x y=true
theorem Zh6 {P:Program}{ops:Array Oper}{as:List Nat}{fl:Nat}{ps:List (Nat×Nat)}(h:Z61 P ops as fl ps=true):Chk P ops as fl ps:=by
 have key:∀ {j:Nat} {y:Oper},ops[j]? =some y->(TJ as j y=true/\(!M8 y.dst (CZ ops y) || !GW j ps)=true)/\∀ i,i<j->∀ x,ops[i]? =some x->HP P ops as fl ps i j x y=true:=by
  intro j y hy
  have hj:j<ops.size:=(Array.getElem?_eq_some_iff.1 hy).1
  have h1:=List.all_eq_true.1 h j (List.mem_range.2 hj)
  simp only[hy,Bool.and_eq_true] at h1
  refine⟨h1.1,fun i hi x hx=> ?_⟩
  have h2:=List.all_eq_true.1 h1.2 i (List.mem_range.2 hi)
  simpa only[hx] using h2
 refine⟨fun hy=> ?_,fun hy e he hb=> ?_,fun hy t hd hr=> ?_,fun hij hx hy=>(key hy).2 _ hij _ hx⟩
 ·have := (key hy).1.1
  simp only[TJ,Bool.and_eq_true] at this
  exact GD.1 this.1
 ·have := (key hy).1.1
  simp only[TJ,Bool.and_eq_true] at this
  have:=List.all_eq_true.1 this.2 e (by simpa using he)
  rw[hb] at this
  simpa [Nat.blt_eq] using this
 ·have := (key hy).1.2
  simp only[hd,M8,VB hr,Bool.not_true,Bool.false_or] at this
  simpa using this
section
variable {P:Program} {ops:Array Oper} {as:List Nat} {fl:Nat} {ps:List (Nat×Nat)}
def CC (as:List Nat)(i j:Nat):Prop:=(as.getD j 0).testBit i=true
def Ls (listed:Array Bool)(i:Nat):Prop:=listed.getD i false=true
def RS (ops:Array Oper)(listed:Array Bool):Prop:=∀ j y,ops[j]? =some y->Ls listed j->∀ e ∈ y.after,Region.binds .any e=true->Ls listed e.on
theorem Chk.anc (h:Chk P ops as fl ps){listed:Array Bool}(hc:RS ops listed):∀(j:Nat) {y:Oper},ops[j]? =some y->(∀ e ∈ y.after,Region.binds .any e=true->Ls listed e.on)->∀ i,CC as i j->Ls listed i:=by
 intro j
 induction j using Nat.strongRecOn with
 | _ j ih=>
  intro y hy hl i hi
  unfold CC at hi
  rw[h.bits hy] at hi
  obtain⟨e,he,hb,h1⟩:=Ww hi
  have he':e ∈ y.after:=by simpa using he
  rcases h1 with rfl | h1
  ·exact hl e he' hb
  ·have hlt := h.edge hy e he' hb
   have hsz:e.on<ops.size:=Nat.lt_trans hlt (Array.getElem?_eq_some_iff.1 hy).1
   exact ih e.on hlt (Array.getElem?_eq_getElem hsz) (fun e' he' hb'=>hc _ _ (Array.getElem?_eq_getElem hsz) (hl e (by simpa using he) hb) e' he' hb') i h1
theorem Chk.anc' (h:Chk P ops as fl ps){listed:Array Bool}(hc:RS ops listed){j:Nat}{y:Oper}(hy:ops[j]? =some y)(hl:Ls listed j){i:Nat}(hi:CC as i j):Ls listed i:=
 h.anc hc j hy (hc j y hy hl) i hi
theorem Chk.dsts (h:Chk P ops as fl ps){i j:Nat}{x y:Oper}(hne:i≠j)(hx:ops[i]? =some x)(hy:ops[j]? =some y){t:Nat}(hi:x.dst=some t):y.dst≠some t:=by
 intro hj
 rcases Nat.lt_or_gt_of_ne hne with hlt | hlt
 ·have := h.pair hlt hx hy
  simp[HP,UZ,hi,hj] at this
 ·have := h.pair hlt hy hx
  simp[HP,UZ,hi,hj] at this
theorem Chk.data (h:Chk P ops as fl ps){i j:Nat}{x y:Oper}(hij:i<j)(hx:ops[i]? =some x)(hy:ops[j]? =some y){t:Nat}(hi:x.dst=some t)(ht:t ∈ CZ ops y):CC as i j:=by
 have:=h.pair hij hx hy
 simp only[HP,Bool.and_eq_true,Bool.or_eq_true,Bool.not_eq_true'] at this
 rcases this.1.1.2 with h1 | h1
 ·exact h1
 ·rw [hi] at h1
  simp[M8,VB ht] at h1
theorem Chk.late (h:Chk P ops as fl ps){i j:Nat}{x y:Oper}(hij:i<j)(hx:ops[i]? =some x)(hy:ops[j]? =some y){t:Nat}(hj:y.dst=some t)(ht:t ∈ CZ ops x):CC as i j/\GW i ps=false:=by
 have:=h.pair hij hx hy
 simp only[HP,Bool.and_eq_true,Bool.or_eq_true,Bool.not_eq_true'] at this
 rcases this.1.2 with h1 | h1
 ·rw [hj] at h1
  simp[M8,VB ht] at h1
 ·exact⟨h1.1,by simpa using h1.2⟩
theorem Chk.kd (h:Chk P ops as fl ps){i j:Nat}{x y:Oper}(hij:i<j)(hx:ops[i]? =some x)(hy:ops[j]? =some y)(ho:¬CC as i j):Tj fl ps i j (ZH P x.op) (ZH P y.op)=true:=by
 have:=h.pair hij hx hy
 simp only[HP,Bool.and_eq_true,Bool.or_eq_true] at this
 rcases this.2 with h1 | h1
 ·exact absurd h1 ho
 ·exact h1
def KM (E:Env)(call:cT)(fg:Fl)(s:Stp)(tm:List AV)(A:List Blk)(tm':List AV)(A':List Blk):Prop:=
 (BP tm s.guard=some false/\tm'=YN tm s.dst AR/\A'=A)∨
 (BP tm s.guard = some true /\ ((∃ x bs, s.op E call tm A A.length = some (.made x bs) /\ (fg = .pure -> bs = []) /\ tm' = YN tm s.dst x /\ A' = A ++ bs) ∨
  ((fg=.any∨fg=.tn)/\A.length<=A'.length/\∃ x,s.op E call tm A A.length=some (.turned x A')/\tm'=YN tm s.dst x)))
theorem Z60 {E:Env}{call:cT}{ls:List (Nat×Opd)}{r:AV×List Blk}:∀(l:List (Fl×Stp)) (d:Nat) (k:K) (tm:List AV) (A:List Blk),Kk E call ls d l k tm A=some r->
  ∃(T:Nat->List AV) (H:Nat->List Blk),T 0=tm/\H 0=A/\(∀ j s,l[j]? =some s->KM E call s.1 s.2 (T j) (H j) (T (j+1)) (H (j+1)))/\k (T l.length) (H l.length)=some r/\
   ∀ j p,j<l.length->p ∈ ls->p.1=d+j->DM (H j) (H (j+1)) (look (T l.length) p.2)=true
 | [],d,k,tm,A,h=>⟨fun _=>tm,fun _=>A,rfl,rfl,by simp,h,fun j p hj=>by simp at hj⟩
 | (fg,s)::l,d,k,tm,A,h=>by
  simp only[Kk] at h
  have fin:∀ tm1 A1,KM E call fg s tm A tm1 A1->Kk E call ls (d+1) l (VP ls d A A1 k) tm1 A1=some r->∃(T:Nat->List AV) (H:Nat->List Blk),T 0=tm/\H 0=A/\
    (∀ j q,((fg,s)::l)[j]? =some q->KM E call q.1 q.2 (T j) (H j) (T (j+1)) (H (j+1)))/\k (T ((fg,s)::l).length) (H ((fg,s)::l).length)=some r/\
    ∀ j p,j<((fg,s)::l).length->p ∈ ls->p.1=d+j->DM (H j) (H (j+1)) (look (T ((fg,s)::l).length) p.2)=true:=by
   intro tm1 A1 h1 h2
   obtain⟨T,H,rfl,rfl,h3,h4,h5⟩:=Z60 l (d+1) _ tm1 A1 h2
   unfold VP at h4
   cases hk:(ls.all fun p=> !Nat.beq p.1 d || DM A (H 0) (look (T l.length) p.2)) with
   | false=>simp[hk] at h4
   | true=>
    simp only[hk,cond_true] at h4
    refine⟨fun n=>match n with | 0=>tm | n+1=>T n,fun n=>match n with | 0=>A | n+1=>H n,rfl,rfl,?_,by simpa using h4,?_⟩
    ·intro j q hq
     cases j with
     | zero=>simp at hq;subst hq;exact h1
     | succ j=>exact h3 j q (by simpa using hq)
    ·intro j p hj hp he
     cases j with
     | zero=>
      have:=List.all_eq_true.1 hk p hp
      rw[he] at this
      simpa [GD.2 rfl] using this
     | succ j=>exact h5 j p (by simpa using hj) hp (by omega)
  cases hw:BP tm s.guard with
  | none=>simp[hw,HK] at h
  | some b=>
   cases b with
   | false=>
    simp only[hw,HK] at h
    exact fin _ _ (.inl ⟨hw,rfl,rfl⟩) h
   | true=>
    simp only[hw,HK] at h
    cases hd:s.op E call tm A A.length with
    | none=>simp[hd,DN] at h
    | some d=>
     cases d with
     | made x bs=>
      cases bs with
      | nil=>
       simp only[hd,DN] at h
       exact fin _ _ (.inr ⟨hw,.inl ⟨x,[],hd,fun _=>rfl,rfl,by simp⟩⟩) h
      | cons b bs=>
       simp only[hd,DN] at h
       cases fg with
       | pure=>simp at h
       | any=>exact fin _ _ (.inr ⟨hw,.inl ⟨x,b::bs,hd,by simp,rfl,rfl⟩⟩) h
       | mk=>exact fin _ _ (.inr ⟨hw,.inl ⟨x,b::bs,hd,by simp,rfl,rfl⟩⟩) h
       | tn=>exact fin _ _ (.inr ⟨hw,.inl ⟨x,b::bs,hd,by simp,rfl,rfl⟩⟩) h
     | turned x A1=>
      simp only[hd,DN] at h
      cases fg with
      | pure=>simp at h
      | mk=>simp at h
      | any=>
       cases hl:Nat.ble A.length A1.length with
       | false=>simp[hl] at h
       | true=>
        simp[hl] at h
        exact fin _ _ (.inr ⟨hw,.inr ⟨.inl rfl,Nat.le_of_ble_eq_true hl,x,hd,rfl⟩⟩) h
      | tn=>
       cases hl:Nat.ble A.length A1.length with
       | false=>simp[hl] at h
       | true=>
        simp[hl] at h
        exact fin _ _ (.inr ⟨hw,.inr ⟨.inr rfl,Nat.le_of_ble_eq_true hl,x,hd,rfl⟩⟩) h
theorem MZ {α:Type}{f:α->α->Bool}(h:∀ x y,f x y=true->x=y):∀ {l m:List α},DA.sameL f l m=true->l=m
 | [],[],_=>rfl
 | x::l,y::m,e=>by
  simp only[DA.sameL,Bool.and_eq_true] at e
  rw[h x y e.1,MZ h e.2]
 | [],_::_,e=>by simp[DA.sameL] at e
 | _::_,[],e=>by simp[DA.sameL] at e
theorem Z0p:∀(n:Nat) (x y:AV),DA n x y=true->x=y
 | 0,x,y,h=>by simp[DA] at h
 | n+1,x,y,h=>by
  have ih:=Z0p n
  unfold DA at h
  split at h<;>(try simp only[Bool.and_eq_true,decide_eq_true_eq,beq_iff_eq,GD] at h)<;>try (simp at h;done)
  ·rw[h.1,h.2]
  ·rw[h]
  ·rename_i a b
   have:a=b:=by cases a;cases b;simp_all
   rw[this]
  ·rfl
  ·rename_i cs a ds b
   rw[MZ (fun x y e=>by have:=ih _ _ e;simpa using this) h.1,h.2]
  ·rename_i cs a c ds b e
   rw[MZ (fun x y e=>by have:=ih _ _ e;simpa using this) h.1,h.2.1,h.2.2]
  ·rename_i cs ds
   rw[MZ (fun x y e=>by have:=ih _ _ e;simpa using this) h]
  ·rw[MZ ih h]
  ·rw[h.1.1,h.1.2,h.2]
  ·rfl
theorem Zf6 {A A1:List Blk}{i v o:Nat}(h:DM A A1 (.ref i v o)=true)(hi:i<A.length):A1[i]? =A[i]? :=by
 simp only[DM] at h
 unfold Z0q at h
 split at h
 ·rename_i cs v r ds u q e1 e2
  simp only[Bool.and_eq_true,GD,beq_iff_eq] at h
  rw[e1,e2,MZ (Z0p 8) h.1.1,h.1.2,h.2]
 ·rename_i e
  rw[List.getElem?_eq_getElem hi] at e
  simp at e
 ·simp at h
theorem Z6q {P:Program}{ops:Array Oper}:∀ {l:List Oper} {ss:List Stp},A9 P ops l=some ss->ss.length=l.length/\∀(j:Nat) (y:Oper),l[j]? =some y->∃ s,ss[j]? =some s/\H4 P ops y=some s
 | [],ss,h=>by simp[A9] at h;subst h;simp
 | o::l,ss,h=>by
  simp only[A9] at h
  split at h
  ·rename_i a b h1 h2
   simp at h;subst h
   obtain⟨g1,g2⟩:=Z6q h2
   refine⟨by simp[g1],fun j y hy=> ?_⟩
   cases j with
   | zero=>simp at hy;subst hy;exact⟨a,rfl,h1⟩
   | succ j=>simpa using g2 j y (by simpa using hy)
  ·simp at h
theorem Z3z {P:Program}{fl:Nat}:∀(l:List Oper) (ss:List Stp) (i j:Nat) (y:Oper) (s:Stp),l[j]? =some y->ss[j]? =some s->(G5 P fl i l ss)[j]? =some (C8 fl (i+j) (ZH P y.op),s)
 | [],ss,i,j,y,s,h,_=>by simp at h
 | o::l,[],i,j,y,s,_,h=>by simp at h
 | o::l,a::ss,i,0,y,s,h1,h2=>by simp at h1 h2;subst h1 h2;simp[G5]
 | o::l,a::ss,i,j+1,y,s,h1,h2=>by
  simp only[G5]
  have:=Z3z (P:=P) (fl:=fl) l ss (i+1) j y s (by simpa using h1) (by simpa using h2)
  rw[List.getElem?_cons_succ,this]
  congr 3;omega
theorem Z3y {P:Program}{fl:Nat}:∀(l:List Oper) (ss:List Stp) (i:Nat),ss.length=l.length->(G5 P fl i l ss).length=l.length
 | [],ss,i,h=>by simp[G5]
 | o::l,[],i,h=>by simp at h
 | o::l,a::ss,i,h=>by simp only[G5,List.length_cons];rw[Z3y l ss (i+1) (by simpa using h)]
theorem Za5 (l:List AV)(n:Nat)(x:AV):(Bk l n x).length=l.length:=by rw[Sj];simp
theorem S9 (l:List AV)(n:Option Nat)(x:AV):(YN l n x).length=l.length:=by
 cases n with
 | none=>rfl
 | some n=>exact Za5 l n x
theorem Zdw (l:List AV){n m:Nat}(x:AV)(h:n≠m):ZM (Bk l n x) m=ZM l m:=by
 rw[Nz,Nz,Sj,List.getD_eq_getElem?_getD,List.getD_eq_getElem?_getD,List.getElem?_set_ne h]
theorem Zdx {l l':List AV}(hl:l.length=l'.length)(n:Nat)(x:AV):ZM (Bk l n x) n=ZM (Bk l' n x) n:=by
 rw[Nz,Nz,Sj,Sj,List.getD_eq_getElem?_getD,List.getD_eq_getElem?_getD,List.getElem?_set_self',List.getElem?_set_self']
 rcases Nat.lt_or_ge n l.length with h | h
 ·rw[List.getElem?_eq_getElem h,List.getElem?_eq_getElem (hl ▸ h)];rfl
 ·rw[List.getElem?_eq_none h,List.getElem?_eq_none (hl ▸ h)]
theorem Vx (l:List AV){d:Option Nat}{m:Nat}(x:AV)(h:d≠some m):ZM (YN l d x) m=ZM l m:=by
 cases d with
 | none=>rfl
 | some n=>exact Zdw l x fun e=>h (by rw[e])
theorem Zgf {l l':List AV}(hl:l.length=l'.length)(h:∀ t,ZM l t=ZM l' t):l=l':=by
 apply List.ext_getElem hl
 intro i h1 h2
 have:=h i
 rw[Nz,Nz,List.getD_eq_getElem?_getD,List.getD_eq_getElem?_getD,List.getElem?_eq_getElem h1,List.getElem?_eq_getElem h2] at this
 simpa using this
end
end Go.Aug
