import Derived.Test.YthnhboimcidhgaaGreatDoorEvS
import Derived.Orders
namespace Go.Aug
open Go
theorem MY {tm tm':List AV}{y:Operand}{x:Opd}(h:ZQ y=some x)(ag:∀ t,y=.tmp t->Y4 tm t=Y4 tm' t):look tm x=look tm' x:=by
 cases y with
 | tmp t=>simp[ZQ] at h;subst h;exact ag t rfl
 | const v=>simp only[ZQ] at h;split at h<;>simp at h;subst h;rfl
 | func f=>simp[ZQ] at h;subst h;rfl
 | global g=>simp[ZQ] at h;obtain⟨_,_,rfl⟩:=h;rfl
theorem Zoq {tm tm':List AV}(sh:Sh){x:Opd}(h:look tm x=look tm' x):look tm (HD sh x)=look tm' (HD sh x):=by
 unfold HD
 split
 ·rfl
 ·exact h
theorem Z1h {tm tm':List AV}:∀ {ys:List Operand} {xs:List Opd},JX ys=some xs->(∀ t,Operand.tmp t ∈ ys->Y4 tm t=Y4 tm' t)->xs.map (look tm)=xs.map (look tm')
 | [],xs,h,_=>by simp[JX] at h;subst h;rfl
 | y::ys,xs,h,ag=>by
  simp only[JX] at h
  split at h
  ·rename_i a b h1 h2
   simp at h;subst h
   simp only[List.map_cons]
   rw[MY h1 (fun t e=>ag t (by simp[e])),Z1h h2 (fun t e=>ag t (by simp[e]))]
  ·simp at h
theorem Zt1 {tm tm':List AV}{y:Option Operand}{x:Option Opd}(h:Cz y=some x)(ag:∀ t,y=some (.tmp t)->Y4 tm t=Y4 tm' t)(n d:Nat):EF n tm x d=EF n tm' x d:=by
 cases y with
 | none=>simp[Cz] at h;subst h;rfl
 | some y=>
  simp only[Cz] at h
  cases hy:ZQ y with
  | none=>simp[hy] at h
  | some z=>
   simp[hy] at h;subst h
   simp only[EF]
   rw[MY hy (fun t e=>ag t (by simp[e]))]
theorem Z1u {tm tm':List AV}{place:Nat->Option (Nat×Nat)}:∀ {ys:List (Nat×Operand)} {xs:List (Nat×Nat×Opd)},F6 place ys=some xs->(∀ t,Operand.tmp t ∈ ys.map (·.2)->Y4 tm t=Y4 tm' t)->∀ cs,Bz tm cs xs=Bz tm' cs xs
 | [],xs,h,_,cs=>by simp[F6] at h;subst h;rfl
 | (i,y)::ys,xs,h,ag,cs=>by
  simp only[F6] at h
  split at h
  ·rename_i o s x r h1 h2 h3
   simp at h;subst h
   simp only[Bz]
   rw[MY h2 (fun t e=>ag t (by simp[e]))]
   split
   ·exact Z1u h3 (fun t e=>ag t (by simp only[List.map_cons,List.mem_cons];exact .inr e)) _
   ·rfl
  ·simp at h
theorem Zmt {P:Program}{op:Op}{f:ZV}(h:Y5 P op=some f){tm tm':List AV}(ag:∀ t,Operand.tmp t ∈ op.operands->Y4 tm t=Y4 tm' t)(E:Env)(call:cT)(A:List Blk)(nb:Nat):
  f E call tm A nb=f E call tm' A nb:=by
 have one:∀ {y:Operand} {x:Opd},y ∈ op.operands->ZQ y=some x->look tm x=look tm' x:=fun hy hx=>MY hx fun t e=>ag t (e ▸ hy)
 have opt:∀ {y:Option Operand} {x:Option Opd},(∀ z,y=some z->z ∈ op.operands)->Cz y=some x->∀ n d,EF n tm x d=EF n tm' x d:=fun hy hx=>Zt1 hx fun t e=>ag t (hy _ e)
 cases op<;>simp only[Y5] at h<;>try (simp at h;done)
 case move y=> 
  simp only[Option.map_eq_some_iff] at h
  obtain⟨x,hx,rfl⟩:=h
  simp only[oV,one (by simp[Op.operands]) hx]
 case assign y=>
  simp only[Option.map_eq_some_iff] at h
  obtain⟨x,hx,rfl⟩:=h
  simp only[oV,one (by simp[Op.operands]) hx]
 case pick c a b=>
  split at h
  ·rename_i c' a' b' h1 h2 h3
   simp at h;subst h
   have e1:=one (by simp[Op.operands]) h1
   have e2:=one (by simp[Op.operands]) h2
   have e3:=one (by simp[Op.operands]) h3
   simp only[YE,e1]
   unfold T7
   split<;>simp only[e2,e3]
  ·simp at h
 case alloc t=>
  split at h
  ·simp only [Option.map_eq_some_iff] at h
   obtain⟨x,hx,rfl⟩:=h
   rfl
  ·simp at h
 case range t y=>
  split at h
  ·rename_i x h1 h2
   simp at h;subst h
   simp only[RM,one (by simp[Op.operands]) h2]
  ·simp at h
 case next y s=>
  split at h
  ·simp only [Option.map_eq_some_iff] at h
   obtain⟨x,hx,rfl⟩:=h
   simp only[RN,one (by simp[Op.operands]) hx]
  ·simp at h
 case box t y=>
  split at h
  ·simp only [Option.map_eq_some_iff] at h
   obtain⟨x,hx,rfl⟩:=h
   simp only[ZA,one (by simp[Op.operands]) hx]
  ·simp at h
 case build t ps=>
  have key:∀ {place:Nat->Option (Nat×Nat)} {xs:List (Nat×Nat×Opd)},F6 place ps.toList=some xs->∀ cs,Bz tm cs xs=Bz tm' cs xs:=fun hx=>Z1u hx fun t e=>ag t (by simpa [Op.operands] using e)
  split at h
  ·split at h
   ·split at h
    ·rename_i h4
     simp at h;subst h
     simp only[YP,key h4]
    ·simp at h
   ·simp at h
  ·split at h
   ·split at h
    ·rename_i h4
     simp at h;subst h
     simp only[YP,key h4]
    ·simp at h
   ·simp at h
  ·simp at h
 case buildSlice t n ps=>
  split at h
  ·split at h
   ·split at h
    ·simp only [Option.map_eq_some_iff] at h
     obtain⟨xs,hx,rfl⟩:=h
     simp only[YA]
     rw[Z1u hx fun t e=>ag t (by simpa [Op.operands] using e)]
    ·simp at h
   ·simp at h
  ·simp at h
 case load t y=>
  split at h
  ·rename_i a ag' s h1 h2 h3
   simp at h;subst h
   simp only[oL,one (by simp[Op.operands]) h1]
  ·simp at h
 case store t y z=>
  split at h
  ·rename_i a x s h1 h2 h3
   simp at h;subst h
   simp only[oS,one (by simp[Op.operands]) h1,one (y:=z) (by simp[Op.operands]) h2]
  ·simp at h
 case nilCheck y=>
  simp only[Option.map_eq_some_iff] at h
  obtain⟨x,hx,rfl⟩:=h
  simp only[Qk,one (by simp[Op.operands]) hx]
 case binOp bop t y z u=>
  split at h
  ·rename_i x1 x2 h1 h2
   have e1:=one (by simp[Op.operands]) h1
   have e2:=one (y:=z) (by simp[Op.operands]) h2
   have bin:∀ b,f=oB b x1 x2->f E call tm A nb=f E call tm' A nb:=by
    intro b e;subst e;simp only[oB,e1,e2]
   have eq:∀ b s,f=HG b s x1 (HD s x2)->f E call tm A nb=f E call tm' A nb:=by
    intro b s e;subst e;simp only[HG,e1,Zoq s e2]
   have ptr:∀ b,f=KC b x1 x2->f E call tm A nb=f E call tm' A nb:=by
    intro b e;subst e;simp only[KC,e1,e2]
   unfold Z34 at h
   split at h
   ·split at h
    ·simp at h;exact bin _ h.symm
    ·simp at h;exact bin _ h.symm
    ·split at h
     ·simp at h;exact ptr _ h.symm
     ·simp at h
    ·simp only [Option.map_eq_some_iff] at h
     obtain⟨s,_,rfl⟩:=h
     exact eq _ _ rfl
   ·split at h
    ·simp at h;exact bin _ h.symm
    ·simp at h;exact bin _ h.symm
    ·split at h
     ·simp at h;exact ptr _ h.symm
     ·simp at h
    ·simp only [Option.map_eq_some_iff] at h
     obtain⟨s,_,rfl⟩:=h
     exact eq _ _ rfl
   ·simp at h;exact bin _ h.symm
  ·simp at h
 case unOp uop t y=>
  simp only[Option.map_eq_some_iff] at h
  obtain⟨x,hx,rfl⟩:=h
  simp only[YX,one (by simp[Op.operands]) hx]
 case convert s t y=>
  split at h
  ·rename_i hx;simp at h;subst h;simp only[G9,one (by simp[Op.operands]) hx]
  ·rename_i hx;simp at h;subst h;simp only[Tw,one (by simp[Op.operands]) hx]
  ·rename_i hx;simp at h;subst h;simp only[Tw,one (by simp[Op.operands]) hx]
  ·rename_i hx
   split at h
   ·simp at h;subst h;simp only[MP,one (by simp[Op.operands]) hx]
   ·simp at h;subst h;simp only[MP,one (by simp[Op.operands]) hx]
   ·simp at h
  ·simp at h
 case makeInterface t y=>
  split at h
  ·simp at h
  ·rename_i hx;simp at h;subst h;simp only[VT,one (by simp[Op.operands]) hx]
  ·simp at h
 case makeFunc g first cap=>
  split at h
  ·rename_i h0
   simp only[Option.map_eq_some_iff] at h
   obtain⟨xs,hx,rfl⟩:=h
   simp only[Pj]
   rw[Z1h hx fun t e=>ag t (by simp only[Op.operands,Array.mem_append];exact .inr (by simpa using e))]
  ·simp at h
 case makeSlice t y z=>
  split at h
  ·rename_i h1 h2
   split at h
   ·split at h
    ·simp at h; subst h
     simp only[P9,one (by simp[Op.operands]) h1,one (y:=z) (by simp[Op.operands]) h2]
    ·simp at h
   ·simp at h
  ·simp at h
 case slice t y lo hi mx=>
  have l1:∀ z,lo=some z->z ∈ (Op.slice t y lo hi mx).operands:=by intro z e;subst e;simp[Op.operands]
  have l2:∀ z,hi=some z->z ∈ (Op.slice t y lo hi mx).operands:=by intro z e;subst e;simp[Op.operands]
  have l3:∀ z,mx=some z->z ∈ (Op.slice t y lo hi mx).operands:=by intro z e;subst e;simp[Op.operands]
  split at h
  ·rename_i hx h1 h2 h3
   simp only[Option.map_eq_some_iff] at h
   obtain⟨s,_,rfl⟩:=h
   simp only[DQ,one (y:=y) (by simp[Op.operands]) hx,S0,BN,opt l1 h1,opt l2 h2,opt l3 h3]
  ·rename_i hx h1 h2 h3
   simp at h;subst h
   have h3':∀ n d,EF n tm none d=EF n tm' none d:=fun n d=>rfl
   simp only[Z0o,one (y:=y) (by simp[Op.operands]) hx,WM,BN,opt l1 h1,opt l2 h2,h3']
  ·rename_i hx h1 h2 h3
   simp only[Option.map_eq_some_iff] at h
   obtain⟨s,_,rfl⟩:=h
   simp only[Z0p,one (y:=y) (by simp[Op.operands]) hx,Z1y,BN,opt l1 h1,opt l2 h2,opt l3 h3]
  ·simp at h
 case fieldAddr t y i=>
  split at h
  ·rename_i hx
   split at h
   ·split at h
    ·simp at h
    ·simp at h;subst h;simp only[oA,one (by simp[Op.operands]) hx]
   ·simp at h
  ·simp at h
 case field t y i=>
  split at h
  ·rename_i hx
   split at h
   ·split at h
    ·split at h
     ·simp at h
     ·simp at h;subst h;simp only[EW,one (by simp[Op.operands]) hx]
    ·simp at h
   ·simp at h
  ·simp at h
 case indexAddr t y z=>
  split at h
  ·rename_i h1 h2
   simp only[Option.map_eq_some_iff] at h
   obtain⟨s,_,rfl⟩:=h
   simp only[CW,one (by simp[Op.operands]) h1,one (y:=z) (by simp[Op.operands]) h2]
  ·rename_i h1 h2
   simp only[Option.map_eq_some_iff] at h
   obtain⟨s,_,rfl⟩:=h
   simp only[Fv,one (by simp[Op.operands]) h1,one (y:=z) (by simp[Op.operands]) h2]
  ·simp at h
 case index t y z=>
  split at h
  ·rename_i h1 h2
   split at h
   ·split at h
    ·simp at h
    ·simp at h;subst h;simp only[Z0r,one (by simp[Op.operands]) h1,one (y:=z) (by simp[Op.operands]) h2]
   ·simp at h
  ·rename_i h1 h2
   simp at h;subst h;simp only[Z0s,one (by simp[Op.operands]) h1,one (y:=z) (by simp[Op.operands]) h2]
  ·simp at h
 case typeAssert y u t ok=>
  split at h
  ·simp at h
  ·rename_i hx _
   split at h
   ·simp at h;subst h;simp only[Z6l,one (by simp[Op.operands]) hx]
   ·simp at h
  ·simp at h
 case extract y i=>
  simp only[Option.map_eq_some_iff] at h
  obtain⟨x,hx,rfl⟩:=h
  simp only[VV,one (by simp[Op.operands]) hx]
 case call c=>
  have args:∀ {xs:List Opd},JX c.args.toList=some xs->xs.map (look tm)=xs.map (look tm'):=fun hx=>Z1h hx fun t e=>ag t (by simp only[Op.operands,Call.operands,Array.mem_append];exact .inr (by simpa using e))
  split at h
  ·rename_i f' hx
   simp at h;subst h
   unfold NT at hx
   split at hx
   ·split at hx
    ·rename_i k l _ hl
     simp at hx;subst hx
     simp only[Z6k,args hl]
    ·simp at hx
   ·simp at hx
  unfold FS at h
  split at h
  ·rename_i y hc
   split at h
   ·rename_i x xs h1 h2
    simp at h;subst h
    simp only[oK,args h2,MY h1 fun t e=>ag t (by simp[Op.operands,Call.operands,hc,e])]
   ·simp at h
  ·rename_i b hc
   split at h
   ·rename_i x t ts h1 _
    have e1:look tm x=look tm' x:=by simpa using args h1
    split at h
    ·simp at h;subst h;simp only[VU,e1]
    ·simp at h;subst h;simp only[JQ,e1]
    ·simp at h;subst h;rfl
    ·simp at h
   ·rename_i h1
    simp at h;subst h;simp only[Bj,args h1]
   ·rename_i h1
    simp at h;subst h;simp only[Bj,args h1]
   ·unfold Xj at h
    split at h
    ·rename_i b x t u h1 _
     have e:=args h1
     simp at e
     have app:∀ str s by',f=YQ str s by' b x->f E call tm A nb=f E call tm' A nb:=by
      intro str s by' hf;subst hf;simp only[YQ,e.1,e.2]
     split at h
     ·split at h
      ·split at h
       ·simp at h
       ·split at h
        ·simp at h;exact app _ _ _ h.symm
        ·split at h
         ·simp at h;exact app _ _ _ h.symm
         ·simp at h
        ·simp at h
      ·simp at h
     ·simp at h
    ·simp at h
   ·simp at h
  ·simp at h
theorem Zms {F:Fence}{n:Nat}(hF:Wd F){P:Program}{E:Env}{call:cT}(hok:CallsOk P E call)(hen:EntersOk P E call){o:Oper}{f:ZV}(h:Y5 P o.op=some f){c:Cx}(hrel:Rel c){tm:List AV}{a:Act}(htr:TR c tm a){A:List Blk}{nb:Nat}
  (hX:(Y0 P o.op).isX=true->Agr c A) (hL:∀ y,Y0 P o.op=.L y->∀ x i ver off b,ZQ y=some x->look tm x=.ref i ver off->A[i]? =some b->c.A[i]? =some b) {x:AV} {bs:List Blk} (hd:f E call tm A nb=some (.made x bs))
  {An:List Blk} (h1:∀ i,c.Pr i->An[i]? =c.A[i]?) (h2:∀ i v,ZK c.A i=some v->ZK An i=some v) (h3:∀ j,j<bs.length->An[nb+j]? =bs[j]? /\¬c.Pr (nb+j)) {next:Act->World->Prop} {Q:Exit->Act->World->Prop}
  (ha:∀ X c',Fr c c'->Rel c'->VR c' x X->c'.A=An->(∀ i,c'.Pr i↔(c.Pr i∨(nb<=i/\i<nb+bs.length)))->next (a.put o.dst X) c'.w):o.wpIn F n P a c.w next Q:=by
 have hnd:=Uk h
 have pureCase:(∃ y X,Done.made x bs=.made y []/\(execOp a.eval o).run P c.w=.ok (.value X) c.w/\VR c y X)->o.wpIn F n P a c.w next Q:=by
  rintro⟨y,X,e,hrun,hv⟩
  simp at e
  obtain⟨rfl,rfl⟩:=e
  obtain⟨rel,fr⟩:=hrel.heap h1 h2
  exact GM hF hnd hrun (ha X { c with A:=An } fr rel (hv.mono fr.toExt) rfl (fun i=>by simp;omega))
 have makeCase:(∃ y b,Done.made x bs=.made y [b]/\DH P c a o nb y b)->o.wpIn F n P a c.w next Q:=by
  rintro⟨y,b,e,hm⟩
  simp at e
  obtain⟨rfl,rfl⟩:=e
  obtain⟨g1,g2⟩:=h3 0 (by simp)
  obtain⟨X,c',hrun,fr,rel,hv,hA',hP',_⟩:=hm.done hrel (A:=An) (by simpa using g2) h1 h2 (by simpa using g1)
  refine GM hF hnd hrun (ha X _ fr rel hv hA' (fun i=> ?_))
  rw[hP']
  simp only[List.length_cons,List.length_nil]
  constructor
  ·rintro (h | h)
   ·exact .inl h
   ·exact .inr (by omega)
  ·rintro (h | h)
   ·exact .inl h
   ·exact .inr (by omega)
 rcases VG h with hp | ⟨s,t,y,he⟩ | ⟨t,y,lo,hi,mx,he⟩ | ⟨t,y,he⟩ | ⟨t,y,z,he⟩ | ⟨t,he⟩ | ⟨t,y,he⟩ | ⟨t,n,ps,he⟩ | ⟨t,l,cc,he⟩ | ⟨cl,he,hxt⟩ | ⟨t,y,he⟩ | ⟨y,s,he⟩ | ⟨bo,t,y,z,u,he,x1,x2,e,q1,q2,q3,q4,q5,q6⟩
 ·exact pureCase (hp c tm a E call A nb _ o rfl htr hd)
 ·rw [he] at h hX
  rcases VH h with hp | ⟨x',r,e,hx,rfl,g1,g2,g3⟩
  ·exact pureCase (hp c tm a E call A nb _ o he htr hd)
  ·have agr := hX (by simp [Y0, g1, Kd.isX])
   obtain⟨z,hz,e⟩:=one?_inv hd
   simp at e
   obtain⟨rfl,rfl⟩:=e
   obtain⟨X,hrun,hv⟩:=Z4f (P:=P) hrel htr agr he hx g1 g2 g3 hz
   exact pureCase ⟨x,X,rfl,hrun,hv⟩
 ·rw [he] at h hX
  by_cases hna:∃ n e,P.underlying t=some (.array n e)
  ·obtain ⟨n, e, hu⟩ := hna
   exact pureCase (Z03 (P:=P) hrel htr (hX (by simp[Y0,hu,Kd.isX])) he hu h hd)
  ·exact pureCase (VF (fun n e hu=>hna ⟨n,e,hu⟩) h c tm a E call A nb _ o he htr hd)
 ·rw [he] at h hL
  obtain⟨x',ag,n,hx,g1,g2,rfl⟩:=X9 h
  obtain⟨z,hz,e⟩:=one?_inv hd
  simp at e
  obtain⟨rfl,rfl⟩:=e
  obtain⟨X,hrun,hv⟩:=Z1i (P:=P) hrel htr he hx g1 g2 (fun i ver off b e hb=>hL y rfl x' i ver off b hx e hb) hz
  exact pureCase ⟨x,X,rfl,hrun,hv⟩
 ·rw [he] at h
  obtain⟨p,x',n,hp,hx,g1,rfl⟩:=Z2y h
  simp only[oS] at hd
  cases hst:Nj A (look tm p) (look tm x') n<;>simp[hst,MC] at hd
 ·rw [he] at h
  exact makeCase (Z7g he h hd)
 ·rw [he] at h
  exact makeCase (Z7f he h htr hd)
 ·rw [he] at h
  rcases Z7e he h htr hd with hm | ⟨ds,len,s,e,hm⟩
  ·exact makeCase hm
  ·simp at e
   obtain⟨rfl,rfl⟩:=e
   obtain⟨X,c',hrun,fr,rel,hv,hA',hP'⟩:=hm.imm hrel (A:=An) h1 h2
   exact GM hF hnd hrun (ha X c' fr rel hv hA' (fun i=>by rw[hP'];simp;omega))
 ·rw [he] at h
  exact makeCase (Z7d he h htr hd)
 ·rw [he] at h hX
  simp only[Y5,hxt] at h
  cases hc:cl.callee with
  | value y=>
   have agr:=hX (by simp[Y0,hc,hxt,Kd.isX])
   obtain⟨x',xs,hx,hxs,rfl⟩:=Z33 hc h
   simp only[oK] at hd
   cases ht:target (xs.map (look tm)) (look tm x') with
   | none=>simp[ht,K5] at hd
   | some p=>
    obtain⟨g,as⟩:=p
    simp only[ht,K5] at hd
    obtain⟨cap,hy,hv⟩:=XW (VR.look htr hx) (VR.looks htr hxs) ht
    have hent:=Z20 hen hd
    have hrun:=Z06 (P:=P) (w:=c.w) he hc hy hent
    have hv':VRs c as (cl.args.map a.eval++cap).toList:=by simpa using hv
    rcases Zbt hok hrel htr.1 agr hv' hd with⟨r,bs',e,hm⟩ | ⟨r,A1,e,hm⟩
    ·simp at e
     obtain⟨rfl,rfl⟩:=e
     refine UV hF hnd hrun (hm An h1 h2 h3) ?_
     rintro e w' ⟨X,c',rfl,hw',fr,rel,hvx,hA',hP'⟩
     refine⟨X,rfl,?_⟩
     rw[<-hw']
     exact ha X c' fr rel hvx hA' (fun i=>by rw[hP'])
    ·simp at e
  | builtin b=>
   by_cases hb:b=.append
   ·subst hb
    have agr:=hX (by simp[Y0,hc,Kd.isX])
    rcases Z3h (P:=P) hrel htr agr he hc h hd with hp | hm | ⟨x',X,i,b,w',c',e,_⟩
    ·exact pureCase hp
    ·exact makeCase hm
    ·simp at e
   ·exact pureCase (VJ h ⟨b,hc,hb⟩ c tm a E call A nb _ o he htr hd)
  | invoke r m=>unfold FS at h;rw[hc] at h;simp at h
 ·rw [he] at h
  exact makeCase (Z7c he h htr hd)
 ·rw [he] at h hX
  rcases Z1a (P:=P) hrel htr (hX (by simp[Y0,Kd.isX])) he h hd with hp | ⟨x',X,i,b,w',c',e,_⟩
  ·exact pureCase hp
  ·simp at e
 ·subst q3
  rw[he] at hX
  exact pureCase (Z0h htr (hX (by simp[Y0,q4,Kd.isX])) he q1 q2 q4 q5 q6 hd)
theorem Z6c {P:Program}{o:Oper}{t:TypeId}{y z:Operand}{f:ZV}(he:o.op=.store t y z)(h:Y5 P o.op=some f){E:Env}{call:cT}{tm:List AV}{A:List Blk}{nb:Nat}{d:Done}(hd:f E call tm A nb=some d):
  ∃ p i ver off b0 blk,ZQ y=some p/\look tm p=.ref i ver off/\d=.turned CK (A.set i blk)/\A[i]? =some b0/\blk.ver=b0.ver/\
   ∀(c:Cx) (a:Act),Rel c->TR c tm a->c.A[i]? =some b0->c.Pr i/\∀ {F:Fence} {m:Nat} (_:Wd F) {next:Act->World->Prop} {Q:Exit->Act->World->Prop},
    (∀ c',Fr c c'->Rel c'->c'.A=c.A.set i blk->c'.Pr=c.Pr->next (a.put o.dst undef) c'.w)->o.wpIn F m P a c.w next Q:=by
 have hnd:=Uk h
 rw[he] at h
 obtain⟨p,x,n,hp,hx,g1,rfl⟩:=Z2y h
 simp only[oS] at hd
 cases hst:Nj A (look tm p) (look tm x) n with
 | none=>simp[hst,MC] at hd
 | some A1=>
  simp[hst,MC] at hd;subst hd
  obtain⟨i,ver,off,cs,e1,e2,e3,e4,e5,rfl⟩:=Zbo hst
  refine⟨p,i,ver,off,_,_,hp,e1,rfl,e2,rfl,fun c a hrel htr hb=> ?_⟩
  have hP:=VR.look htr hp
  rw[e1] at hP
  obtain⟨_,hpr⟩:=hP.ref_inv (Rw (MB hb))
  refine⟨hpr,fun {F m} hF {next Q} hn=> ?_⟩
  obtain⟨w',c',hrun,fr,rel,hw',hA',hP',_⟩:=Z4m (P:=P) hrel htr he hp hx g1 e1 hb e3 e4 e5
  subst hw'
  exact Z3s hF hnd hrun (hn c' fr rel hA' hP')
end Go.Aug
