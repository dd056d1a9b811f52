import Derived.Test.YtmfdoekbjkgckaaGreatEvS
import Derived.Orders
namespace Go.Aug
open Go
theorem HZ {tm tm':List AV}{y:Operand}{x:Opd}(h:Zx y=some x)(ag:∀ t,y=.tmp t->ZM tm t=ZM tm' t):look tm x=look tm' x:=by
 cases y with
 | tmp t=>simp[Zx] at h;subst h;exact ag t rfl
 | const v=>simp only[Zx] at h;split at h<;>simp at h;subst h;rfl
 | func f=>simp[Zx] at h;subst h;rfl
 | global g=>simp[Zx] at h;obtain⟨_,_,rfl⟩:=h;rfl
theorem Zey {tm tm':List AV}(sh:Sh){x:Opd}(h:look tm x=look tm' x):look tm (FP sh x)=look tm' (FP sh x):=by
 unfold FP
 split
 ·rfl
 ·exact h
theorem VH {tm tm':List AV}:∀ {ys:List Operand} {xs:List Opd},Qx ys=some xs->(∀ t,Operand.tmp t ∈ ys->ZM tm t=ZM tm' t)->xs.map (look tm)=xs.map (look tm')
 | [],xs,h,_=>by simp[Qx] at h;subst h;rfl
 | y::ys,xs,h,ag=>by
  simp only[Qx] at h
  split at h
  ·rename_i a b h1 h2
   simp at h;subst h
   simp only[List.map_cons]
   rw[HZ h1 (fun t e=>ag t (by simp[e])),VH h2 (fun t e=>ag t (by simp[e]))]
  ·simp at h
theorem Zis {tm tm':List AV}{y:Option Operand}{x:Option Opd}(h:AQ y=some x)(ag:∀ t,y=some (.tmp t)->ZM tm t=ZM tm' t)(n d:Nat):CP n tm x d=CP n tm' x d:=by
 cases y with
 | none=>simp[AQ] at h;subst h;rfl
 | some y=>
  simp only[AQ] at h
  cases hy:Zx y with
  | none=>simp[hy] at h
  | some z=>
   simp[hy] at h;subst h
   simp only[CP]
   rw[HZ hy (fun t e=>ag t (by simp[e]))]
theorem W2 {tm tm':List AV}{place:Nat->Option (Nat×Nat)}:∀ {ys:List (Nat×Operand)} {xs:List (Nat×Nat×Opd)},D9 place ys=some xs->(∀ t,Operand.tmp t ∈ ys.map (·.2)->ZM tm t=ZM tm' t)->∀ cs,JJ tm cs xs=JJ tm' cs xs
 | [],xs,h,_,cs=>by simp[D9] at h;subst h;rfl
 | (i,y)::ys,xs,h,ag,cs=>by
  simp only[D9] at h
  split at h
  ·rename_i o s x r h1 h2 h3
   simp at h;subst h
   simp only[JJ]
   rw[HZ h2 (fun t e=>ag t (by simp[e]))]
   split
   ·exact W2 h3 (fun t e=>ag t (by simp only[List.map_cons,List.mem_cons];exact .inr e)) _
   ·rfl
  ·simp at h
theorem Zd6 {P:Program}{op:Op}{f:Zw}(h:ZN P op=some f){tm tm':List AV}(ag:∀ t,Operand.tmp t ∈ op.operands->ZM tm t=ZM tm' t)(E:Env)(call:cT)(A:List Blk)(nb:Nat):
  f E call tm A nb=f E call tm' A nb:=by
 have one:∀ {y:Operand} {x:Opd},y ∈ op.operands->Zx y=some x->look tm x=look tm' x:=fun hy hx=>HZ hx fun t e=>ag t (e ▸ hy)
 have opt:∀ {y:Option Operand} {x:Option Opd},(∀ z,y=some z->z ∈ op.operands)->AQ y=some x->∀ n d,CP n tm x d=CP n tm' x d:=fun hy hx=>Zis hx fun t e=>ag t (hy _ e)
 cases op<;>simp only[ZN] at h<;>try (simp at h;done)
 case move y=> 
  simp only[Option.map_eq_some_iff] at h
  obtain⟨x,hx,rfl⟩:=h
  simp only[oV,one (by simp[Op.operands]) hx]
 case assign y=>
  simp only[Option.map_eq_some_iff] at h
  obtain⟨x,hx,rfl⟩:=h
  simp only[oV,one (by simp[Op.operands]) hx]
 case pick c a b=>
  split at h
  ·rename_i c' a' b' h1 h2 h3
   simp at h;subst h
   have e1:=one (by simp[Op.operands]) h1
   have e2:=one (by simp[Op.operands]) h2
   have e3:=one (by simp[Op.operands]) h3
   simp only[QE,e1]
   unfold PJ
   split<;>simp only[e2,e3]
  ·simp at h
 case alloc t=>
  split at h
  ·simp only [Option.map_eq_some_iff] at h
   obtain⟨x,hx,rfl⟩:=h
   rfl
  ·simp at h
 case range t y=>
  split at h
  ·rename_i x h1 h2
   simp at h;subst h
   simp only[SS,one (by simp[Op.operands]) h2]
  ·simp at h
 case next y s=>
  split at h
  ·simp only [Option.map_eq_some_iff] at h
   obtain⟨x,hx,rfl⟩:=h
   simp only[ST,one (by simp[Op.operands]) hx]
  ·simp at h
 case box t y=>
  split at h
  ·simp only [Option.map_eq_some_iff] at h
   obtain⟨x,hx,rfl⟩:=h
   simp only[Y0,one (by simp[Op.operands]) hx]
  ·simp at h
 case build t ps=>
  have key:∀ {place:Nat->Option (Nat×Nat)} {xs:List (Nat×Nat×Opd)},D9 place ps.toList=some xs->∀ cs,JJ tm cs xs=JJ tm' cs xs:=fun hx=>W2 hx fun t e=>ag t (by simpa [Op.operands] using e)
  split at h
  ·split at h
   ·split at h
    ·rename_i h4
     simp at h;subst h
     simp only[Qq,key h4]
    ·simp at h
   ·simp at h
  ·split at h
   ·split at h
    ·rename_i h4
     simp at h;subst h
     simp only[Qq,key h4]
    ·simp at h
   ·simp at h
  ·simp at h
 case buildSlice t n ps=>
  split at h
  ·split at h
   ·split at h
    ·simp only [Option.map_eq_some_iff] at h
     obtain⟨xs,hx,rfl⟩:=h
     simp only[Y2]
     rw[W2 hx fun t e=>ag t (by simpa [Op.operands] using e)]
    ·simp at h
   ·simp at h
  ·simp at h
 case load t y=>
  split at h
  ·rename_i a ag' s h1 h2 h3
   simp at h;subst h
   simp only[oL,one (by simp[Op.operands]) h1]
  ·simp at h
 case store t y z=>
  split at h
  ·rename_i a x s h1 h2 h3
   simp at h;subst h
   simp only[oS,one (by simp[Op.operands]) h1,one (y:=z) (by simp[Op.operands]) h2]
  ·simp at h
 case nilCheck y=>
  simp only[Option.map_eq_some_iff] at h
  obtain⟨x,hx,rfl⟩:=h
  simp only[Jq,one (by simp[Op.operands]) hx]
 case binOp bop t y z u=>
  split at h
  ·rename_i x1 x2 h1 h2
   have e1:=one (by simp[Op.operands]) h1
   have e2:=one (y:=z) (by simp[Op.operands]) h2
   have bin:∀ b,f=oB b x1 x2->f E call tm A nb=f E call tm' A nb:=by
    intro b e;subst e;simp only[oB,e1,e2]
   have eq:∀ b s,f=GR b s x1 (FP s x2)->f E call tm A nb=f E call tm' A nb:=by
    intro b s e;subst e;simp only[GR,e1,Zey s e2]
   have ptr:∀ b,f=GQ b x1 x2->f E call tm A nb=f E call tm' A nb:=by
    intro b e;subst e;simp only[GQ,e1,e2]
   unfold WY at h
   split at h
   ·split at h
    ·simp at h;exact bin _ h.symm
    ·simp at h;exact bin _ h.symm
    ·split at h
     ·simp at h;exact ptr _ h.symm
     ·simp at h
    ·simp only [Option.map_eq_some_iff] at h
     obtain⟨s,_,rfl⟩:=h
     exact eq _ _ rfl
   ·split at h
    ·simp at h;exact bin _ h.symm
    ·simp at h;exact bin _ h.symm
    ·split at h
     ·simp at h;exact ptr _ h.symm
     ·simp at h
    ·simp only [Option.map_eq_some_iff] at h
     obtain⟨s,_,rfl⟩:=h
     exact eq _ _ rfl
   ·simp at h;exact bin _ h.symm
  ·simp at h
 case unOp uop t y=>
  simp only[Option.map_eq_some_iff] at h
  obtain⟨x,hx,rfl⟩:=h
  simp only[AG,one (by simp[Op.operands]) hx]
 case convert s t y=>
  split at h
  ·rename_i hx;simp at h;subst h;simp only[D2,one (by simp[Op.operands]) hx]
  ·rename_i hx;simp at h;subst h;simp only[PT,one (by simp[Op.operands]) hx]
  ·rename_i hx;simp at h;subst h;simp only[PT,one (by simp[Op.operands]) hx]
  ·rename_i hx
   split at h
   ·simp at h;subst h;simp only[EV,one (by simp[Op.operands]) hx]
   ·simp at h;subst h;simp only[EV,one (by simp[Op.operands]) hx]
   ·simp at h
  ·simp at h
 case makeInterface t y=>
  split at h
  ·simp at h
  ·rename_i hx;simp at h;subst h;simp only[Nq,one (by simp[Op.operands]) hx]
  ·simp at h
 case makeFunc g first cap=>
  split at h
  ·rename_i h0
   simp only[Option.map_eq_some_iff] at h
   obtain⟨xs,hx,rfl⟩:=h
   simp only[PS]
   rw[VH hx fun t e=>ag t (by simp only[Op.operands,Array.mem_append];exact .inr (by simpa using e))]
  ·simp at h
 case makeSlice t y z=>
  split at h
  ·rename_i h1 h2
   split at h
   ·split at h
    ·simp at h; subst h
     simp only[M3,one (by simp[Op.operands]) h1,one (y:=z) (by simp[Op.operands]) h2]
    ·simp at h
   ·simp at h
  ·simp at h
 case slice t y lo hi mx=>
  have l1:∀ z,lo=some z->z ∈ (Op.slice t y lo hi mx).operands:=by intro z e;subst e;simp[Op.operands]
  have l2:∀ z,hi=some z->z ∈ (Op.slice t y lo hi mx).operands:=by intro z e;subst e;simp[Op.operands]
  have l3:∀ z,mx=some z->z ∈ (Op.slice t y lo hi mx).operands:=by intro z e;subst e;simp[Op.operands]
  split at h
  ·rename_i hx h1 h2 h3
   simp only[Option.map_eq_some_iff] at h
   obtain⟨s,_,rfl⟩:=h
   simp only[GN,one (y:=y) (by simp[Op.operands]) hx,NG,JX,opt l1 h1,opt l2 h2,opt l3 h3]
  ·rename_i hx h1 h2 h3
   simp at h;subst h
   have h3':∀ n d,CP n tm none d=CP n tm' none d:=fun n d=>rfl
   simp only[V6,one (y:=y) (by simp[Op.operands]) hx,TD,JX,opt l1 h1,opt l2 h2,h3']
  ·rename_i hx h1 h2 h3
   simp only[Option.map_eq_some_iff] at h
   obtain⟨s,_,rfl⟩:=h
   simp only[PQ,one (y:=y) (by simp[Op.operands]) hx,R4,JX,opt l1 h1,opt l2 h2,opt l3 h3]
  ·simp at h
 case fieldAddr t y i=>
  split at h
  ·rename_i hx
   split at h
   ·split at h
    ·simp at h
    ·simp at h;subst h;simp only[oA,one (by simp[Op.operands]) hx]
   ·simp at h
  ·simp at h
 case field t y i=>
  split at h
  ·rename_i hx
   split at h
   ·split at h
    ·split at h
     ·simp at h
     ·simp at h;subst h;simp only[GP,one (by simp[Op.operands]) hx]
    ·simp at h
   ·simp at h
  ·simp at h
 case indexAddr t y z=>
  split at h
  ·rename_i h1 h2
   simp only[Option.map_eq_some_iff] at h
   obtain⟨s,_,rfl⟩:=h
   simp only[C5,one (by simp[Op.operands]) h1,one (y:=z) (by simp[Op.operands]) h2]
  ·rename_i h1 h2
   simp only[Option.map_eq_some_iff] at h
   obtain⟨s,_,rfl⟩:=h
   simp only[DE,one (by simp[Op.operands]) h1,one (y:=z) (by simp[Op.operands]) h2]
  ·simp at h
 case index t y z=>
  split at h
  ·rename_i h1 h2
   split at h
   ·split at h
    ·simp at h
    ·simp at h;subst h;simp only[V8,one (by simp[Op.operands]) h1,one (y:=z) (by simp[Op.operands]) h2]
   ·simp at h
  ·rename_i h1 h2
   simp at h;subst h;simp only[V9,one (by simp[Op.operands]) h1,one (y:=z) (by simp[Op.operands]) h2]
  ·simp at h
 case typeAssert y u t ok=>
  split at h
  ·simp at h
  ·rename_i hx _
   split at h
   ·simp at h;subst h;simp only[Z26,one (by simp[Op.operands]) hx]
   ·simp at h
  ·simp at h
 case extract y i=>
  simp only[Option.map_eq_some_iff] at h
  obtain⟨x,hx,rfl⟩:=h
  simp only[SV,one (by simp[Op.operands]) hx]
 case call c=>
  have args:∀ {xs:List Opd},Qx c.args.toList=some xs->xs.map (look tm)=xs.map (look tm'):=fun hx=>VH hx fun t e=>ag t (by simp only[Op.operands,Call.operands,Array.mem_append];exact .inr (by simpa using e))
  split at h
  ·rename_i f' hx
   simp at h;subst h
   unfold KP at hx
   split at hx
   ·split at hx
    ·rename_i k l _ hl
     simp at hx;subst hx
     simp only[Z25,args hl]
    ·simp at hx
   ·simp at hx
  unfold BZ at h
  split at h
  ·rename_i y hc
   split at h
   ·rename_i x xs h1 h2
    simp at h;subst h
    simp only[oK,args h2,HZ h1 fun t e=>ag t (by simp[Op.operands,Call.operands,hc,e])]
   ·simp at h
  ·rename_i b hc
   split at h
   ·rename_i x t ts h1 _
    have e1:look tm x=look tm' x:=by simpa using args h1
    split at h
    ·simp at h;subst h;simp only[SU,e1]
    ·simp at h;subst h;simp only[BS,e1]
    ·simp at h;subst h;rfl
    ·simp at h
   ·rename_i h1
    simp at h;subst h;simp only[D1,args h1]
   ·rename_i h1
    simp at h;subst h;simp only[D1,args h1]
   ·unfold TX at h
    split at h
    ·rename_i b x t u h1 _
     have e:=args h1
     simp at e
     have app:∀ str s by',f=Y5 str s by' b x->f E call tm A nb=f E call tm' A nb:=by
      intro str s by' hf;subst hf;simp only[Y5,e.1,e.2]
     split at h
     ·split at h
      ·split at h
       ·simp at h
       ·split at h
        ·simp at h;exact app _ _ _ h.symm
        ·split at h
         ·simp at h;exact app _ _ _ h.symm
         ·simp at h
        ·simp at h
      ·simp at h
     ·simp at h
    ·simp at h
   ·unfold TW at h
    split at h
    ·rename_i x t h1 _
     have e:=args h1
     simp at e
     split at h
     ·split at h
      ·split at h
       ·simp at h
       ·simp at h;subst h;simp only[SW,e]
      ·simp at h
     ·simp at h
    ·simp at h
   ·simp at h
  ·simp at h
theorem Zd5 {F:Fence}{n:Nat}(hF:Wd F){P:Program}{E:Env}{call:cT}(hok:CallsOk P E call)(hen:EntersOk P E call){o:Oper}{f:Zw}(h:ZN P o.op=some f){c:Cx}(hrel:Rel c){tm:List AV}{a:Act}(htr:TR c tm a){A:List Blk}{nb:Nat}
  (hX:(ZH P o.op).isX=true->Agr c A) (hL:∀ y,ZH P o.op=.L y->∀ x i ver off b,Zx y=some x->look tm x=.ref i ver off->A[i]? =some b->c.A[i]? =some b) {x:AV} {bs:List Blk} (hd:f E call tm A nb=some (.made x bs))
  {An:List Blk} (h1:∀ i,c.Pr i->An[i]? =c.A[i]?) (h2:∀ i v,Zk c.A i=some v->Zk An i=some v) (h3:∀ j,j<bs.length->An[nb+j]? =bs[j]? /\¬c.Pr (nb+j)) {next:Act->World->Prop} {Q:Exit->Act->World->Prop}
  (ha:∀ X c',Fr c c'->Rel c'->VR c' x X->c'.A=An->(∀ i,c'.Pr i↔(c.Pr i∨(nb<=i/\i<nb+bs.length)))->next (a.put o.dst X) c'.w):o.wpIn F n P a c.w next Q:=by
 have hnd:=RD h
 have pureCase:(∃ y X,Done.made x bs=.made y []/\(execOp a.eval o).run P c.w=.ok (.value X) c.w/\VR c y X)->o.wpIn F n P a c.w next Q:=by
  rintro⟨y,X,e,hrun,hv⟩
  simp at e
  obtain⟨rfl,rfl⟩:=e
  obtain⟨rel,fr⟩:=hrel.heap h1 h2
  exact EH hF hnd hrun (ha X { c with A:=An } fr rel (hv.mono fr.toExt) rfl (fun i=>by simp;omega))
 have makeCase:(∃ y b,Done.made x bs=.made y [b]/\BJ P c a o nb y b)->o.wpIn F n P a c.w next Q:=by
  rintro⟨y,b,e,hm⟩
  simp at e
  obtain⟨rfl,rfl⟩:=e
  obtain⟨g1,g2⟩:=h3 0 (by simp)
  obtain⟨X,c',hrun,fr,rel,hv,hA',hP',_⟩:=hm.done hrel (A:=An) (by simpa using g2) h1 h2 (by simpa using g1)
  refine EH hF hnd hrun (ha X _ fr rel hv hA' (fun i=> ?_))
  rw[hP']
  simp only[List.length_cons,List.length_nil]
  constructor
  ·rintro (h | h)
   ·exact .inl h
   ·exact .inr (by omega)
  ·rintro (h | h)
   ·exact .inl h
   ·exact .inr (by omega)
 rcases SK h with hp | ⟨s,t,y,he⟩ | ⟨t,y,lo,hi,mx,he⟩ | ⟨t,y,he⟩ | ⟨t,y,z,he⟩ | ⟨t,he⟩ | ⟨t,y,he⟩ | ⟨t,n,ps,he⟩ | ⟨t,l,cc,he⟩ | ⟨cl,he,hxt⟩ | ⟨t,y,he⟩ | ⟨y,s,he⟩ | ⟨bo,t,y,z,u,he,x1,x2,e,q1,q2,q3,q4,q5,q6⟩
 ·exact pureCase (hp c tm a E call A nb _ o rfl htr hd)
 ·rw [he] at h hX
  rcases SM h with hp | ⟨x',r,e,hx,rfl,g1,g2,g3⟩
  ·exact pureCase (hp c tm a E call A nb _ o he htr hd)
  ·have agr := hX (by simp [ZH, g1, Kd.isX])
   obtain⟨z,hz,e⟩:=one?_inv hd
   simp at e
   obtain⟨rfl,rfl⟩:=e
   obtain⟨X,hrun,hv⟩:=Z00 (P:=P) hrel htr agr he hx g1 g2 g3 hz
   exact pureCase ⟨x,X,rfl,hrun,hv⟩
 ·rw [he] at h hX
  by_cases hna:∃ n e,P.underlying t=some (.array n e)
  ·obtain ⟨n, e, hu⟩ := hna
   exact pureCase (UH (P:=P) hrel htr (hX (by simp[ZH,hu,Kd.isX])) he hu h hd)
  ·exact pureCase (SJ (fun n e hu=>hna ⟨n,e,hu⟩) h c tm a E call A nb _ o he htr hd)
 ·rw [he] at h hL
  obtain⟨x',ag,n,hx,g1,g2,rfl⟩:=TV h
  obtain⟨z,hz,e⟩:=one?_inv hd
  simp at e
  obtain⟨rfl,rfl⟩:=e
  obtain⟨X,hrun,hv⟩:=VJ (P:=P) hrel htr he hx g1 g2 (fun i ver off b e hb=>hL y rfl x' i ver off b hx e hb) hz
  exact pureCase ⟨x,X,rfl,hrun,hv⟩
 ·rw [he] at h
  obtain⟨p,x',n,hp,hx,g1,rfl⟩:=WS h
  simp only[oS] at hd
  cases hst:GX A (look tm p) (look tm x') n<;>simp[hst,EQ] at hd
 ·rw [he] at h
  exact makeCase (Z2w he h hd)
 ·rw [he] at h
  exact makeCase (Z2v he h htr hd)
 ·rw [he] at h
  rcases Z2u he h htr hd with hm | ⟨ds,len,s,e,hm⟩
  ·exact makeCase hm
  ·simp at e
   obtain⟨rfl,rfl⟩:=e
   obtain⟨X,c',hrun,fr,rel,hv,hA',hP'⟩:=hm.imm hrel (A:=An) h1 h2
   exact EH hF hnd hrun (ha X c' fr rel hv hA' (fun i=>by rw[hP'];simp;omega))
 ·rw [he] at h
  exact makeCase (Z2t he h htr hd)
 ·rw [he] at h hX
  simp only[ZN,hxt] at h
  cases hc:cl.callee with
  | value y=>
   have agr:=hX (by simp[ZH,hc,hxt,Kd.isX])
   obtain⟨x',xs,hx,hxs,rfl⟩:=WX hc h
   simp only[oK] at hd
   cases ht:target (xs.map (look tm)) (look tm x') with
   | none=>simp[ht,Gz] at hd
   | some p=>
    obtain⟨g,as⟩:=p
    simp only[ht,Gz] at hd
    obtain⟨cap,hy,hv⟩:=UA (VR.look htr hx) (VR.looks htr hxs) ht
    have hent:=W9 hen hd
    have hrun:=UM (P:=P) (w:=c.w) he hc hy hent
    have hv':VRs c as (cl.args.map a.eval++cap).toList:=by simpa using hv
    rcases Z5l hok hrel htr.1 agr hv' hd with⟨r,bs',e,hm⟩ | ⟨r,A1,e,hm⟩
    ·simp at e
     obtain⟨rfl,rfl⟩:=e
     refine RX hF hnd hrun (hm An h1 h2 h3) ?_
     rintro e w' ⟨X,c',rfl,hw',fr,rel,hvx,hA',hP'⟩
     refine⟨X,rfl,?_⟩
     rw[<-hw']
     exact ha X c' fr rel hvx hA' (fun i=>by rw[hP'])
    ·simp at e
  | builtin b=>
   by_cases hb:b=.append∨b=.clear
   ·have agr := hX (by rcases hb with rfl | rfl <;> simp [ZH, hc, Kd.isX])
    rcases Xx (P:=P) hrel htr agr he hc hb h hd with hp | hm | ⟨x',X,i,b,w',c',e,_⟩
    ·exact pureCase hp
    ·exact makeCase hm
    ·simp at e
   ·exact pureCase (SN h ⟨b,hc,hb⟩ c tm a E call A nb _ o he htr hd)
  | invoke r m=>unfold BZ at h;rw[hc] at h;simp at h
 ·rw [he] at h
  exact makeCase (Z2s he h htr hd)
 ·rw [he] at h hX
  rcases Vv (P:=P) hrel htr (hX (by simp[ZH,Kd.isX])) he h hd with hp | ⟨x',X,i,b,w',c',e,_⟩
  ·exact pureCase hp
  ·simp at e
 ·subst q3
  rw[he] at hX
  exact pureCase (UV htr (hX (by simp[ZH,q4,Kd.isX])) he q1 q2 q4 q5 q6 hd)
theorem Z1x {P:Program}{o:Oper}{t:TypeId}{y z:Operand}{f:Zw}(he:o.op=.store t y z)(h:ZN P o.op=some f){E:Env}{call:cT}{tm:List AV}{A:List Blk}{nb:Nat}{d:Done}(hd:f E call tm A nb=some d):
  ∃ p i ver off b0 blk,Zx y=some p/\look tm p=.ref i ver off/\d=.turned AR (A.set i blk)/\A[i]? =some b0/\blk.ver=b0.ver/\
   ∀(c:Cx) (a:Act),Rel c->TR c tm a->c.A[i]? =some b0->c.Pr i/\∀ {F:Fence} {m:Nat} (_:Wd F) {next:Act->World->Prop} {Q:Exit->Act->World->Prop},
    (∀ c',Fr c c'->Rel c'->c'.A=c.A.set i blk->c'.Pr=c.Pr->next (a.put o.dst undef) c'.w)->o.wpIn F m P a c.w next Q:=by
 have hnd:=RD h
 rw[he] at h
 obtain⟨p,x,n,hp,hx,g1,rfl⟩:=WS h
 simp only[oS] at hd
 cases hst:GX A (look tm p) (look tm x) n with
 | none=>simp[hst,EQ] at hd
 | some A1=>
  simp[hst,EQ] at hd;subst hd
  obtain⟨i,ver,off,cs,e1,e2,e3,e4,e5,rfl⟩:=W6 hst
  refine⟨p,i,ver,off,_,_,hp,e1,rfl,e2,rfl,fun c a hrel htr hb=> ?_⟩
  have hP:=VR.look htr hp
  rw[e1] at hP
  obtain⟨_,hpr⟩:=hP.ref_inv (KS (Fv hb))
  refine⟨hpr,fun {F m} hF {next Q} hn=> ?_⟩
  obtain⟨w',c',hrun,fr,rel,hw',hA',hP',_⟩:=Z06 (P:=P) hrel htr he hp hx g1 e1 hb e3 e4 e5
  subst hw'
  exact XD hF hnd hrun (hn c' fr rel hA' hP')
end Go.Aug
