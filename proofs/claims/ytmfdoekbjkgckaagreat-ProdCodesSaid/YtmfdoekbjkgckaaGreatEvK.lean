import Derived.Test.YtmfdoekbjkgckaaGreatEvJ
namespace Go.Aug
open Go
def PG (B:List Blk)(nb:Nat)(bs:List Blk):List Blk:=(B++List.replicate (nb-B.length) Blk.free).take nb++bs++B.drop (nb+bs.length)
theorem SH (B:List Blk)(nb:Nat)(bs:List Blk)(i:Nat):(PG B nb bs)[i]? =if i<nb then(if i<B.length then B[i]? else some .free) else if i<nb+bs.length then bs[i-nb]? else B[i]? :=by
 have hl:((B++List.replicate (nb-B.length) Blk.free).take nb).length=nb:=by simp;omega
 unfold PG
 split
 ·rename_i h
  rw[List.append_assoc,List.getElem?_append_left (by omega),List.getElem?_take_of_lt h]
  split
  ·rename_i h2;rw[List.getElem?_append_left h2]
  ·rename_i h2
   rw[List.getElem?_append_right (by omega),List.getElem?_replicate,if_pos (by omega)]
 ·rename_i h
  split
  ·rename_i h2
   rw[List.append_assoc,List.getElem?_append_right (by omega),hl,List.getElem?_append_left (by omega)]
  ·rename_i h2
   rw[List.getElem?_append_right (by simp;omega)]
   have:((B++List.replicate (nb-B.length) Blk.free).take nb++bs).length=nb+bs.length:=by rw[List.length_append,hl]
   rw[this,List.getElem?_drop]
   congr 1;omega
theorem Z9c {A:List Blk}{i:Nat}(h:A[i]? =some .free):Zk A i=none:=by simp[Zk,h,Blk.ver]
theorem Uj {A:List Blk}{i:Nat}(h:A[i]? =none):Zk A i=none:=by simp[Zk,h]
structure AnOk (c:Cx) (nb:Nat) (bs An:List Blk):Prop where
 old:∀ i,c.Pr i->An[i]? =c.A[i]?
 ver:∀ i v,Zk c.A i=some v->Zk An i=some v
 new:∀ k,k<bs.length->An[nb+k]? =bs[k]?
 abs:∀ i,¬(nb<=i/\i<nb+bs.length)->Zk c.A i=none->Zk An i=none
theorem Zc4 {c:Cx}{nb:Nat}{bs:List Blk}(h1:∀ i,c.Pr i->i<c.A.length)(h2:∀ i,nb<=i->i<nb+bs.length->¬c.Pr i)(h3:∀ i,¬c.Pr i->Zk c.A i=none):AnOk c nb bs (PG c.A nb bs):=by
 have same:∀ i,¬(nb<=i/\i<nb+bs.length)->i<c.A.length->(PG c.A nb bs)[i]? =c.A[i]? :=by
  intro i hi hl
  rw[SH]
  by_cases hn:i<nb
  ·rw[if_pos hn,if_pos hl]
  ·rw[if_neg hn,if_neg (by omega)]
 refine⟨fun i hi=>same i (fun h=>h2 i h.1 h.2 hi) (h1 i hi),fun i v hv=> ?_,fun k hk=> ?_,fun i hi hv=> ?_⟩
 ·have hp : c.Pr i := Classical.byContradiction fun hp => by rw [h3 i hp] at hv; simp at hv
  rw[HE (same i (fun h=>h2 i h.1 h.2 hp) (h1 i hp))]
  exact hv
 ·rw [SH, if_neg (by omega), if_pos (by omega)]
  congr 1;omega
 ·by_cases hl : i < c.A.length
  ·rw[HE (same i hi hl)];exact hv
  ·by_cases hn : i < nb
   ·exact Z9c (by rw[SH,if_pos hn,if_neg hl])
   ·exact Uj (by rw[SH,if_neg hn,if_neg (by omega)];exact List.getElem?_eq_none (by omega))
section
variable {P:Program} {ops:Array Oper} {as:List Nat} {fl:Nat} {ps:List (Nat×Nat)} {E:Env} {call:cT} {T:Nat->List AV} {H:Nat->List Blk}
theorem K5 {A:List Blk}{i:Nat}{b:Blk}(h:A[i]? =some b):i<A.length:=by
 rcases Nat.lt_or_ge i A.length with h' | h'
 ·exact h'
 ·simp[List.getElem?_eq_none h'] at h
theorem Sim.next (hc:Chk P ops as fl ps)(ht:Txt P ops fl ps E call T H){lo:Nat}{c0 c:Cx}{listed:Array Bool}{a:Act}{w:World}{tS:List AV}(hs:Sim ops T H lo c0 listed a w c tS){j:Nat}{y:Oper}(hy:ops[j]? =some y)(hsz:listed.size=ops.size)
  {x:AV} (hx:T (j+1)=YN (T j) y.dst x) {c':Cx} (fr:Fr c c') (rel:Rel c') {X:Value} (hv:VR c' x X)
  (pr:∀ b,c'.Pr b↔(b<(H 0).length∨∃ i,i<ops.size/\Ls (listed.setIfInBounds j true) i/\(H i).length<=b/\b<(H (i+1)).length))
  (abs:∀ b,¬c'.Pr b->Zk c'.A b=none) (has:∀ b,c'.Pr b->b<c'.A.length)
  (con:∀ b t,c'.Pr b->t<=ops.size->b<(H t).length->(∀ d,d<ops.size->C0 H d b->(Ls (listed.setIfInBounds j true) d↔d<t))->c'.A[b]? =(H t)[b]?)
  (tch:∀ d b,d<ops.size->Ls (listed.setIfInBounds j true) d->C0 H d b->c'.Pr b):∃ c2 tS',Sim ops T H lo c0 (listed.setIfInBounds j true) (a.put y.dst X) c'.w c2 tS':=by
 obtain⟨s1,s2,s3⟩:=hs.slots hc ht hy hsz hx
 exact⟨c',YN tS y.dst x,rfl,rel,hs.fr.trans fr,hs.df.imp fun _ m=>m.mono hs.rel fr (M0 _ _ _),TR.put (TR.mono fr.toExt hs.tr) hv,s1,s2,s3,pr,abs,has,con,tch⟩
theorem Sim.made (hc:Chk P ops as fl ps)(ht:Txt P ops fl ps E call T H){lo:Nat}{c0 c:Cx}{listed:Array Bool}{a:Act}{w:World}{tS:List AV}(hs:Sim ops T H lo c0 listed a w c tS){j:Nat}{y:Oper}(hy:ops[j]? =some y)(hsz:listed.size=ops.size)
  (hj:¬Ls listed j) {x:AV} (hx:T (j+1)=YN (T j) y.dst x) {bs:List Blk} (hH:H (j+1)=H j++bs) {c':Cx} (fr:Fr c c') (rel:Rel c') {X:Value} (hv:VR c' x X) (hA:AnOk c (H j).length bs c'.A)
  (hP:∀ i,c'.Pr i↔(c.Pr i∨((H j).length<=i/\i<(H j).length+bs.length))):∃ c2 tS',Sim ops T H lo c0 (listed.setIfInBounds j true) (a.put y.dst X) c'.w c2 tS':=by
 have hjs:=E5 hy
 have hls:∀ {i},Ls (listed.setIfInBounds j true) i↔(Ls listed i∨i=j):=fun {i}=>P2 (by omega)
 have hl1:(H (j+1)).length=(H j).length+bs.length:=by rw[hH];simp
 have noT:∀ b,¬C0 H j b:=fun b h=>h.2 (by rw[hH,List.getElem?_append_left h.1])
 have fresh:∀ i,(H j).length<=i->i<(H j).length+bs.length->¬c.Pr i:=by
  intro i h1 h2 hp
  rcases(hs.pr i).1 hp with h | ⟨k,hk,hkl,h3,h4⟩
  ·have:=ht.mono (Nat.zero_le j) (by omega);omega
  ·rcases Nat.lt_or_ge k j with h | h
   ·have:=ht.mono (i:=k+1) (j:=j) h (by omega);omega
   ·have : k ≠ j := fun e => hj (e ▸ hkl)
    have:=ht.mono (i:=j+1) (j:=k) (by omega) (by omega);omega
 refine hs.next hc ht hy hsz hx fr rel hv (fun b=> ?_) (fun b hb=> ?_) (fun b hb=> ?_) (fun b t hb htn hbt hd=> ?_) (fun d b hd hdl hto=> ?_)
 ·rw [hP, hs.pr]
  constructor
  ·rintro ((h | ⟨k, h1, h2, h3⟩) | h)
   ·exact .inl h
   ·exact .inr ⟨k,h1,hls.2 (.inl h2),h3⟩
   ·exact .inr ⟨j,hjs,hls.2 (.inr rfl),h.1,by omega⟩
  ·rintro (h | ⟨k, h1, h2, h3⟩)
   ·exact .inl (.inl h)
   ·rcases hls.1 h2 with h2 | rfl
    ·exact .inl (.inr ⟨k,h1,h2,h3⟩)
    ·exact .inr ⟨h3.1,by omega⟩
 ·have h1 : ¬ c.Pr b := fun h => hb ((hP b).2 (.inl h))
  exact hA.abs b (fun h=>hb ((hP b).2 (.inr h))) (hs.abs b h1)
 ·rcases (hP b).1 hb with h | h
  ·have hl := hs.has b h
   have h1:=hA.old b h
   rw[List.getElem?_eq_getElem hl] at h1
   exact K5 h1
  ·have h1 := hA.new (b - (H j).length) (by omega)
   rw[List.getElem?_eq_getElem (by omega:b-(H j).length<bs.length),show(H j).length+(b-(H j).length)=b by omega] at h1
   exact K5 h1
 ·have hd':∀ d,d<ops.size->C0 H d b->(Ls listed d↔d<t):=by
   intro d h1 h2
   rw[<-hd d h1 h2,hls]
   constructor
   ·exact .inl
   ·rintro (h | rfl)
    ·exact h
    ·exact absurd h2 (noT b)
  rcases(hP b).1 hb with h | h
  ·rw [hA.old b h]
   exact hs.con b t h htn hbt hd'
  ·have htj:j+1<=t:=by
    rcases Nat.lt_or_ge j t with h' | h'
    ·exact h'
    ·have:=ht.mono h' (by omega);omega
   have h1:=hA.new (b-(H j).length) (by omega)
   rw[show(H j).length+(b-(H j).length)=b by omega] at h1
   rw[h1,ht.stay (i:=j+1) (by omega) htj htn,hH,List.getElem?_append_right h.1]
   intro d hd1 hd2 hto
   exact fresh b h.1 h.2 (hs.tch d b (by omega) ((hd' d (by omega) hto).2 hd2) hto)
 ·rcases hls.1 hdl with h | rfl
  ·exact(hP b).2 (.inl (hs.tch d b hd h hto))
  ·exact absurd hto (noT b)
theorem Nv {t:Nat}:∀ {l:List Operand},Operand.tmp t ∈ l->t ∈ HF l
 | [],h=>by simp at h
 | .tmp u::l,h=>by
  simp only[List.mem_cons,Operand.tmp.injEq] at h
  simp only[HF,List.mem_cons]
  rcases h with h | h
  ·exact .inl h
  ·exact .inr (Nv h)
 | .const v::l,h=>by simp at h;simp only[HF];exact Nv h
 | .func v::l,h=>by simp at h;simp only[HF];exact Nv h
 | .global v::l,h=>by simp at h;simp only[HF];exact Nv h
theorem Z96 {ops:Array Oper}{o:Oper}{g:Option (Nat×Bool)}(hg:KD ops o.guard=some g){tm tm':List AV}(ag:∀ t,t ∈ CZ ops o->ZM tm t=ZM tm' t):BP tm g=BP tm' g:=by
 cases hq:o.guard with
 | none=>rw[hq] at hg;simp[KD] at hg;subst hg;rfl
 | some p=>
  obtain⟨j,b⟩:=p
  rw[hq] at hg
  simp only[KD] at hg
  split at hg
  ·rename_i t hd
   simp at hg;subst hg
   simp only[BP]
   rw[ag t (by simp[CZ,hq,hd])]
  ·simp at hg
end
end Go.Aug
