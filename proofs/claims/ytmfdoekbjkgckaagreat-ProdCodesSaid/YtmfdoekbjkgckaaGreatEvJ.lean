import Derived.Test.YtmfdoekbjkgckaaGreatEvG
namespace Go.Aug
open Go
section
variable {P:Program} {ops:Array Oper} {as:List Nat} {fl:Nat} {ps:List (Nat×Nat)} {E:Env} {call:cT} {T:Nat->List AV} {H:Nat->List Blk}
structure Txt (P:Program) (ops:Array Oper) (fl:Nat) (ps:List (Nat×Nat)) (E:Env) (call:cT) (T:Nat->List AV) (H:Nat->List Blk):Prop where
  step:∀ {j:Nat} {y:Oper},ops[j]? =some y->∃ s,H4 P ops y=some s/\KM E call (C8 fl j (ZH P y.op)) s (T j) (H j) (T (j+1)) (H (j+1))
  keep:∀ {i j:Nat},BT i j ps=true->EY P ops i=true->∃ b,QP P ops j=some b/\DM (H i) (H (i+1)) (look (T ops.size) b)=true
  apart:∀ {i j:Nat},BT i j ps=true->EY P ops i=false->∃ a b,QP P ops i=some a/\QP P ops j=some b/\FN (look (T ops.size) a) (look (T ops.size) b)=true
def C0 (H:Nat->List Blk)(d b:Nat):Prop:=b<(H d).length/\(H (d+1))[b]? ≠(H d)[b]?
theorem Q7 {j:Nat}(h:j<ops.size):ops[j]? =some ops[j]:=Array.getElem?_eq_getElem h
theorem E5 {j:Nat}{y:Oper}(h:ops[j]? =some y):j<ops.size:=(Array.getElem?_eq_some_iff.1 h).1
theorem KM.len {fg:Fl}{s:Stp}{tm tm':List AV}{A A':List Blk}(h:KM E call fg s tm A tm' A'):tm'.length=tm.length/\A.length<=A'.length:=by
  rcases h with⟨_,rfl,rfl⟩ | ⟨_,⟨x,bs,_,_,rfl,rfl⟩ | ⟨_,h,x,_,rfl⟩⟩
  · exact⟨S9 _ _ _,Nat.le_refl _⟩
  · exact⟨S9 _ _ _,by simp⟩
  · exact⟨S9 _ _ _,h⟩
theorem KM.slot {fg:Fl}{s:Stp}{tm tm':List AV}{A A':List Blk}(h:KM E call fg s tm A tm' A'):∃ x,tm'=YN tm s.dst x:=by
  rcases h with⟨_,rfl,rfl⟩ | ⟨_,⟨x,bs,_,_,rfl,rfl⟩ | ⟨_,h,x,_,rfl⟩⟩
  · exact⟨_,rfl⟩
  · exact⟨_,rfl⟩
  · exact⟨_,rfl⟩
theorem Txt.len (ht:Txt P ops fl ps E call T H):∀ {j:Nat},j<=ops.size->(T j).length=(T 0).length
  | 0,_=>rfl
  | j + 1, h => by
    obtain⟨s,_,hs⟩:=ht.step (Q7 (by omega:j<ops.size))
    rw[hs.len.1,ht.len (by omega)]
theorem Txt.mono (ht:Txt P ops fl ps E call T H){i:Nat}:∀ {j:Nat},i<=j->j<=ops.size->(H i).length<=(H j).length
  | 0, h, _ => by have : i = 0 := by omega
                  subst this;exact Nat.le_refl _
  | j + 1, h, hj => by
    rcases Nat.lt_or_eq_of_le h with h' | h'
    · obtain ⟨s, _, hs⟩ := ht.step (Q7 (by omega : j < ops.size))
      exact Nat.le_trans (ht.mono (by omega) (by omega)) hs.len.2
    · subst h';exact Nat.le_refl _
theorem Txt.slot (ht:Txt P ops fl ps E call T H){t i:Nat}:∀ {j:Nat},i<=j->j<=ops.size->(∀ k y,i<=k->k<j->ops[k]? =some y->y.dst≠some t)->ZM (T j) t=ZM (T i) t
  | 0, h, _, _ => by have : i = 0 := by omega
                     subst this;rfl
  | j + 1, h, hj, hn => by
    rcases Nat.lt_or_eq_of_le h with h' | h'
    · have hy := Q7 (by omega : j < ops.size)
      obtain⟨s,hs1,hs⟩:=ht.step hy
      obtain⟨x,hx⟩:=hs.slot
      rw[hx,Vx _ _ (by rw[(NQ hs1).2.2];exact hn j _ (by omega) (by omega) hy)]
      exact ht.slot (by omega) (by omega) fun k y h1 h2 h3=>hn k y h1 (by omega) h3
    · subst h';rfl
theorem stay {b i:Nat}:∀ {j:Nat},(∀ k,i<=k->k<=j->b<(H k).length)->i<=j->(∀ d,i<=d->d<j->¬C0 H d b)->(H j)[b]? =(H i)[b]?
  | 0, _, h, _ => by have : i = 0 := by omega
                     subst this;rfl
  | j + 1, hb, h, hn => by
    rcases Nat.lt_or_eq_of_le h with h' | h'
    · have h1 := hn j (by omega) (by omega)
      have h2:(H (j+1))[b]? =(H j)[b]? :=Classical.byContradiction fun he=>h1 ⟨hb j (by omega) (by omega),he⟩
      rw[h2]
      exact stay (fun k h1 h2=>hb k h1 (by omega)) (by omega) fun d h1 h2=>hn d h1 (by omega)
    · subst h';rfl
theorem Txt.stay (ht:Txt P ops fl ps E call T H){b i j:Nat}(hb:b<(H i).length)(h:i<=j)(hj:j<=ops.size)(hn:∀ d,i<=d->d<j->¬C0 H d b):(H j)[b]? =(H i)[b]? :=
  Aug.stay (fun k h1 h2=>Nat.lt_of_lt_of_le hb (ht.mono h1 (by omega))) h hn
theorem Txt.touch (ht:Txt P ops fl ps E call T H){d b:Nat}{y:Oper}(hy:ops[d]? =some y)(h:C0 H d b):C8 fl d (ZH P y.op)=.any∨C8 fl d (ZH P y.op)=.tn:=by
  obtain⟨s,_,hs⟩:=ht.step hy
  rcases hs with⟨_,_,h2⟩ | ⟨_,⟨x,bs,_,_,_,h2⟩ | ⟨h1,_⟩⟩
  · exact absurd (by rw[h2]) h.2
  · exact absurd (by rw[h2,List.getElem?_append_left h.1]) h.2
  · exact h1
theorem Txt.brings (ht:Txt P ops fl ps E call T H){i b:Nat}{y:Oper}(hy:ops[i]? =some y)(h1:(H i).length<=b)(h2:b<(H (i+1)).length):(ZH P y.op).isP=false:=by
  obtain⟨s,_,hs⟩:=ht.step hy
  cases hk:ZH P y.op with
  | P =>
    rw[hk] at hs
    rcases hs with⟨_,_,h3⟩ | ⟨_,⟨x,bs,_,hb,_,h3⟩ | ⟨h3,_⟩⟩
    · rw[h3] at h2;omega
    · have := hb rfl
      subst this
      rw[h3] at h2;simp at h2;omega
    · simp[C8] at h3
  | _=>rfl
theorem Txt.origin (ht:Txt P ops fl ps E call T H){b:Nat}:∀ {j:Nat},j<=ops.size->b<(H j).length->b<(H 0).length∨∃ i,i<j/\(H i).length<=b/\b<(H (i+1)).length
  | 0,_,h=>.inl h
  | j + 1, hj, h => by
    by_cases hb:b<(H j).length
    · rcases ht.origin (by omega) hb with h1 | ⟨i, h1, h2⟩
      · exact .inl h1
      · exact .inr ⟨i,by omega,h2⟩
    · exact .inr ⟨j,by omega,by omega,h⟩
theorem Chk.any (h:Chk P ops as fl ps){d j:Nat}{x y:Oper}(hne:d≠j)(hx:ops[d]? =some x)(hy:ops[j]? =some y)(hd:C8 fl d (ZH P x.op)=.any∨C8 fl d (ZH P x.op)=.tn)(hj:(ZH P y.op).isP=false):
    (d<j/\CC as d j)∨(j<d/\CC as j d)∨((∃ a,ZH P x.op=.S a)/\(ZH P y.op=.M∨∃ b,ZH P y.op=.L b/\BT d j ps=true))∨(ZH P x.op=.X/\F1 fl d=true/\ZH P y.op=.M/\d<j)∨(ZH P x.op=.X/\(∃ b,ZH P y.op=.L b)/\BT d j ps=true):=by
  rcases Nat.lt_or_gt_of_ne hne with hlt | hlt
  · by_cases ho : CC as d j
    · exact .inl ⟨hlt,ho⟩
    · have := h.kd hlt hx hy ho
      revert this hd hj
      cases hT:F1 fl d<;>cases hM:D8 fl d<;>cases ZH P x.op<;>cases ZH P y.op<;>simp[Tj,C8,Kd.isP,hT,hM]<;>intros<;>simp_all [D8,F1]
  · by_cases ho : CC as j d
    · exact .inr (.inl ⟨hlt,ho⟩)
    · have := h.kd hlt hy hx ho
      revert this hd hj
      cases hT:F1 fl d<;>cases hM:D8 fl d<;>cases ZH P x.op<;>cases ZH P y.op<;>simp[Tj,C8,Kd.isP,hT,hM]<;>intros<;>simp_all [D8,F1]
structure Sim (ops:Array Oper) (T:Nat->List AV) (H:Nat->List Blk) (lo:Nat) (c0:Cx) (listed:Array Bool) (a:Act) (w:World) (c:Cx) (tS:List AV):Prop where
  eqw:c.w=w
  rel:Rel c
  fr:Fr c0 c
  df:∃ Ds,Marks lo c a Ds
  tr:TR c tS a
  tlen:tS.length=(T 0).length
  tin:∀ {i:Nat} {y:Oper} {t:Nat},ops[i]? =some y->Ls listed i->y.dst=some t->ZM tS t=ZM (T (i+1)) t
  tout:∀ {t:Nat},(∀ i y,ops[i]? =some y->Ls listed i->y.dst≠some t)->ZM tS t=ZM (T 0) t
  pr:∀ b,c.Pr b↔(b<(H 0).length∨∃ i,i<ops.size/\Ls listed i/\(H i).length<=b/\b<(H (i+1)).length)
  abs:∀ b,¬c.Pr b->Zk c.A b=none
  has:∀ b,c.Pr b->b<c.A.length
  con:∀ b t,c.Pr b->t<=ops.size->b<(H t).length->(∀ d,d<ops.size->C0 H d b->(Ls listed d↔d<t))->c.A[b]? =(H t)[b]?
  tch:∀ d b,d<ops.size->Ls listed d->C0 H d b->c.Pr b
theorem P2 {listed:Array Bool}{j i:Nat}(h:j<listed.size):Ls (listed.setIfInBounds j true) i↔(Ls listed i∨i=j):=by
  unfold Ls
  by_cases hij:j=i
  · subst hij
    simp[h]
  · rw [getD_set_ne false hij]
    constructor
    · exact .inl
    · rintro (h | h)
      · exact h
      · exact absurd h.symm hij
theorem Sim.agree (hc:Chk P ops as fl ps)(ht:Txt P ops fl ps E call T H){lo:Nat}{c0 c:Cx}{listed:Array Bool}{a:Act}{w:World}{tS:List AV}(hs:Sim ops T H lo c0 listed a w c tS)(hcl:RS ops listed){j:Nat}{y:Oper}(hy:ops[j]? =some y)
    (hj:¬Ls listed j) (hanc:∀ i,CC as i j->Ls listed i) {t:Nat} (hr:t ∈ CZ ops y):ZM tS t=ZM (T j) t:=by
  have hjs:=E5 hy
  have later:∀ i x,ops[i]? =some x->j<=i->x.dst=some t->¬Ls listed i:=by
    intro i x hx hji hd hl
    rcases Nat.lt_or_eq_of_le hji with h | h
    · exact hj (hc.anc' hcl hx hl (hc.late h hy hx hd hr).1)
    · subst h;exact hj hl
  by_cases hex:∃ i x,i<j/\ops[i]? =some x/\x.dst=some t
  · obtain ⟨i, x, hij, hx, hd⟩ := hex
    rw[hs.tin hx (hanc i (hc.data hij hx hy hd hr)) hd]
    refine(ht.slot (by omega) (by omega) fun k z h1 h2 hz=> ?_).symm
    exact hc.dsts (by omega) hx hz hd
  · rw [hs.tout fun i x hx hl hd => ?_]
    · refine(ht.slot (by omega) (by omega) fun k z h1 h2 hz hd=>hex ⟨k,z,h2,hz,hd⟩).symm
    · rcases Nat.lt_or_ge i j with h | h
      · exact hex ⟨i,x,h,hx,hd⟩
      · exact later i x hx h hd hl
theorem Sim.slots (hc:Chk P ops as fl ps)(ht:Txt P ops fl ps E call T H){lo:Nat}{c0 c:Cx}{listed:Array Bool}{a:Act}{w:World}{tS:List AV}(hs:Sim ops T H lo c0 listed a w c tS){j:Nat}{y:Oper}(hy:ops[j]? =some y)(hsz:listed.size=ops.size)
    {x:AV} (hx:T (j+1)=YN (T j) y.dst x):(YN tS y.dst x).length=(T 0).length/\
      (∀ {i:Nat} {z:Oper} {t:Nat},ops[i]? =some z->Ls (listed.setIfInBounds j true) i->z.dst=some t->ZM (YN tS y.dst x) t=ZM (T (i+1)) t)/\
      (∀ {t:Nat},(∀ i z,ops[i]? =some z->Ls (listed.setIfInBounds j true) i->z.dst≠some t)->ZM (YN tS y.dst x) t=ZM (T 0) t):=by
  have hjs:=E5 hy
  have hls:∀ {i},Ls (listed.setIfInBounds j true) i↔(Ls listed i∨i=j):=fun {i}=>P2 (by omega)
  refine⟨by rw[S9];exact hs.tlen,fun {i z t} hz hl hd=> ?_,fun {t} hn=> ?_⟩
  · by_cases hij : i = j
    · subst hij
      have:z=y:=by rw[hy] at hz;exact(Option.some.inj hz).symm
      subst this
      rw[hx,hd]
      exact Zdx (hs.tlen.trans (ht.len (by omega)).symm) t x
    · have hl' : Ls listed i := (hls.1 hl).resolve_right hij
      rw[Vx _ _ (hc.dsts hij hz hy hd)]
      exact hs.tin hz hl' hd
  · rw [Vx _ _ (hn j y hy (hls.2 (.inr rfl)))]
    exact hs.tout fun i z hz hl=>hn i z hz (hls.2 (.inl hl))
end
end Go.Aug
