import Derived.Test.YtmfdoekbjkgckaaGreatEvW
namespace Go.Aug
open Go
theorem VC {n:Nat}:∀ {l:List Nat},ZW n l=true↔n ∈ l
 | []=>by simp[ZW]
 | m::l=>by
  unfold ZW
  split
  ·rename_i h; have : n = m := by simpa using h
   simp[this]
  ·rename_i h
   have:n≠m:=fun e=>h (by subst e;simp)
   simp[this,VC (l:=l)]
theorem Tq:∀ {ids:List Nat} {i m:Nat},Q8 ids i=some m->ids[m]? =some i
 | [],_,_,h=>by simp[Q8] at h
 | j::l,i,m,h=>by
  unfold Q8 at h
  cases hb:Nat.beq j i with
  | true=>
   simp[hb] at h
   subst h
   simp[Nat.eq_of_beq_eq_true hb]
  | false=>
   simp[hb] at h
   obtain⟨k,hk,rfl⟩:=h
   simpa using Tq hk
theorem R1 {ids:List Nat}(hn:ids.Nodup){i m:Nat}(h:ids[m]? =some i):Q8 ids i=some m:=by
 induction ids generalizing m with
 | nil=>simp at h
 | cons j l ih=>
  cases m with
  | zero=>simp at h;subst h;simp[Q8]
  | succ m=>
   simp at h
   have hne:Nat.beq j i=false:=by
    cases hb:Nat.beq j i with
    | false=>rfl
    | true=>
     have:=Nat.eq_of_beq_eq_true hb
     subst this
     exact absurd (List.mem_of_getElem? h) (List.nodup_cons.1 hn).1
   simp[Q8,hne,ih (List.nodup_cons.1 hn).2 h]
theorem NT {a b:Nat}:Nat.blt a b=true↔a<b:=by
 constructor
 ·intro h;exact Nat.le_of_ble_eq_true h
 ·intro h;exact Nat.ble_eq_true_of_le h
theorem Zit {a b:Nat}:Nat.blt a b=false↔¬a<b:=by
 have:= @NT a b
 cases h:Nat.blt a b<;>simp[h] at this ⊢ <;>omega
theorem UT (A:List Blk)(n0:Nat):∀(k:Nat) (todo seen:List Nat),(seen.Nodup/\∀ i ∈ seen,n0<=i/\i<A.length)->((Q1 A n0 k todo seen).Nodup/\∀ i ∈ Q1 A n0 k todo seen,n0<=i/\i<A.length)
 | 0,_,_,h=>by simpa [Q1] using h
 | k+1,[],_,h=>by simpa [Q1] using h
 | k+1,i::todo,seen,h=>by
  unfold Q1
  cases hb:(Nat.blt i n0 || ZW i seen || !Nat.blt i A.length) with
  | true=>exact UT A n0 k todo seen h
  | false=>
   simp only[cond_false]
   simp only[Bool.or_eq_false_iff,Bool.not_eq_false',Zit,NT] at hb
   refine UT A n0 k _ _ ⟨?_,fun j hj=> ?_⟩
   ·rw [List.nodup_append]
    refine⟨h.1,by simp,fun a ha b hb'=> ?_⟩
    simp at hb';subst hb'
    intro e;subst e
    have:=hb.1.2
    rw[VC.2 ha] at this
    simp at this
   ·simp only [List.mem_append, List.mem_singleton] at hj
    rcases hj with hj | rfl
    ·exact h.2 j hj
    ·omega
theorem SC (A:List Blk)(n0 k:Nat)(todo:List Nat):(Q1 A n0 k todo []).Nodup/\∀ i ∈ Q1 A n0 k todo [],n0<=i/\i<A.length:=
 UT A n0 k todo [] ⟨by simp,by simp⟩
section
variable {c0 c:Cx} {n0:Nat} {ids:List Nat}
def J1 (n0:Nat)(ids:List Nat)(m:Nat):Nat:=if m<n0 then m else ids.getD (m-n0) 0
def cxN (c:Cx)(n0:Nat)(ids:List Nat):Cx:=⟨c.I,fun m=>c.ρ (J1 n0 ids m),c.w,ZV c.A n0 ids,fun m=>m<(ZV c.A n0 ids).length⟩
theorem Zad (A:List Blk)(b:Blk):(AE A n0 ids true b).ver=b.ver:=by cases b<;>rfl
theorem KV (A:List Blk)(k:Bool)(b:Blk):(AE A n0 ids k b).ro=b.ro:=by cases b<;>rfl
theorem GK (A:List Blk):(ZV A n0 ids).length=min n0 A.length+ids.length:=by simp[ZV]
theorem Z15 {A:List Blk}{i:Nat}(h:i<n0)(hi:i<A.length):(ZV A n0 ids)[i]? =(A[i]?).map (AE A n0 ids true):=by
 unfold ZV
 rw[List.getElem?_append_left (by simp;omega),List.getElem?_map,List.getElem?_take,if_pos h]
theorem Pw {A:List Blk}(hl:n0<=A.length){m i:Nat}(h:ids[m]? =some i)(hi:i<A.length):(ZV A n0 ids)[n0+m]? =(A[i]?).map (AE A n0 ids false):=by
 unfold ZV
 rw[List.getElem?_append_right (by simp;omega)]
 have:n0+m-((A.take n0).map (AE A n0 ids true)).length=m:=by simp;omega
 rw[this,List.getElem?_map,h]
 simp[List.getD,hi]
theorem Z71 {A:List Blk}{i v:Nat}(h:Q4 A i=some v):Zk A i=some v:=by
 unfold Q4 at h
 split at h<;>simp_all [Zk,Blk.ver]
theorem S0 {A:List Blk}(hl:n0<=A.length){m i v:Nat}(h:ids[m]? =some i)(hi:i<A.length)(hv:Q4 A i=some v):Zk (ZV A n0 ids) (n0+m)=some 0:=by
 unfold Zk
 rw[Pw hl h hi]
 unfold Q4 at hv
 split at hv
 ·rename_i hq;rw[hq];rfl
 ·rename_i hq;rw[hq];rfl
 ·simp at hv
theorem P5 {A:List Blk}{i:Nat}(h:i<n0)(hi:i<A.length):Zk (ZV A n0 ids) i=Zk A i:=by
 unfold Zk
 rw[Z15 h hi]
 cases A[i]? with
 | none=>rfl
 | some b=>simp[Zad]
theorem E2 {i:Nat}(h:i<n0):J1 n0 ids i=i:=if_pos h
theorem MY {m i:Nat}(h:ids[m]? =some i):J1 n0 ids (n0+m)=i:=by
 unfold J1
 rw[if_neg (by omega),Nat.add_sub_cancel_left]
 simp[List.getD,h]
theorem GV {A:List Blk}{i v:Nat}(h:Zk A i=some v):i<A.length:=by
 obtain⟨b,hb,_⟩:=C1 h
 rcases Nat.lt_or_ge i A.length with h' | h'
 ·exact h'
 ·simp[List.getElem?_eq_none h'] at hb
theorem UR (hg:∀ i ∈ ids,n0<=i/\i<c.A.length):∀(n:Nat) {x:AV} {X:Value},VR c x X->VR (cxN c n0 ids) (YA c.A n0 ids n x) X:=by
 intro n
 induction n with
 | zero=>intro x X _;exact .bot
 | succ n ih=>
  intro x X h
  have all:∀ {cs:List AV} {Xs:List Value},VRs c cs Xs->VRs (cxN c n0 ids) (cs.map (YA c.A n0 ids n)) Xs:=by
   intro cs
   induction cs with
   | nil=>intro Xs h;cases h;exact .nil
   | cons x cs ihc=>intro Xs h;cases h with | cons h hs=>exact .cons (ih h) (ihc hs)
  cases h with
  | bot=>exact .bot
  | d h=>exact .d h
  | agg h=>exact .agg (all h)
  | tup h=>exact .tup (all h)
  | fn h=>exact .fn (all h)
  | ifc h=>exact .ifc (ih h)
  | @ref i ver off hp hv=>
   have hlt:=GV hv
   simp only[YA,spot]
   cases hb:Nat.blt i n0 with
   | true=>
    rw[NT] at hb
    simp only[cond_true]
    have:=VR.ref (c:=cxN c n0 ids) (i:=i) (ver:=ver) (off:=off) (by show i<_;rw[GK];omega) (by show Zk (ZV c.A n0 ids) i=_;rw[P5 hb hlt];exact hv)
    have e:(cxN c n0 ids).ρ i=c.ρ i:=by show c.ρ (J1 n0 ids i)=_;rw[E2 hb]
    rw[e] at this
    exact this
   | false=>
    simp only[cond_false]
    cases hbv:Q4 c.A i with
    | none=>exact .bot
    | some v'=>
     cases hid:Q8 ids i with
     | none=>exact .bot
     | some m=>
      simp only
      cases hvb:Nat.beq v' ver with
      | false=>exact .bot
      | true=>
       simp only[cond_true]
       have hm:=Tq hid
       have hl:n0<=c.A.length:=by have:=hg i (List.mem_of_getElem? hm);omega
       have hml:m<ids.length:=(List.getElem?_eq_some_iff.1 hm).1
       have:=VR.ref (c:=cxN c n0 ids) (i:=n0+m) (ver:=0) (off:=off) (by show n0+m<_;rw[GK];omega) (S0 hl hm hlt hbv)
       have e:(cxN c n0 ids).ρ (n0+m)=c.ρ i:=by show c.ρ (J1 n0 ids (n0+m))=_;rw[MY hm]
       rw[e] at this
       exact this
  | @refS i ver off v b o hv hlv=>
   have hlt:=GV hv
   simp only[YA,spot]
   cases hb:Nat.blt i n0 with
   | true=>
    rw[NT] at hb
    simp only[cond_true]
    exact VR.refS (c:=cxN c n0 ids) (v:=v) (by show Zk (ZV c.A n0 ids) i=_;rw[P5 hb hlt];exact hv) hlv
   | false=>
    simp only[cond_false]
    cases hbv:Q4 c.A i with
    | none=>exact .bot
    | some v'=>
     cases hid:Q8 ids i with
     | none=>exact .bot
     | some m=>
      simp only
      have:=Z71 hbv
      rw[hv] at this
      simp at this
      have hne:Nat.beq v' ver=false:=by
       cases hq:Nat.beq v' ver with
       | false=>rfl
       | true=>have:=Nat.eq_of_beq_eq_true hq;omega
      rw[hne]
      exact .bot
  | @sref i ver off len cap sz k hp hv hl hk hs hn=>
   have hlt:=GV hv
   simp only[YA,spot]
   cases hb:Nat.blt i n0 with
   | true=>
    rw[NT] at hb
    simp only[cond_true]
    have e:(cxN c n0 ids).ρ i=c.ρ i:=by show c.ρ (J1 n0 ids i)=_;rw[E2 hb]
    have:=VR.sref (c:=cxN c n0 ids) (i:=i) (ver:=ver) (off:=off) (sz:=sz) (k:=k) (by show i<_;rw[GK];omega) (by show Zk (ZV c.A n0 ids) i=_;rw[P5 hb hlt];exact hv) hl hk (by rw[e];exact hs) (by rw[e];exact hn)
    rw[e] at this
    exact this
   | false=>
    simp only[cond_false]
    cases hbv:Q4 c.A i with
    | none=>exact .bot
    | some v'=>
     cases hid:Q8 ids i with
     | none=>exact .bot
     | some m=>
      simp only
      cases hvb:Nat.beq v' ver with
      | false=>exact .bot
      | true=>
       simp only[cond_true]
       have hm:=Tq hid
       have hl':n0<=c.A.length:=by have:=hg i (List.mem_of_getElem? hm);omega
       have hml:m<ids.length:=(List.getElem?_eq_some_iff.1 hm).1
       have e:(cxN c n0 ids).ρ (n0+m)=c.ρ i:=by show c.ρ (J1 n0 ids (n0+m))=_;rw[MY hm]
       have:=VR.sref (c:=cxN c n0 ids) (i:=n0+m) (ver:=0) (off:=off) (sz:=sz) (k:=k) (by show n0+m<_;rw[GK];omega) (S0 hl' hm hlt hbv) hl hk (by rw[e];exact hs) (by rw[e];exact hn)
       rw[e] at this
       exact this
  | @srefS i ver off len sz v cap b o k hv hlv hc hk=>
   have hlt:=GV hv
   simp only[YA,spot]
   cases hb:Nat.blt i n0 with
   | true=>
    rw[NT] at hb
    simp only[cond_true]
    exact VR.srefS (c:=cxN c n0 ids) (v:=v) (by show Zk (ZV c.A n0 ids) i=_;rw[P5 hb hlt];exact hv) hlv hc hk
   | false=>
    simp only[cond_false]
    cases hbv:Q4 c.A i with
    | none=>exact .bot
    | some v'=>
     cases hid:Q8 ids i with
     | none=>exact .bot
     | some m=>
      simp only
      have:=Z71 hbv
      rw[hv] at this
      simp at this
      have hne:Nat.beq v' ver=false:=by
       cases hq:Nat.beq v' ver with
       | false=>rfl
       | true=>have:=Nat.eq_of_beq_eq_true hq;omega
      rw[hne]
      exact .bot
theorem Sw (hg:∀ i ∈ ids,n0<=i/\i<c.A.length)(n:Nat):∀ {cs:List AV} {Xs:List Value},VRs c cs Xs->VRs (cxN c n0 ids) (cs.map (YA c.A n0 ids n)) Xs
 | [],_,.nil=>.nil
 | _::_,_,.cons h hs=>.cons (UR hg n h) (Sw hg n hs)
theorem Z16 (hg:∀ i ∈ ids,n0<=i/\i<c.A.length){k:Bool}{b:Blk}{o:Obj}(h:Aq c b o):Aq (cxN c n0 ids) (AE c.A n0 ids k b) o:=by
 cases b with
 | cells cs v ro=>
  obtain⟨C,e,h1,h2,h3,h5⟩:=h
  refine⟨C,e,h1,by simpa using h2,?_⟩
  simp only[List.length_map]
  exact⟨Sw hg 8 h3,h5⟩
 | iter s p=>exact h
 | free=>exact h
theorem NN (hr:∀ i,c.Pr i↔i<c.A.length)(hg:∀ i ∈ ids,n0<=i/\i<c.A.length){m:Nat}{b:Blk}(h:(ZV c.A n0 ids)[m]? =some b):
  ∃ b0 k,c.A[J1 n0 ids m]? =some b0/\b=AE c.A n0 ids k b0/\c.Pr (J1 n0 ids m)/\(m<n0∨(n0<=J1 n0 ids m/\ids[m-n0]? =some (J1 n0 ids m))):=by
 have hm:m<(ZV c.A n0 ids).length:=by
  rcases Nat.lt_or_ge m (ZV c.A n0 ids).length with h' | h'
  ·exact h'
  ·simp[List.getElem?_eq_none h'] at h
 rw[GK] at hm
 by_cases hlo:m<n0/\m<c.A.length
 ·rw [Z15 hlo.1 hlo.2] at h
  rw[E2 hlo.1]
  cases hq:c.A[m]? with
  | none=>simp[hq] at h
  | some b0=>simp[hq] at h;exact⟨b0,true,rfl,h.symm,(hr m).2 hlo.2,.inl hlo.1⟩
 ·have hids : 0 < ids.length := by omega
  have hl:n0<=c.A.length:=by
   obtain⟨i,hi⟩:=List.exists_mem_of_length_pos hids
   have:=hg i hi;omega
  have hmn:n0<=m:=by omega
  obtain⟨i,hi⟩:∃ i,ids[m-n0]? =some i:=⟨_,List.getElem?_eq_getElem (by omega)⟩
  obtain⟨h1,h2⟩:=hg i (List.mem_of_getElem? hi)
  have e:n0+(m-n0)=m:=by omega
  have hs:=MY (n0:=n0) hi
  rw[e] at hs
  have hh:=Pw hl hi h2
  rw[e] at hh
  rw[hh] at h
  rw[hs]
  cases hq:c.A[i]? with
  | none=>simp[hq] at h
  | some b0=>simp[hq] at h;exact⟨b0,false,rfl,h.symm,(hr i).2 h2,.inr ⟨h1,hi⟩⟩
theorem PN {A:List Blk}{k:Bool}{b:Blk}(h:(AE A n0 ids k b).ro=false):b.ro=false:=by rw[KV] at h;exact h
theorem Za3 (hr:∀ i,c.Pr i↔i<c.A.length)(hn:ids.Nodup)(hg:∀ i ∈ ids,n0<=i/\i<c.A.length):∀ m m',m<(ZV c.A n0 ids).length->m'<(ZV c.A n0 ids).length->J1 n0 ids m=J1 n0 ids m'->m=m':=by
 intro m m' hm hm' e
 obtain⟨b,hb⟩:∃ b,(ZV c.A n0 ids)[m]? =some b:=⟨_,List.getElem?_eq_getElem hm⟩
 obtain⟨b',hb'⟩:∃ b,(ZV c.A n0 ids)[m']? =some b:=⟨_,List.getElem?_eq_getElem hm'⟩
 obtain⟨_,_,_,_,_,h1⟩:=NN hr hg hb
 obtain⟨_,_,_,_,_,h2⟩:=NN hr hg hb'
 rcases h1 with h1 | ⟨h1,g1⟩
 ·rcases h2 with h2 | ⟨h2, g2⟩
  ·rw[E2 h1,E2 h2] at e;exact e
  ·rw[E2 h1] at e;omega
 ·rcases h2 with h2 | ⟨h2, g2⟩
  ·rw[E2 h2] at e;omega
  ·have i1 := R1 hn g1
   have i2:=R1 hn g2
   rw[e,i2] at i1
   simp at i1
   have:¬m<n0:=fun h=>by rw[E2 h] at h1;omega
   have:¬m'<n0:=fun h=>by rw[E2 h] at h2;omega
   omega
theorem Z66 (hrel:Rel c)(hr:∀ i,c.Pr i↔i<c.A.length)(hn:ids.Nodup)(hg:∀ i ∈ ids,n0<=i/\i<c.A.length):Rel (cxN c n0 ids):=by
 refine⟨fun m b hm hb=> ?_,fun m m' hm hm' om om' e=> ?_,hrel.lt⟩
 ·obtain ⟨b0, k, h1, rfl, h3, _⟩ := NN hr hg (show (ZV c.A n0 ids)[m]? = some b from hb)
  obtain⟨o,g1,g2,g3,g4⟩:=hrel.blk _ b0 h3 h1
  refine⟨o,g1,Z16 hg g2,?_,?_⟩
  ·rw[KV];exact g3
  ·rw[KV];exact g4
 ·obtain ⟨b, hb, ho⟩ := om
  obtain⟨b',hb',ho'⟩:=om'
  obtain⟨b0,k,h1,rfl,h3,_⟩:=NN hr hg (show(ZV c.A n0 ids)[m]? =some b from hb)
  obtain⟨b0',k',h1',rfl,h3',_⟩:=NN hr hg (show(ZV c.A n0 ids)[m']? =some b' from hb')
  exact Za3 hr hn hg m m' hm hm' (hrel.inj _ _ h3 h3' ⟨b0,h1,PN ho⟩ ⟨b0',h1',PN ho'⟩ e)
theorem Z67 (hrel:Rel c)(hr:∀ i,c.Pr i↔i<c.A.length)(hn:ids.Nodup)(hg:∀ i ∈ ids,n0<=i/\i<c.A.length)(hfr:Fr c0 c)(h0:∀ i,c0.Pr i->i<n0)(h0':c0.A.length<=n0):
  Rel (cxN c n0 ids)/\Fr c0 (cxN c n0 ids):=by
 refine⟨Z66 hrel hr hn hg,?_⟩
 ·refine { I := hfr.I, im := hfr.im, pr := ?_, ver := ?_, os := hfr.os, tape := hfr.tape, output := hfr.output, size := hfr.size, keep := hfr.keep, old := ?_, imm := hfr.imm }
  ·intro i hi
   have:=(hr i).1 (hfr.pr i hi)
   have:=h0 i hi
   show i<_
   rw[GK];omega
  ·intro i v hv
   obtain⟨v',g1,g2,g3⟩:=hfr.ver i v hv
   have hi:i<n0:=by have:=GV hv;omega
   refine⟨v',?_,g2,fun hp e=> ?_⟩
   ·show Zk (ZV c.A n0 ids) i = _
    rw[P5 hi (GV g1)];exact g1
   ·have := g3 hp e
    show c.ρ (J1 n0 ids i)=_/\_
    rw[E2 hi];exact this
  ·rintro m hm ⟨b, hb, ho⟩ hlt
   obtain⟨b0,k,h1,rfl,h3,h4⟩:=NN hr hg (show(ZV c.A n0 ids)[m]? =some b from hb)
   obtain⟨p,o,e⟩:=hfr.old _ h3 ⟨b0,h1,PN ho⟩ hlt
   have hs:=h0 _ p
   have hmn:m<n0:=by
    rcases h4 with h4 | ⟨h4,_⟩
    ·exact h4
    ·omega
   rw[E2 hmn] at p o e
   refine⟨p,o,?_⟩
   show c.ρ (J1 n0 ids m)=_
   rw[E2 hmn];exact e
theorem T4 (f:AV->AV){c c':Cx}(hf:∀ {x:AV} {X:Value},VR c x X->VR c' (f x) X):∀ {tm:List AV} {Xs:List Value} (k:Nat) (ls:List Nat),VRs c tm Xs->VRs c' (FW f k ls tm) Xs
 | [],_,k,ls,.nil=>by cases ls<;>exact .nil
 | _::_,_,k,[],.cons h hs=>.cons .bot (T4 f hf (k+1) [] hs)
 | _::_,_,k,l::ls,.cons h hs=>by
  unfold FW
  cases Nat.beq k l with
  | true=>exact .cons (hf h) (T4 f hf (k+1) ls hs)
  | false=>exact .cons .bot (T4 f hf (k+1) (l::ls) hs)
end
section
variable {c:Cx} {ids:List Nat}
theorem Z1m (ids vs:List Nat)(nb:Nat):∀(A:List Blk) (is us:List Nat) (bs:List Blk),(Bx ids vs nb A is us bs).length=A.length
 | A,i::is,v::us,b::bs=>by rw[Bx,Z1m];simp
 | A,[],us,bs=>by simp[Bx]
 | A,i::is,[],bs=>by simp[Bx]
 | A,i::is,v::us,[]=>by simp[Bx]
theorem Mx {ids:List Nat}{i:Nat}(h:i ∉ ids):Q8 ids i=none:=by
 cases hq:Q8 ids i with
 | none=>rfl
 | some m=>exact absurd (List.mem_of_getElem? (Tq hq)) h
theorem Z1n (ids vs:List Nat)(nb:Nat):∀(A:List Blk) (is us:List Nat) (bs:List Blk),is.Nodup->(∀ i ∈ is,i<A.length)->is.length<=us.length->is.length<=bs.length->∀ j,
  (Bx ids vs nb A is us bs)[j]? = match Q8 is j with
   | some m=>(bs[m]?).map (Jk ids vs nb (us.getD m 0))
   | none=>A[j]?
 | A,[],us,bs,_,_,_,_,j=>by simp[Bx,Q8]
 | A,i::is,[],bs,_,_,h,_,j=>by simp at h
 | A,i::is,v::us,[],_,_,_,h,j=>by simp at h
 | A,i::is,v::us,b::bs,hn,hl,h1,h2,j=>by
  have hn':=List.nodup_cons.1 hn
  rw[Bx,Z1n ids vs nb _ is us bs hn'.2 (fun k hk=>by simpa using hl k (by simp[hk])) (by simpa using h1) (by simpa using h2) j]
  by_cases hij:i=j
  ·subst hij
   rw[Mx hn'.1]
   have:Q8 (i::is) i=some 0:=by simp[Q8]
   rw[this]
   simp[hl i (by simp)]
  ·have hb:Nat.beq i j=false:=by
    cases hq:Nat.beq i j with
    | false=>rfl
    | true=>exact absurd (Nat.eq_of_beq_eq_true hq) hij
   have:Q8 (i::is) j=(Q8 is j).map (·+1):=by simp[Q8,hb]
   rw[this]
   cases hq:Q8 is j with
   | none=>simp[hij]
   | some m=>simp
theorem P4 {A:List Blk}{m i:Nat}(h:ids[m]? =some i):(Y4 A ids).getD m 0=(Q4 A i).getD 0:=by
 simp[Y4,List.getD,h]
theorem Z6v:∀ {vs:List Nat} {B:List Blk},DT vs B=true->∀ {m v:Nat} {b:Blk},vs[m]? =some v->B[m]? =some b->(∃ cs v ro,b=.cells cs v ro)∨v=0
 | v::vs,b::bs,h,0,v',b',h1,h2=>by
  simp at h1 h2;subst h1;subst h2
  simp only[DT,Bool.and_eq_true] at h
  cases b with
  | cells cs v ro=>exact .inl ⟨_,_,_,rfl⟩
  | iter s p=>exact .inr (Nat.eq_of_beq_eq_true h.1)
  | free=>exact .inr (Nat.eq_of_beq_eq_true h.1)
 | v::vs,b::bs,h,m+1,v',b',h1,h2=>by
  simp only[DT,Bool.and_eq_true] at h
  exact Z6v h.2 (by simpa using h1) (by simpa using h2)
 | [],_,_,m,_,_,h1,_=>by simp at h1
 | _::_,[],_,m,_,_,_,h2=>by simp at h2
theorem S2 {ids vs:List Nat}{nb dv v:Nat}{b:Blk}(hb:(∃ cs v ro,b=.cells cs v ro)∨dv=0)(h:b.ver=some v):(Jk ids vs nb dv b).ver=some (dv+v):=by
 rcases hb with⟨cs,v',ro,rfl⟩ | rfl
 ·simp[Jk,Blk.ver] at h ⊢;exact h
 ·cases b<;>simp[Jk,Blk.ver] at h ⊢ <;>exact h
theorem QQ {ids vs:List Nat}{nb dv:Nat}{b:Blk}:(Jk ids vs nb dv b).ro=b.ro:=by cases b<;>rfl
def JM (c:Cx)(ids:List Nat)(c2:Cx)(A3:List Blk):Cx:=
 ⟨c2.I, fun j => match Q8 ids j with
  | some m=>c2.ρ m
  | none=>if j<c.A.length then c.ρ j else c2.ρ (ids.length+(j-c.A.length)),c2.w,A3,fun j=>j<A3.length⟩
structure Put (c:Cx) (ids:List Nat) (c2:Cx) (A3:List Blk):Prop where
 len:A3.length=c.A.length+(c2.A.length-ids.length)
 le:ids.length<=c2.A.length
 loc:∀(m i:Nat),ids[m]? =some i->∃(b:Blk) (dv:Nat),c2.A[m]? =some b/\A3[i]? =some (Jk ids (Y4 c.A ids) c.A.length dv b)/\dv=(Q4 c.A i).getD 0/\((∃ cs v ro,b=.cells cs v ro)∨dv=0)
 old:∀ j,j<c.A.length->j ∉ ids->A3[j]? =c.A[j]?
 new:∀ m:Nat,ids.length<=m->A3[c.A.length+(m-ids.length)]? =(c2.A[m]?).map (Jk ids (Y4 c.A ids) c.A.length 0)
theorem Z1i {c2:Cx}(hn:ids.Nodup)(hg:∀ i ∈ ids,i<c.A.length)(hl:ids.length<=c2.A.length)(hb:DT (Y4 c.A ids) c2.A=true):
  Put c ids c2 (Bx ids (Y4 c.A ids) c.A.length c.A ids (Y4 c.A ids) c2.A++(c2.A.drop ids.length).map (Jk ids (Y4 c.A ids) c.A.length 0)):=by
 have hvl:(Y4 c.A ids).length=ids.length:=by simp[Y4]
 have hpl:=Z1m ids (Y4 c.A ids) c.A.length c.A ids (Y4 c.A ids) c2.A
 have hget:=Z1n ids (Y4 c.A ids) c.A.length c.A ids (Y4 c.A ids) c2.A hn hg (by omega) hl
 refine⟨by simp[hpl],hl,fun m i hm=> ?_,fun j hj hni=> ?_,fun m hm=> ?_⟩
 ·have hi := hg i (List.mem_of_getElem? hm)
  have hml:m<ids.length:=(List.getElem?_eq_some_iff.1 hm).1
  obtain⟨b,hbm⟩:∃ b,c2.A[m]? =some b:=⟨_,List.getElem?_eq_getElem (by omega)⟩
  refine⟨b,(Q4 c.A i).getD 0,hbm,?_,rfl,?_⟩
  ·rw [List.getElem?_append_left (by rw [hpl]; exact hi), hget i, R1 hn hm]
   simp only[hbm,Option.map_some,P4 hm]
  ·have hv : (Y4 c.A ids)[m]? = some ((Q4 c.A i).getD 0) := by simp [Y4, hm]
   exact Z6v hb hv hbm
 ·rw[List.getElem?_append_left (by rw[hpl];exact hj),hget j,Mx hni]
 ·rw [List.getElem?_append_right (by rw [hpl]; omega), hpl, List.getElem?_map, List.getElem?_drop]
  congr 2
  omega
structure PutH (c:Cx) (ids:List Nat) (c2:Cx) (A3:List Blk):Prop where
 p:Put c ids c2 A3
 hn:ids.Nodup
 hg:∀ i ∈ ids,i<c.A.length
 hpr:∀ i,c2.Pr i↔i<c2.A.length
section
variable {c2:Cx} {A3:List Blk}
theorem F7 (H:PutH c ids c2 A3){m i:Nat}(h:ids[m]? =some i):(JM c ids c2 A3).ρ i=c2.ρ m:=by
 simp only[JM,R1 H.hn h]
theorem H3 (_H:PutH c ids c2 A3){j:Nat}(h:j<c.A.length)(hni:j ∉ ids):(JM c ids c2 A3).ρ j=c.ρ j:=by
 simp only[JM,Mx hni,if_pos h]
theorem Gx (H:PutH c ids c2 A3){m:Nat}(h:ids.length<=m):(JM c ids c2 A3).ρ (c.A.length+(m-ids.length))=c2.ρ m:=by
 have:c.A.length+(m-ids.length) ∉ ids:=fun hh=>by have:=H.hg _ hh;omega
 simp only[JM,Mx this]
 rw[if_neg (by omega)]
 congr 1;omega
theorem PD (H:PutH c ids c2 A3){m v:Nat}(h:Zk c2.A m=some v):(∀ i,ids[m]? =some i->Zk A3 i=some ((Y4 c.A ids).getD m 0+v)/\i<A3.length)/\(ids[m]? =none->Zk A3 (c.A.length+(m-ids.length))=some v/\c.A.length+(m-ids.length)<A3.length):=by
 obtain⟨b0,hb0,hv0⟩:=C1 h
 have hml:m<c2.A.length:=(List.getElem?_eq_some_iff.1 hb0).1
 constructor
 ·intro i hi
  obtain⟨b,dv,h1,h2,h3,h4⟩:=H.p.loc m i hi
  rw[hb0] at h1
  simp at h1;subst h1
  refine⟨?_,(List.getElem?_eq_some_iff.1 h2).1⟩
  unfold Zk
  rw[h2,P4 hi,<-h3]
  exact S2 h4 hv0
 ·intro hi
  have hm:ids.length<=m:=by simpa using hi
  have:=H.p.new m hm
  rw[hb0] at this
  refine⟨?_,by have:=(List.getElem?_eq_some_iff.1 this).1;exact this⟩
  unfold Zk
  rw[this]
  have:=S2 (ids:=ids) (vs:=Y4 c.A ids) (nb:=c.A.length) (.inr rfl) hv0
  simpa using this
theorem XQ (H:PutH c ids c2 A3):∀(n:Nat) {x:AV} {X:Value},VR c2 x X->VR (JM c ids c2 A3) (Qj ids (Y4 c.A ids) c.A.length n x) X:=by
 intro n
 induction n with
 | zero=>intro x X _;exact .bot
 | succ n ih=>
  intro x X h
  have all:∀ {cs:List AV} {Xs:List Value},VRs c2 cs Xs->VRs (JM c ids c2 A3) (cs.map (Qj ids (Y4 c.A ids) c.A.length n)) Xs:=by
   intro cs
   induction cs with
   | nil=>intro Xs h;cases h;exact .nil
   | cons x cs ihc=>intro Xs h;cases h with | cons h hs=>exact .cons (ih h) (ihc hs)
  cases h with
  | bot=>exact .bot
  | d h=>exact .d h
  | agg h=>exact .agg (all h)
  | tup h=>exact .tup (all h)
  | fn h=>exact .fn (all h)
  | ifc h=>exact .ifc (ih h)
  | @ref m ver off hpm hv=>
   obtain⟨g1,g2⟩:=PD H hv
   simp only[Qj]
   cases hi:ids[m]? with
   | some i=>
    obtain⟨q1,q2⟩:=g1 i hi
    have:=VR.ref (c:=JM c ids c2 A3) (i:=i) (off:=off) q2 q1
    rw[F7 H hi] at this
    exact this
   | none=>
    obtain⟨q1,q2⟩:=g2 hi
    have:=VR.ref (c:=JM c ids c2 A3) (off:=off) q2 q1
    rw[Gx H (by simpa using hi)] at this
    exact this
  | @refS m ver off v b o hv hlv=>
   obtain⟨g1,g2⟩:=PD H hv
   simp only[Qj]
   cases hi:ids[m]? with
   | some i=>exact .refS (c:=JM c ids c2 A3) (g1 i hi).1 (by omega)
   | none=>exact .refS (c:=JM c ids c2 A3) (g2 hi).1 hlv
  | @sref m ver off len cap sz k hpm hv hl hk hs hbn=>
   obtain⟨g1,g2⟩:=PD H hv
   simp only[Qj]
   cases hi:ids[m]? with
   | some i=>
    obtain⟨q1,q2⟩:=g1 i hi
    have e:=F7 H hi
    have:=VR.sref (c:=JM c ids c2 A3) (i:=i) (off:=off) (sz:=sz) (k:=k) q2 q1 hl hk (by rw[e];exact hs) (by rw[e];exact hbn)
    rw[e] at this
    exact this
   | none=>
    obtain⟨q1,q2⟩:=g2 hi
    have e:=Gx H (show ids.length<=m by simpa using hi)
    have:=VR.sref (c:=JM c ids c2 A3) (off:=off) (sz:=sz) (k:=k) q2 q1 hl hk (by rw[e];exact hs) (by rw[e];exact hbn)
    rw[e] at this
    exact this
  | @srefS m ver off len sz v cap b o k hv hlv hc hk=>
   obtain⟨g1,g2⟩:=PD H hv
   simp only[Qj]
   cases hi:ids[m]? with
   | some i=>exact .srefS (c:=JM c ids c2 A3) (g1 i hi).1 (by omega) hc hk
   | none=>exact .srefS (c:=JM c ids c2 A3) (g2 hi).1 hlv hc hk
theorem XN (H:PutH c ids c2 A3)(n:Nat):∀ {cs:List AV} {Xs:List Value},VRs c2 cs Xs->VRs (JM c ids c2 A3) (cs.map (Qj ids (Y4 c.A ids) c.A.length n)) Xs
 | [],_,.nil=>.nil
 | _::_,_,.cons h hs=>.cons (XQ H n h) (XN H n hs)
theorem XS (H:PutH c ids c2 A3){dv:Nat}{b:Blk}{o:Obj}(h:Aq c2 b o):Aq (JM c ids c2 A3) (Jk ids (Y4 c.A ids) c.A.length dv b) o:=by
 cases b with
 | cells cs v ro=>
  obtain⟨C,e,h1,h2,h3,h5⟩:=h
  refine⟨C,e,h1,by simpa using h2,?_⟩
  simp only[List.length_map]
  exact⟨XN H 8 h3,h5⟩
 | iter s p=>exact h
 | free=>exact h
theorem SF (H:PutH c ids c2 A3){j:Nat}{b:Blk}(h:A3[j]? =some b):
  (∃ (m : Nat) (b0 : Blk) (dv : Nat), ids[m]? = some j /\ c2.A[m]? = some b0 /\ b = Jk ids (Y4 c.A ids) c.A.length dv b0) ∨ (j < c.A.length /\ j ∉ ids /\ c.A[j]? = some b) ∨
   ∃(m:Nat) (b0:Blk),ids.length<=m/\j=c.A.length+(m-ids.length)/\c2.A[m]? =some b0/\b=Jk ids (Y4 c.A ids) c.A.length 0 b0:=by
 by_cases hj:j<c.A.length
 ·by_cases hi : j ∈ ids
  ·obtain ⟨m, hm⟩ := List.getElem?_of_mem hi
   obtain⟨b0,dv,h1,h2,_,_⟩:=H.p.loc m j hm
   rw[h] at h2
   simp at h2
   exact .inl ⟨m,b0,dv,hm,h1,h2⟩
  ·exact .inr (.inl ⟨hj,hi,(H.p.old j hj hi).symm.trans h⟩)
 ·have hlt : j < A3.length := (List.getElem?_eq_some_iff.1 h).1
  have hl:=H.p.len
  have:=H.p.new (ids.length+(j-c.A.length)) (by omega)
  have e:c.A.length+(ids.length+(j-c.A.length)-ids.length)=j:=by omega
  rw[e,h] at this
  cases hq:c2.A[ids.length+(j-c.A.length)]? with
  | none=>simp[hq] at this
  | some b0=>
   simp[hq] at this
   exact .inr (.inr ⟨_,b0,by omega,e.symm,hq,this⟩)
theorem Zhd (H:PutH c ids c2 A3)(hr:Rel c)(hcp:∀ i,c.Pr i↔i<c.A.length)(hr2:Rel c2)(hfr:Fr (cxN c 0 ids) c2):Rel (JM c ids c2 A3)/\Fr c (JM c ids c2 A3):=by
 have hg0:∀ i ∈ ids,0<=i/\i<c.A.length:=fun i hi=>⟨Nat.zero_le _,H.hg i hi⟩
 have sg:∀ {m i:Nat},ids[m]? =some i->J1 0 ids m=i:=fun {m i} h=>by have:=MY (n0:=0) h;rwa [Nat.zero_add] at this
 have ln:(ZV c.A 0 ids).length=ids.length:=by rw[GK];omega
 have getN:∀ {m i:Nat},ids[m]? =some i->(ZV c.A 0 ids)[m]? =(c.A[i]?).map (AE c.A 0 ids false):=fun {m i} h=>by
  have:=Pw (n0:=0) (Nat.zero_le _) h (H.hg i (List.mem_of_getElem? h));rwa [Nat.zero_add] at this
 have ownN:∀ {m i:Nat},ids[m]? =some i->(YG (ZV c.A 0 ids) m↔YG c.A i):=by
  intro m i h
  unfold YG
  rw[getN h]
  cases c.A[i]? with
  | none=>simp
  | some b=>simp[KV]
 have notIn:∀ {j:Nat} {b:Blk},j<c.A.length->j ∉ ids->c.A[j]? =some b->b.ro=false->∀ m,(cxN c 0 ids).Pr m->YG (cxN c 0 ids).A m->(cxN c 0 ids).ρ m≠c.ρ j:=by
  intro j b hj hni hb ho m hm om e
  have hml:m<ids.length:=by rw[<-ln];exact hm
  obtain⟨i,hi⟩:∃ i,ids[m]? =some i:=⟨_,List.getElem?_eq_getElem hml⟩
  have e':c.ρ i=c.ρ j:=by rw[<-sg hi];exact e
  have:=hr.inj i j ((hcp i).2 (H.hg i (List.mem_of_getElem? hi))) ((hcp j).2 hj) ((ownN hi).1 om) ⟨b,hb,ho⟩ e'
  subst this
  exact hni (List.mem_of_getElem? hi)
 have DM:∀ {j:Nat} {b:Blk},j<c.A.length->j ∉ ids->c.A[j]? =some b->c2.w.heap[c.ρ j]? =c.w.heap[c.ρ j]? :=by
  intro j b hj hni hb
  have hpj:=(hcp j).2 hj
  cases ho:b.ro with
  | true=>
   obtain⟨o,h1,_,h3,_⟩:=hr.blk j b hpj hb
   exact hfr.im _ (h3 ho)
  | false=>exact hfr.keep _ (hr.lt_of hpj hb) (notIn hj hni hb ho)
 have ext:Ext c (JM c ids c2 A3):=by
  refine { I:=hfr.I,im:=hfr.im,pr:=fun i hi=> ?_,ver:=fun i v hv=> ?_ }
  ·have := (hcp i).1 hi
   have:=H.p.len
   show i<A3.length
   omega
  ·obtain ⟨b, hb, hbv⟩ := C1 hv
   have hil:i<c.A.length:=(List.getElem?_eq_some_iff.1 hb).1
   by_cases hi:i ∈ ids
   ·obtain ⟨m, hm⟩ := List.getElem?_of_mem hi
    have hbk:Q4 c.A i=some v:=by
     unfold Q4
     rw[hb]
     cases b<;>simp[Blk.ver] at hbv ⊢ <;>exact hbv
    have hvN:Zk (cxN c 0 ids).A m=some 0:=by
     have:=S0 (n0:=0) (Nat.zero_le _) hm hil hbk
     rwa [Nat.zero_add] at this
    obtain⟨v',g1,g2,g3⟩:=hfr.ver m 0 hvN
    have g4:=(PD H g1).1 i hm
    rw[P4 hm,hbk] at g4
    refine⟨v+v',g4.1,by omega,fun hpi e=> ?_⟩
    have:=g3 (by show m<(ZV c.A 0 ids).length;rw[ln];exact(List.getElem?_eq_some_iff.1 hm).1) (by omega)
    have e1:(cxN c 0 ids).ρ m=c.ρ i:=by show c.ρ (J1 0 ids m)=_;rw[sg hm]
    rw[e1] at this
    rw[F7 H hm]
    exact this
   ·refine ⟨v, ?_, Nat.le_refl _, fun hpi _ => ?_⟩
    ·show Zk A3 i = _
     unfold Zk
     rw[H.p.old i hil hi,hb]
     exact hbv
    ·rw [H3 H hil hi]
     refine⟨rfl,?_⟩
     show Yz c2.w _=_
     unfold Yz
     rw[DM hil hi hb]
 have frOld:∀ m,c2.Pr m->YG c2.A m->c2.ρ m<c.w.heap.size->∃ i,ids[m]? =some i/\YG c.A i/\c2.ρ m=c.ρ i:=by
  intro m hm om hlt
  obtain⟨p,o,e⟩:=hfr.old m hm om hlt
  have hml:m<ids.length:=by rw[<-ln];exact p
  obtain⟨i,hi⟩:∃ i,ids[m]? =some i:=⟨_,List.getElem?_eq_getElem hml⟩
  refine⟨i,hi,(ownN hi).1 o,?_⟩
  rw[e]
  show c.ρ (J1 0 ids m)=_
  rw[sg hi]
 have oldNe:∀ {j m:Nat} {b:Blk},j<c.A.length->j ∉ ids->c.A[j]? =some b->b.ro=false->c2.Pr m->YG c2.A m->c2.ρ m≠c.ρ j:=by
  intro j m b hj hni hb ho hm om e
  have hlt:=hr.lt_of ((hcp j).2 hj) hb
  obtain⟨i,hi,oi,e'⟩:=frOld m hm om (by rw[e];exact hlt)
  have:=hr.inj i j ((hcp i).2 (H.hg i (List.mem_of_getElem? hi))) ((hcp j).2 hj) oi ⟨b,hb,ho⟩ (by rw[<-e',e])
  subst this
  exact hni (List.mem_of_getElem? hi)
 have lt2:∀ {m:Nat} {b:Blk},c2.A[m]? =some b->c2.Pr m:=fun {m b} h=>(H.hpr m).2 (List.getElem?_eq_some_iff.1 h).1
 refine⟨⟨fun j b hj hb=> ?_,fun i j hi hj oi oj e=> ?_,hr2.lt⟩,{ toExt:=ext,os:=hfr.os,tape:=hfr.tape,output:=hfr.output,size:=hfr.size,keep:=fun b hb hne=> ?_,old:=fun j hj oj hlt=> ?_,imm:=fun b hb=> ?_ }⟩
 ·rcases SF H (show A3[j]? = some b from hb) with ⟨m, b0, dv, h1, h2, rfl⟩ | ⟨h1, h2, h3⟩ | ⟨m, b0, h1, rfl, h2, rfl⟩
  ·obtain ⟨o, g1, g2, g3, g4⟩ := hr2.blk m b0 (lt2 h2) h2
   rw[F7 H h1]
   exact⟨o,g1,XS H g2,by rw[QQ];exact g3,by rw[QQ];exact g4⟩
  ·obtain ⟨o, g1, g2, g3, g4⟩ := hr.blk j b ((hcp j).2 h1) h3
   rw[H3 H h1 h2]
   refine⟨o,(DM h1 h2 h3).trans g1,g2.mono ext,fun h=>hfr.I _ (g3 h),fun h hI=> ?_⟩
   rcases hfr.imm _ hI with q | q | ⟨m,q1,q2,q3⟩
   ·exact g4 h q
   ·have := hr.lt_of ((hcp j).2 h1) h3
    have:c.w.heap.size<=c.ρ j:=q
    omega
   ·exact notIn h1 h2 h3 h m q1 q2 q3
  ·obtain ⟨o, g1, g2, g3, g4⟩ := hr2.blk m b0 (lt2 h2) h2
   rw[Gx H h1]
   exact⟨o,g1,XS H g2,by rw[QQ];exact g3,by rw[QQ];exact g4⟩
 ·obtain ⟨b, hb, ho⟩ := oi
  obtain⟨b',hb',ho'⟩:=oj
  rcases SF H (show A3[i]? =some b from hb) with⟨m,b0,dv,h1,h2,rfl⟩ | ⟨h1,h2,h3⟩ | ⟨m,b0,h1,rfl,h2,rfl⟩<;>
   rcases SF H (show A3[j]? =some b' from hb') with⟨m',b0',dv',h1',h2',rfl⟩ | ⟨h1',h2',h3'⟩ | ⟨m',b0',h1',rfl,h2',rfl⟩
  ·rw [F7 H h1, F7 H h1'] at e
   rw[QQ] at ho ho'
   have:=hr2.inj m m' (lt2 h2) (lt2 h2') ⟨_,h2,ho⟩ ⟨_,h2',ho'⟩ e
   subst this
   rw[h1] at h1';simpa using h1'
  ·rw [F7 H h1, H3 H h1' h2'] at e
   rw[QQ] at ho
   exact absurd e (oldNe h1' h2' h3' ho' (lt2 h2) ⟨_,h2,ho⟩)
  ·rw [F7 H h1, Gx H h1'] at e
   rw[QQ] at ho ho'
   have:=hr2.inj m m' (lt2 h2) (lt2 h2') ⟨_,h2,ho⟩ ⟨_,h2',ho'⟩ e
   have:=(List.getElem?_eq_some_iff.1 h1).1
   omega
  ·rw [H3 H h1 h2, F7 H h1'] at e
   rw[QQ] at ho'
   exact absurd e.symm (oldNe h1 h2 h3 ho (lt2 h2') ⟨_,h2',ho'⟩)
  ·rw [H3 H h1 h2, H3 H h1' h2'] at e
   exact hr.inj i j ((hcp i).2 h1) ((hcp j).2 h1') ⟨_,h3,ho⟩ ⟨_,h3',ho'⟩ e
  ·rw [H3 H h1 h2, Gx H h1'] at e
   rw[QQ] at ho'
   exact absurd e.symm (oldNe h1 h2 h3 ho (lt2 h2') ⟨_,h2',ho'⟩)
  ·rw [Gx H h1, F7 H h1'] at e
   rw[QQ] at ho ho'
   have:=hr2.inj m m' (lt2 h2) (lt2 h2') ⟨_,h2,ho⟩ ⟨_,h2',ho'⟩ e
   have:=(List.getElem?_eq_some_iff.1 h1').1
   omega
  ·rw [Gx H h1, H3 H h1' h2'] at e
   rw[QQ] at ho
   exact absurd e (oldNe h1' h2' h3' ho' (lt2 h2) ⟨_,h2,ho⟩)
  ·rw [Gx H h1, Gx H h1'] at e
   rw[QQ] at ho ho'
   have:=hr2.inj m m' (lt2 h2) (lt2 h2') ⟨_,h2,ho⟩ ⟨_,h2',ho'⟩ e
   rw[this]
 ·refine hfr.keep b hb fun m hm om e => ?_
  have hml:m<ids.length:=by rw[<-ln];exact hm
  obtain⟨i,hi⟩:∃ i,ids[m]? =some i:=⟨_,List.getElem?_eq_getElem hml⟩
  refine hne i ((hcp i).2 (H.hg i (List.mem_of_getElem? hi))) ((ownN hi).1 om) ?_
  rw[<-sg hi];exact e
 ·obtain ⟨b, hb, ho⟩ := oj
  rcases SF H (show A3[j]? =some b from hb) with⟨m,b0,dv,h1,h2,rfl⟩ | ⟨h1,h2,h3⟩ | ⟨m,b0,h1,rfl,h2,rfl⟩
  ·rw [F7 H h1] at hlt ⊢
   rw[QQ] at ho
   obtain⟨i,hi,oi,e⟩:=frOld m (lt2 h2) ⟨_,h2,ho⟩ hlt
   rw[h1] at hi
   simp at hi
   subst hi
   exact⟨(hcp j).2 (H.hg j (List.mem_of_getElem? h1)),oi,e⟩
  ·rw [H3 H h1 h2]
   exact⟨(hcp j).2 h1,⟨b,h3,ho⟩,rfl⟩
  ·rw [Gx H h1] at hlt
   rw[QQ] at ho
   obtain⟨i,hi,_⟩:=frOld m (lt2 h2) ⟨_,h2,ho⟩ hlt
   have:=(List.getElem?_eq_some_iff.1 hi).1
   omega
 ·rcases hfr.imm b hb with q | q | ⟨m, q1, q2, q3⟩
  ·exact .inl q
  ·exact .inr (.inl q)
  ·have hml : m < ids.length := by rw [<- ln]; exact q1
   obtain⟨i,hi⟩:∃ i,ids[m]? =some i:=⟨_,List.getElem?_eq_getElem hml⟩
   refine .inr (.inr ⟨i,(hcp i).2 (H.hg i (List.mem_of_getElem? hi)),(ownN hi).1 q2,?_⟩)
   rw[<-sg hi];exact q3
end
end
end Go.Aug
