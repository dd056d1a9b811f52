import Derived.Test.YtmfdoekbjkgckaaGreatEvS
namespace Go.Aug
open Go
theorem Marks.cxN {lo:Nat}{c:Cx}{a:Act}{Ds:List Nat}(h:Marks lo c a Ds)(n0:Nat)(ids:List Nat):Marks lo (cxN c n0 ids) a Ds:=⟨h.eq,h.nodup,h.at_⟩
theorem Z6b {E:Env}{key:Nat}{k:K}{lo:Nat}{c0:Cx}{tm:List AV}{A:List Blk}{a:Act}{w:World}{c:Cx}{r:AV×List Blk}(hs:SR lo c0 tm A a w c)(h0:∀ i,c0.Pr i->i<E.nb0)(h0':c0.A.length<=E.nb0)
  (h:D2 E key k tm A=some r):∃ tm' A' c',SR lo c0 tm' A' a w c'/\k tm' A'=some r:=by
 unfold D2 at h
 split at h
 ·exact⟨tm,A,c,hs,h⟩
 ·rename_i live _
  unfold VS at h
  obtain⟨hn,hg⟩:=V4 A E.nb0 100000 (SN E.nb0 live tm A)
  generalize QD A E.nb0 100000 (SN E.nb0 live tm A) []=ids at h hn hg
  obtain⟨rfl,rfl,hpr,hrel,hfr,htr,Ds,hm⟩:=hs
  obtain⟨rel,fr⟩:=Zbx (ids:=ids) hrel hpr hn hg hfr h0 h0'
  exact⟨_,_,cxN c E.nb0 ids,⟨rfl,rfl,fun i=>Iff.rfl,rel,fr,⟨htr.1,VX _ (Z00 hg 8) 0 live htr.2⟩,Ds,hm.cxN _ _⟩,h⟩
theorem Zqc {n0:Nat}{c0:Cx}{x:AV}{A:List Blk}{e:Ending}{w':World}{x':AV}{A':List Blk}(h0:∀ i,c0.Pr i->i<n0)(h0':c0.A.length<=n0)(h:CR c0 x A e w')(he:DE n0 (some (x,A))=some (x',A')):CR c0 x' A' e w':=by
 simp only[DE,Option.some.injEq,Prod.mk.injEq] at he
 obtain⟨rfl,rfl⟩:=he
 obtain⟨hn,hg⟩:=V4 A n0 100000 (Q2 8 x++(A.take n0).flatMap fun b=>Dx (some b))
 generalize QD A n0 100000 (Q2 8 x++(A.take n0).flatMap fun b=>Dx (some b)) []=ids at hn hg
 obtain⟨X,c',rfl,rfl,fr,rel,hv,rfl,hp⟩:=h
 obtain⟨rel',fr'⟩:=Zbx (ids:=ids) rel hp hn hg fr h0 h0'
 exact⟨X,cxN c' n0 ids,rfl,rfl,fr',rel',Z00 hg 8 hv,rfl,fun i=>Iff.rfl⟩
end Go.Aug
