import Derived.Test.YtmfdoekbjkgckaaGreatEvS
namespace Go.Aug
open Go
theorem Marks.cxN {lo:Nat}{c:Cx}{a:Act}{Ds:List Nat}(h:Marks lo c a Ds)(n0:Nat)(ids:List Nat):Marks lo (cxN c n0 ids) a Ds:=⟨h.eq,h.nodup,h.at_⟩
theorem Z45 {E:Env}{key:Nat}{k:K}{lo:Nat}{c0:Cx}{tm:List AV}{A:List Blk}{a:Act}{w:World}{c:Cx}{r:AV×List Blk}(hs:SR lo c0 tm A a w c)(h0:∀ i,c0.Pr i->i<E.nb0)(h0':c0.A.length<=E.nb0)
  (h:BU E key k tm A=some r):∃ tm' A' c',SR lo c0 tm' A' a w c'/\k tm' A'=some r:=by
 unfold BU at h
 split at h
 ·exact⟨tm,A,c,hs,h⟩
 ·rename_i live _
  unfold Uk at h
  obtain⟨hn,hg⟩:=TG A E.nb0 100000 (RA E.nb0 live tm A)
  generalize Q8 A E.nb0 100000 (RA E.nb0 live tm A) []=ids at h hn hg
  obtain⟨rfl,rfl,hpr,hrel,hfr,htr,Ds,hm⟩:=hs
  obtain⟨rel,fr⟩:=Z8p (ids:=ids) hrel hpr hn hg hfr h0 h0'
  exact⟨_,_,cxN c E.nb0 ids,⟨rfl,rfl,fun i=>Iff.rfl,rel,fr,⟨htr.1,Uw _ (WC hg 8) 0 live htr.2⟩,Ds,hm.cxN _ _⟩,h⟩
theorem Zkz {n0:Nat}{c0:Cx}{x:AV}{A:List Blk}{e:Ending}{w':World}{x':AV}{A':List Blk}(h0:∀ i,c0.Pr i->i<n0)(h0':c0.A.length<=n0)(h:BP c0 x A e w')(he:CN n0 (some (x,A))=some (x',A')):BP c0 x' A' e w':=by
 simp only[CN,Option.some.injEq,Prod.mk.injEq] at he
 obtain⟨rfl,rfl⟩:=he
 obtain⟨hn,hg⟩:=TG A n0 100000 (YV 8 x++(A.take n0).flatMap fun b=>C7 (some b))
 generalize Q8 A n0 100000 (YV 8 x++(A.take n0).flatMap fun b=>C7 (some b)) []=ids at hn hg
 obtain⟨X,c',rfl,rfl,fr,rel,hv,rfl,hp⟩:=h
 obtain⟨rel',fr'⟩:=Z8p (ids:=ids) rel hp hn hg fr h0 h0'
 exact⟨X,cxN c' n0 ids,rfl,rfl,fr',rel',WC hg 8 hv,rfl,fun i=>Iff.rfl⟩
end Go.Aug
