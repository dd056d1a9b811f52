import Derived.Test.YtmfdoekbjkgckaaGreatEvS
namespace Go.Aug
open Go
theorem Marks.cxN {lo:Nat}{c:Cx}{a:Act}{Ds:List Nat}(h:Marks lo c a Ds)(n0:Nat)(ids:List Nat):Marks lo (cxN c n0 ids) a Ds:=⟨h.eq,h.nodup,h.at_⟩
theorem Z5o {E:Env}{key:Nat}{k:K}{lo:Nat}{c0:Cx}{tm:List AV}{A:List Blk}{a:Act}{w:World}{c:Cx}{r:AV×List Blk}(hs:SR lo c0 tm A a w c)(h0:∀ i,c0.Pr i->i<E.nb0)(h0':c0.A.length<=E.nb0)
  (h:CZ E key k tm A=some r):∃ tm' A' c',SR lo c0 tm' A' a w c'/\k tm' A'=some r:=by
 unfold CZ at h
 split at h
 ·exact⟨tm,A,c,hs,h⟩
 ·rename_i live _
  unfold VB at h
  obtain⟨hn,hg⟩:=UQ A E.nb0 100000 (Sv E.nb0 live tm A)
  generalize Q8 A E.nb0 100000 (Sv E.nb0 live tm A) []=ids at h hn hg
  obtain⟨rfl,rfl,hpr,hrel,hfr,htr,Ds,hm⟩:=hs
  obtain⟨rel,fr⟩:=Zb7 (ids:=ids) hrel hpr hn hg hfr h0 h0'
  exact⟨_,_,cxN c E.nb0 ids,⟨rfl,rfl,fun i=>Iff.rfl,rel,fr,⟨htr.1,VF _ (XK hg 8) 0 live htr.2⟩,Ds,hm.cxN _ _⟩,h⟩
theorem Zpf {n0:Nat}{c0:Cx}{x:AV}{A:List Blk}{e:Ending}{w':World}{x':AV}{A':List Blk}(h0:∀ i,c0.Pr i->i<n0)(h0':c0.A.length<=n0)(h:CP c0 x A e w')(he:Dv n0 (some (x,A))=some (x',A')):CP c0 x' A' e w':=by
 simp only[Dv,Option.some.injEq,Prod.mk.injEq] at he
 obtain⟨rfl,rfl⟩:=he
 obtain⟨hn,hg⟩:=UQ A n0 100000 (YW 8 x++(A.take n0).flatMap fun b=>Dj (some b))
 generalize Q8 A n0 100000 (YW 8 x++(A.take n0).flatMap fun b=>Dj (some b)) []=ids at hn hg
 obtain⟨X,c',rfl,rfl,fr,rel,hv,rfl,hp⟩:=h
 obtain⟨rel',fr'⟩:=Zb7 (ids:=ids) rel hp hn hg fr h0 h0'
 exact⟨X,cxN c' n0 ids,rfl,rfl,fr',rel',XK hg 8 hv,rfl,fun i=>Iff.rfl⟩
end Go.Aug
