import Derived.Test.YtmfdoekbjkgckaaGreatEvS
namespace Go.Aug
open Go
theorem Marks.cxN {lo:Nat}{c:Cx}{a:Act}{Ds:List Nat}(h:Marks lo c a Ds)(n0:Nat)(ids:List Nat):Marks lo (cxN c n0 ids) a Ds:=⟨h.eq,h.nodup,h.at_⟩
theorem Z2b {E:Env}{key:Nat}{k:K}{lo:Nat}{c0:Cx}{tm:List AV}{A:List Blk}{a:Act}{w:World}{c:Cx}{r:AV×List Blk}(hs:SR lo c0 tm A a w c)(h0:∀ i,c0.Pr i->i<E.nb0)(h0':c0.A.length<=E.nb0)
  (h:C6 E key k tm A=some r):∃ tm' A' c',SR lo c0 tm' A' a w c'/\k tm' A'=some r:=by
 unfold C6 at h
 split at h
 ·exact⟨tm,A,c,hs,h⟩
 ·rename_i live _
  unfold Vw at h
  obtain⟨hn,hg⟩:=SC A E.nb0 100000 (Sx E.nb0 live tm A)
  generalize Q1 A E.nb0 100000 (Sx E.nb0 live tm A) []=ids at h hn hg
  obtain⟨rfl,rfl,hpr,hrel,hfr,htr,Ds,hm⟩:=hs
  obtain⟨rel,fr⟩:=Z67 (ids:=ids) hrel hpr hn hg hfr h0 h0'
  exact⟨_,_,cxN c E.nb0 ids,⟨rfl,rfl,fun i=>Iff.rfl,rel,fr,⟨htr.1,T4 _ (UR hg 8) 0 live htr.2⟩,Ds,hm.cxN _ _⟩,h⟩
theorem Zgv {n0:Nat}{c0:Cx}{x:AV}{A:List Blk}{e:Ending}{w':World}{x':AV}{A':List Blk}(h0:∀ i,c0.Pr i->i<n0)(h0':c0.A.length<=n0)(h:B9 c0 x A e w')(he:Cj n0 (some (x,A))=some (x',A')):B9 c0 x' A' e w':=by
 simp only[Cj,Option.some.injEq,Prod.mk.injEq] at he
 obtain⟨rfl,rfl⟩:=he
 obtain⟨hn,hg⟩:=SC A n0 100000 (YT 8 x++(A.take n0).flatMap fun b=>DC (some b))
 generalize Q1 A n0 100000 (YT 8 x++(A.take n0).flatMap fun b=>DC (some b)) []=ids at hn hg
 obtain⟨X,c',rfl,rfl,fr,rel,hv,rfl,hp⟩:=h
 obtain⟨rel',fr'⟩:=Z67 (ids:=ids) rel hp hn hg fr h0 h0'
 exact⟨X,cxN c' n0 ids,rfl,rfl,fr',rel',UR hg 8 hv,rfl,fun i=>Iff.rfl⟩
end Go.Aug
