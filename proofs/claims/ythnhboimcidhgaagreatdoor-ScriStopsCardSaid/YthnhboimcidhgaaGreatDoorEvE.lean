import Derived.Test.YthnhboimcidhgaaGreatDoorEvS
namespace Go.Aug
open Go
theorem Marks.cxN {lo:Nat}{c:Cx}{a:Act}{Ds:List Nat}(h:Marks lo c a Ds)(n0:Nat)(ids:List Nat):Marks lo (cxN c n0 ids) a Ds:=⟨h.eq,h.nodup,h.at_⟩
theorem Zxb {E:Env}{key:Nat}{k:K}{lo:Nat}{c0:Cx}{tm:List AV}{A:List Blk}{a:Act}{w:World}{c:Cx}{r:AV×List Blk}(hs:SR lo c0 tm A a w c)(h0:∀ i,c0.Pr i->i<E.nb0)(h0':c0.A.length<=E.nb0)
  (h:Zmj E key k tm A=some r):∃ tm' A' c',SR lo c0 tm' A' a w c'/\k tm' A'=some r:=by
 unfold Zmj at h
 split at h
 ·exact⟨tm,A,c,hs,h⟩
 ·rename_i live _
  unfold Zyo at h
  obtain⟨hn,hg⟩:=Z6v A E.nb0 100000 (Zos E.nb0 live tm A)
  generalize Z0t A E.nb0 100000 (Zos E.nb0 live tm A) []=ids at h hn hg
  obtain⟨rfl,rfl,hpr,hrel,hfr,htr,Ds,hm⟩:=hs
  obtain⟨rel,fr⟩:=Zxq (ids:=ids) hrel hpr hn hg hfr h0 h0'
  exact⟨_,_,cxN c E.nb0 ids,⟨rfl,rfl,fun i=>Iff.rfl,rel,fr,⟨htr.1,Zhw _ (Zs3 hg 8) 0 live htr.2⟩,Ds,hm.cxN _ _⟩,h⟩
theorem Zzg {n0:Nat}{c0:Cx}{x:AV}{A:List Blk}{e:Ending}{w':World}{x':AV}{A':List Blk}(h0:∀ i,c0.Pr i->i<n0)(h0':c0.A.length<=n0)(h:Jh c0 x A e w')(he:Zl7 n0 (some (x,A))=some (x',A')):Jh c0 x' A' e w':=by
 simp only[Zl7,Option.some.injEq,Prod.mk.injEq] at he
 obtain⟨rfl,rfl⟩:=he
 obtain⟨hn,hg⟩:=Z6v A n0 100000 (Q5 8 x++(A.take n0).flatMap fun b=>Z9o (some b))
 generalize Z0t A n0 100000 (Q5 8 x++(A.take n0).flatMap fun b=>Z9o (some b)) []=ids at hn hg
 obtain⟨X,c',rfl,rfl,fr,rel,hv,rfl,hp⟩:=h
 obtain⟨rel',fr'⟩:=Zxq (ids:=ids) rel hp hn hg fr h0 h0'
 exact⟨X,cxN c' n0 ids,rfl,rfl,fr',rel',Zs3 hg 8 hv,rfl,fun i=>Iff.rfl⟩
end Go.Aug
