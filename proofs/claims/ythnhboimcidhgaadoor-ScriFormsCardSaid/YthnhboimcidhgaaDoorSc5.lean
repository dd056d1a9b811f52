import Derived.Test.YthnhboimcidhgaaDoorSc2
import Derived.Test.YthnhboimcidhgaaDoorSc3
import Derived.Test.YthnhboimcidhgaaDoorSc4
namespace Go.Proofs.YthnhboimcidhgaaDoor.scriForms
open Go Go.Aug
set_option maxRecDepth 10000000
theorem T_lt (w:Int):∃ n:Nat,n<25/\T w=n:=by
 have h:∃ m:Nat,X w=m/\m<256:=by
  unfold X
  have h1:(BitVec.ofInt IntKind.i64.bits w&&&BitVec.ofInt IntKind.i64.bits 255).toNat<256:=by
   rw[BitVec.toNat_and]
   have:(BitVec.ofInt IntKind.i64.bits 255).toNat=255:=by decide
   rw[this]
   exact Nat.lt_of_le_of_lt Nat.and_le_right (by omega)
  exact⟨_,wrap_small (by omega) (by omega),h1⟩
 obtain⟨m,hm,hl⟩:=h
 refine⟨m%25,by omega,?_⟩
 unfold T
 rw[hm,Int.tmod_eq_emod_of_nonneg (by omega)]
 omega
theorem at_all (w:Int):at_ (T w) w=true:=by
 obtain⟨n,hn,e⟩:=T_lt w
 rw[e]
 match n,hn with
 | 0,_=>exact at0 w
 | 1,_=>exact at1 w
 | 2,_=>exact at2 w
 | 3,_=>exact at3 w
 | 4,_=>exact at4 w
 | 5,_=>exact at5 w
 | 6,_=>exact at6 w
 | 7,_=>exact at7 w
 | 8,_=>exact at8 w
 | 9,_=>exact at9 w
 | 10,_=>exact at10 w
 | 11,_=>exact at11 w
 | 12,_=>exact at12 w
 | 13,_=>exact at13 w
 | 14,_=>exact at14 w
 | 15,_=>exact at15 w
 | 16,_=>exact at16 w
 | 17,_=>exact at17 w
 | 18,_=>exact at18 w
 | 19,_=>exact at19 w
 | 20,_=>exact at20 w
 | 21,_=>exact at21 w
 | 22,_=>exact at22 w
 | 23,_=>exact at23 w
 | 24,_=>exact at24 w
 | n+25,h=>exact absurd h (by omega)
theorem run_all (w:Int):isT (evC env (cFunc Tryd.prog) 30 3 [.d (.v (.int .i64 w))] [])=true:=by
 show isT (apF env call29 3 _ [] (cFunc Tryd.prog 3))=true
 rw[f3,apF]
 rw[head]
 exact at_all w
end Go.Proofs.YthnhboimcidhgaaDoor.scriForms
