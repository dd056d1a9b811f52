import Derived.Test.YthnhboimcidhgaaDoorSf2
import Derived.Test.YthnhboimcidhgaaDoorSf3
import Derived.Test.YthnhboimcidhgaaDoorSf4
import Derived.Test.YthnhboimcidhgaaDoorSf5
namespace Go.Proofs.YthnhboimcidhgaaDoor.synsForms
open Go Go.Aug
set_option maxRecDepth 10000000
theorem at_all (w:Int):at_ ((low8 w).tmod (42:Nat)) w=true:=by
 obtain⟨n,hn,e⟩:=low8_mod w 42 (by decide)
 rw[e]
 match n,hn with
 | 0,_=>exact at0 w
 | 1,_=>exact at1 w
 | 2,_=>exact at2 w
 | 3,_=>exact at3 w
 | 4,_=>exact at4 w
 | 5,_=>exact at5 w
 | 6,_=>exact at6 w
 | 7,_=>exact at7 w
 | 8,_=>exact at8 w
 | 9,_=>exact at9 w
 | 10,_=>exact at10 w
 | 11,_=>exact at11 w
 | 12,_=>exact at12 w
 | 13,_=>exact at13 w
 | 14,_=>exact at14 w
 | 15,_=>exact at15 w
 | 16,_=>exact at16 w
 | 17,_=>exact at17 w
 | 18,_=>exact at18 w
 | 19,_=>exact at19 w
 | 20,_=>exact at20 w
 | 21,_=>exact at21 w
 | 22,_=>exact at22 w
 | 23,_=>exact at23 w
 | 24,_=>exact at24 w
 | 25,_=>exact at25 w
 | 26,_=>exact at26 w
 | 27,_=>exact at27 w
 | 28,_=>exact at28 w
 | 29,_=>exact at29 w
 | 30,_=>exact at30 w
 | 31,_=>exact at31 w
 | 32,_=>exact at32 w
 | 33,_=>exact at33 w
 | 34,_=>exact at34 w
 | 35,_=>exact at35 w
 | 36,_=>exact at36 w
 | 37,_=>exact at37 w
 | 38,_=>exact at38 w
 | 39,_=>exact at39 w
 | 40,_=>exact at40 w
 | 41,_=>exact at41 w
 | n+42,h=>exact absurd h (by omega)
theorem run_all (w:Int):isT (evC env (cFunc Tryd.prog) 30 4 [.d (.v (.int .i64 w))] [])=true:=by
 show isT (apF env call29 4 _ [] (cFunc Tryd.prog 4))=true
 rw[f3,apF]
 rw[head]
 exact at_all w
end Go.Proofs.YthnhboimcidhgaaDoor.synsForms
