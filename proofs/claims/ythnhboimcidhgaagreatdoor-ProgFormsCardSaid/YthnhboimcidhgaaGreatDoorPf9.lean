import Derived.Test.YthnhboimcidhgaaGreatDoorPf2
import Derived.Test.YthnhboimcidhgaaGreatDoorPf3
import Derived.Test.YthnhboimcidhgaaGreatDoorPf4
import Derived.Test.YthnhboimcidhgaaGreatDoorPf5
import Derived.Test.YthnhboimcidhgaaGreatDoorPf6
import Derived.Test.YthnhboimcidhgaaGreatDoorPf7
namespace Go.Proofs.YthnhboimcidhgaaGreatDoor.progForms
open Go Go.Aug
set_option maxRecDepth 10000000
theorem at_all (w:Int):at_ ((low8 w).tmod (29:Nat)) w=true:=by
 obtain⟨n,hn,e⟩:=low8_mod w 29 (by decide)
 rw[e]
 match n,hn with
 | 0,_=>exact at0 w
 | 1,_=>exact at1 w
 | 2,_=>exact at2 w
 | 3,_=>exact at3 w
 | 4,_=>exact at4 w
 | 5,_=>exact at5 w
 | 6,_=>exact at6 w
 | 7,_=>exact at7 w
 | 8,_=>exact at8 w
 | 9,_=>exact at9 w
 | 10,_=>exact at10 w
 | 11,_=>exact at11 w
 | 12,_=>exact at12 w
 | 13,_=>exact at13 w
 | 14,_=>exact at14 w
 | 15,_=>exact at15 w
 | 16,_=>exact at16 w
 | 17,_=>exact at17 w
 | 18,_=>exact at18 w
 | 19,_=>exact at19 w
 | 20,_=>exact at20 w
 | 21,_=>exact at21 w
 | 22,_=>exact at22 w
 | 23,_=>exact at23 w
 | 24,_=>exact at24 w
 | 25,_=>exact at25 w
 | 26,_=>exact at26 w
 | 27,_=>exact at27 w
 | 28,_=>exact at28 w
 | n+29,h=>exact absurd h (by omega)
theorem run_all (w:Int):isT (evC env (cFunc Tryz.prog) 30 7 [.d (.v (.int .i64 w))] [])=true:=by
 show isT (apF env call29 7 _ [] (cFunc Tryz.prog 7))=true
 rw[f3,apF]
 rw[head]
 exact at_all w
end Go.Proofs.YthnhboimcidhgaaGreatDoor.progForms
