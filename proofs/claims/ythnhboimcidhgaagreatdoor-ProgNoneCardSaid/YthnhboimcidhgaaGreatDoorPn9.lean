import Derived.Test.YthnhboimcidhgaaGreatDoorPn2
import Derived.Test.YthnhboimcidhgaaGreatDoorPn3
import Derived.Test.YthnhboimcidhgaaGreatDoorPn4
import Derived.Test.YthnhboimcidhgaaGreatDoorPn5
namespace Go.Proofs.YthnhboimcidhgaaGreatDoor.progNone
open Go Go.Aug
set_option maxRecDepth 10000000
theorem at_all (w:Int):at_ ((low8 w).tmod (16:Nat)) w=true:=by
 obtain⟨n,hn,e⟩:=low8_mod w 16 (by decide)
 rw[e]
 match n,hn with
 | 0,_=>exact at0 w
 | 1,_=>exact at1 w
 | 2,_=>exact at2 w
 | 3,_=>exact at3 w
 | 4,_=>exact at4 w
 | 5,_=>exact at5 w
 | 6,_=>exact at6 w
 | 7,_=>exact at7 w
 | 8,_=>exact at8 w
 | 9,_=>exact at9 w
 | 10,_=>exact at10 w
 | 11,_=>exact at11 w
 | 12,_=>exact at12 w
 | 13,_=>exact at13 w
 | 14,_=>exact at14 w
 | 15,_=>exact at15 w
 | n+16,h=>exact absurd h (by omega)
theorem run_all (w:Int):isT (evC env (cFunc Tryz.prog) 30 9 [.d (.v (.int .i64 w))] [])=true:=by
 show isT (apF env call29 9 _ [] (cFunc Tryz.prog 9))=true
 rw[f3,apF]
 rw[head]
 exact at_all w
end Go.Proofs.YthnhboimcidhgaaGreatDoor.progNone
