/-
  No cell of these rows narrows 'for every input' (looked for: loops, veiled, ifaces, maps, wideKeys, modest, calm, conditions, laid).
  DERIVED. THE GIVEN ROWS OF THIS SEAT. 4 by the template 'for every input the law returns true; each argument reads behind the call as it read before'; 0 by the template 'total and deterministic' (their statements: YtikiagojnilhiaaGreatTotals.lean).
  GIVEN WITH THE SEED: the statements are not yours to turn. If you find one false, say at which input.
  Laid BY PROGRAM, IN A SANDBOX (cutbox-rows.mjs): the forced cells as the released guide's own fill.sh prints them over the translation 3fd9b74be8e735ef… (all of the seat's roots in one cut). By AI agents, Wed Nov 11 2026. No macro, syntax, notation, axiom, sorry.
-/
import Derived.Test.YtikiagojnilhiaaGreatChecked
import GoSem.Claim
import GoSem.ClaimJoined
import GoSem.ClaimMapViews
import Derived.JoinedTies
import Derived.KernelRfl
namespace Go.Proofs.YtikiagojnilhiaaGreat
/- THE CELL 'sum', in the pinned program and in every row, IS THE sha256 OF THE DUMP (.gsa) THAT YtikiagojnilhiaaGreatProg.lean LOADS. Nothing in Lean hashes anything: it is a label: what it is worth is what the hold of that sum in a sandbox is worth. -/
noncomputable def Tryz.pinned : Pinned := { name := "ytikiagojnilhiaagreat", sum := "3fd9b74be8e735ef221a996819b59599b94ac4f0d68f54dee0d591619fe147e8", checked := Tryz.checked }
namespace Rows
def none {H : Type} : Left H := { results := [], args := [] }

/-- 'augurylaw17.DirsOwn': WHATEVER THE INPUT: true; the input reads as it did. -/
def dirsOwnSpec : ChangeSpec := { name := "dirsOwn", fn := fun _ => fun
  | [d1, d2, d3, d4] => { results := [.lit (.bool true)], args := [d1, d2, d3, d4] }
  | _ => none }
def dirsOwnRow : OpenClaim := { program := "ytikiagojnilhiaagreat", sum := "3fd9b74be8e735ef221a996819b59599b94ac4f0d68f54dee0d591619fe147e8", func := "augury/augurylaw17.DirsOwn", spec := "dirsOwn", unfollowed := true, recurses := true, apart := false }
def DirsOwnSaid : Prop := dirsOwnRow.holds Tryz.pinned (OpenSpec.ofChange dirsOwnSpec)

/-- ITS FALSE NEIGHBOUR: 'it returns false'. Refute it at one input. -/
def dirsOwnWrong : ChangeSpec := { name := "dirsOwn", fn := fun _ => fun
  | [d1, d2, d3, d4] => { results := [.lit (.bool false)], args := [d1, d2, d3, d4] }
  | _ => none }
def DirsOwnWrongFalsely : Prop := dirsOwnRow.holds Tryz.pinned (OpenSpec.ofChange dirsOwnWrong)

/-- 'augurylaw17.DirsTells': WHATEVER THE INPUT: true; the input reads as it did. -/
def dirsTellsSpec : ChangeSpec := { name := "dirsTells", fn := fun _ => fun
  | [d1, d2, d3, d4, d5] => { results := [.lit (.bool true)], args := [d1, d2, d3, d4, d5] }
  | _ => none }
def dirsTellsRow : OpenClaim := { program := "ytikiagojnilhiaagreat", sum := "3fd9b74be8e735ef221a996819b59599b94ac4f0d68f54dee0d591619fe147e8", func := "augury/augurylaw17.DirsTells", spec := "dirsTells", unfollowed := true, recurses := true, apart := false }
def DirsTellsSaid : Prop := dirsTellsRow.holds Tryz.pinned (OpenSpec.ofChange dirsTellsSpec)

/-- ITS FALSE NEIGHBOUR: 'it returns false'. Refute it at one input. -/
def dirsTellsWrong : ChangeSpec := { name := "dirsTells", fn := fun _ => fun
  | [d1, d2, d3, d4, d5] => { results := [.lit (.bool false)], args := [d1, d2, d3, d4, d5] }
  | _ => none }
def DirsTellsWrongFalsely : Prop := dirsTellsRow.holds Tryz.pinned (OpenSpec.ofChange dirsTellsWrong)

/-- 'augurylaw17.DirsAll': WHATEVER THE INPUT: true; the input reads as it did. -/
def dirsAllSpec : ChangeSpec := { name := "dirsAll", fn := fun _ => fun
  | [d1, d2, d3] => { results := [.lit (.bool true)], args := [d1, d2, d3] }
  | _ => none }
def dirsAllRow : OpenClaim := { program := "ytikiagojnilhiaagreat", sum := "3fd9b74be8e735ef221a996819b59599b94ac4f0d68f54dee0d591619fe147e8", func := "augury/augurylaw17.DirsAll", spec := "dirsAll", unfollowed := true, recurses := true, apart := false }
def DirsAllSaid : Prop := dirsAllRow.holds Tryz.pinned (OpenSpec.ofChange dirsAllSpec)

/-- ITS FALSE NEIGHBOUR: 'it returns false'. Refute it at one input. -/
def dirsAllWrong : ChangeSpec := { name := "dirsAll", fn := fun _ => fun
  | [d1, d2, d3] => { results := [.lit (.bool false)], args := [d1, d2, d3] }
  | _ => none }
def DirsAllWrongFalsely : Prop := dirsAllRow.holds Tryz.pinned (OpenSpec.ofChange dirsAllWrong)

/-- 'augurylaw22.WitnBoth': WHATEVER THE INPUT: true; the input reads as it did. -/
def witnBothSpec : ChangeSpec := { name := "witnBoth", fn := fun _ => fun
  | [d1, d2, d3, d4, d5] => { results := [.lit (.bool true)], args := [d1, d2, d3, d4, d5] }
  | _ => none }
def witnBothRow : OpenClaim := { program := "ytikiagojnilhiaagreat", sum := "3fd9b74be8e735ef221a996819b59599b94ac4f0d68f54dee0d591619fe147e8", func := "augury/augurylaw22.WitnBoth", spec := "witnBoth", unfollowed := true, recurses := true, apart := false }
def WitnBothSaid : Prop := witnBothRow.holds Tryz.pinned (OpenSpec.ofChange witnBothSpec)

/-- ITS FALSE NEIGHBOUR: 'it returns false'. Refute it at one input. -/
def witnBothWrong : ChangeSpec := { name := "witnBoth", fn := fun _ => fun
  | [d1, d2, d3, d4, d5] => { results := [.lit (.bool false)], args := [d1, d2, d3, d4, d5] }
  | _ => none }
def WitnBothWrongFalsely : Prop := witnBothRow.holds Tryz.pinned (OpenSpec.ofChange witnBothWrong)

/- THE SECOND FORM. 'bulk': how many values and letters a reading holds, each counted each time it is reached (what is shared counts as often as it is met; a slice's spare places count too). A statement '..UptoSaid' is the law's where the arguments, and the package variables that the reading takes, are together of bulk at most 1048576: NARROWER than '..Said'. Prove '..Said' where nothing that the law and all that it calls make is longer than what came in: it says more and counts as full. Else prove '..UptoSaid'. A law counts once. -/
mutual
def uptoBulk {H : Type} : DataW H → Nat
  | .lit (.string bytes) => bytes.length + 1
  | .lit _ => 1
  | .nil => 1
  | .ptr d => uptoBulk d + 1
  | .slice elems spare => uptoBulkAll elems + uptoBulkAll spare + 1
  | .agg parts => uptoBulkAll parts + 1
  | .iface _ d => uptoBulk d + 1
  | .map entries => uptoBulkEntries entries + 1
  | .held _ => 1
def uptoBulkAll {H : Type} : List (DataW H) → Nat
  | [] => 0
  | d :: r => uptoBulk d + uptoBulkAll r
def uptoBulkEntries {H : Type} : List (Lit × DataW H) → Nat
  | [] => 0
  | x :: r => uptoBulkEntry x + uptoBulkEntries r
def uptoBulkEntry {H : Type} : Lit × DataW H → Nat
  | (.string bytes, d) => bytes.length + uptoBulk d + 1
  | (_, d) => uptoBulk d + 1
 end
def uptoSmall : (H : Type) → List (DataW H) → Bool := fun _ ds => decide (uptoBulkAll ds ≤ 1048576)
def OpenSpec.upto (s : _root_.Go.ChangeSpec) : _root_.Go.OpenSpec := { _root_.Go.OpenSpec.ofChange s with cond := some uptoSmall }

/-- 'augurylaw17.DirsOwn', WHERE WHAT IT READS IS OF BULK AT MOST 1048576: true; the input reads as it did. -/
def dirsOwnUptoRow : OpenClaim := { program := "ytikiagojnilhiaagreat", sum := "3fd9b74be8e735ef221a996819b59599b94ac4f0d68f54dee0d591619fe147e8", func := "augury/augurylaw17.DirsOwn", spec := "dirsOwn", unfollowed := true, recurses := true, apart := false, narrowed := true }
def DirsOwnUptoSaid : Prop := dirsOwnUptoRow.holds Tryz.pinned (OpenSpec.upto dirsOwnSpec)

/-- 'augurylaw17.DirsTells', WHERE WHAT IT READS IS OF BULK AT MOST 1048576: true; the input reads as it did. -/
def dirsTellsUptoRow : OpenClaim := { program := "ytikiagojnilhiaagreat", sum := "3fd9b74be8e735ef221a996819b59599b94ac4f0d68f54dee0d591619fe147e8", func := "augury/augurylaw17.DirsTells", spec := "dirsTells", unfollowed := true, recurses := true, apart := false, narrowed := true }
def DirsTellsUptoSaid : Prop := dirsTellsUptoRow.holds Tryz.pinned (OpenSpec.upto dirsTellsSpec)

/-- 'augurylaw17.DirsAll', WHERE WHAT IT READS IS OF BULK AT MOST 1048576: true; the input reads as it did. -/
def dirsAllUptoRow : OpenClaim := { program := "ytikiagojnilhiaagreat", sum := "3fd9b74be8e735ef221a996819b59599b94ac4f0d68f54dee0d591619fe147e8", func := "augury/augurylaw17.DirsAll", spec := "dirsAll", unfollowed := true, recurses := true, apart := false, narrowed := true }
def DirsAllUptoSaid : Prop := dirsAllUptoRow.holds Tryz.pinned (OpenSpec.upto dirsAllSpec)

/-- 'augurylaw22.WitnBoth', WHERE WHAT IT READS IS OF BULK AT MOST 1048576: true; the input reads as it did. -/
def witnBothUptoRow : OpenClaim := { program := "ytikiagojnilhiaagreat", sum := "3fd9b74be8e735ef221a996819b59599b94ac4f0d68f54dee0d591619fe147e8", func := "augury/augurylaw22.WitnBoth", spec := "witnBoth", unfollowed := true, recurses := true, apart := false, narrowed := true }
def WitnBothUptoSaid : Prop := witnBothUptoRow.holds Tryz.pinned (OpenSpec.upto witnBothSpec)

end Rows
end Go.Proofs.YtikiagojnilhiaaGreat
