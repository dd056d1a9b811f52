/-
  No cell of these rows narrows 'for every input' (looked for: loops, veiled, ifaces, maps, wideKeys, modest, calm, conditions, laid).
  DERIVED. THE GIVEN ROWS OF THIS SEAT. 5 by the template 'for every input the law returns true; each argument reads behind the call as it read before'; 0 by the template 'total and deterministic' (their statements: YtmfdoekbjkgckaaGreatTotals.lean).
  GIVEN WITH THE SEED: the statements are not yours to turn. If you find one false, say at which input.
  Laid BY PROGRAM, IN A SANDBOX (cutbox-rows.mjs): the forced cells as the released guide's own fill.sh prints them over the translation 932f8c22036ac148… (all of the seat's roots in one cut). By AI agents, Wed Nov 11 2026. No macro, syntax, notation, axiom, sorry.
-/
import Derived.Test.YtmfdoekbjkgckaaGreatChecked
import GoSem.Claim
import GoSem.ClaimJoined
import GoSem.ClaimMapViews
import Derived.JoinedTies
import Derived.KernelRfl
namespace Go.Proofs.YtmfdoekbjkgckaaGreat
/- THE CELL 'sum', in the pinned program and in every row, IS THE sha256 OF THE DUMP (.gsa) THAT YtmfdoekbjkgckaaGreatProg.lean LOADS. Nothing in Lean hashes anything: it is a label: what it is worth is what the hold of that sum in a sandbox is worth. -/
noncomputable def Tryz.pinned : Pinned := { name := "ytmfdoekbjkgckaagreat", sum := "932f8c22036ac1486cae162a9c448fb0bfb0976a5e58c8d53f31cc1c6fa7ab22", checked := Tryz.checked }
namespace Rows
def none {H : Type} : Left H := { results := [], args := [] }

/-- 'augurylaw20.ProdTurned': WHATEVER THE INPUT: true; the input reads as it did. -/
def prodTurnedSpec : ChangeSpec := { name := "prodTurned", fn := fun _ => fun
  | [d1, d2, d3, d4] => { results := [.lit (.bool true)], args := [d1, d2, d3, d4] }
  | _ => none }
def prodTurnedRow : OpenClaim := { program := "ytmfdoekbjkgckaagreat", sum := "932f8c22036ac1486cae162a9c448fb0bfb0976a5e58c8d53f31cc1c6fa7ab22", func := "augury/augurylaw20.ProdTurned", spec := "prodTurned", unfollowed := true, recurses := true, apart := false }
def ProdTurnedSaid : Prop := prodTurnedRow.holds Tryz.pinned (OpenSpec.ofChange prodTurnedSpec)

/-- ITS FALSE NEIGHBOUR: 'it returns false'. Refute it at one input. -/
def prodTurnedWrong : ChangeSpec := { name := "prodTurned", fn := fun _ => fun
  | [d1, d2, d3, d4] => { results := [.lit (.bool false)], args := [d1, d2, d3, d4] }
  | _ => none }
def ProdTurnedWrongFalsely : Prop := prodTurnedRow.holds Tryz.pinned (OpenSpec.ofChange prodTurnedWrong)

/-- 'augurylaw20.ProdAll': WHATEVER THE INPUT: true; the input reads as it did. -/
def prodAllSpec : ChangeSpec := { name := "prodAll", fn := fun _ => fun
  | [d1, d2, d3, d4] => { results := [.lit (.bool true)], args := [d1, d2, d3, d4] }
  | _ => none }
def prodAllRow : OpenClaim := { program := "ytmfdoekbjkgckaagreat", sum := "932f8c22036ac1486cae162a9c448fb0bfb0976a5e58c8d53f31cc1c6fa7ab22", func := "augury/augurylaw20.ProdAll", spec := "prodAll", unfollowed := true, recurses := true, apart := false }
def ProdAllSaid : Prop := prodAllRow.holds Tryz.pinned (OpenSpec.ofChange prodAllSpec)

/-- ITS FALSE NEIGHBOUR: 'it returns false'. Refute it at one input. -/
def prodAllWrong : ChangeSpec := { name := "prodAll", fn := fun _ => fun
  | [d1, d2, d3, d4] => { results := [.lit (.bool false)], args := [d1, d2, d3, d4] }
  | _ => none }
def ProdAllWrongFalsely : Prop := prodAllRow.holds Tryz.pinned (OpenSpec.ofChange prodAllWrong)

/-- 'augurylaw20.ProdCodes': WHATEVER THE INPUT: true; the input reads as it did. -/
def prodCodesSpec : ChangeSpec := { name := "prodCodes", fn := fun _ => fun
  | [d1, d2, d3, d4, d5, d6] => { results := [.lit (.bool true)], args := [d1, d2, d3, d4, d5, d6] }
  | _ => none }
def prodCodesRow : OpenClaim := { program := "ytmfdoekbjkgckaagreat", sum := "932f8c22036ac1486cae162a9c448fb0bfb0976a5e58c8d53f31cc1c6fa7ab22", func := "augury/augurylaw20.ProdCodes", spec := "prodCodes", unfollowed := true, recurses := true, apart := false }
def ProdCodesSaid : Prop := prodCodesRow.holds Tryz.pinned (OpenSpec.ofChange prodCodesSpec)

/-- ITS FALSE NEIGHBOUR: 'it returns false'. Refute it at one input. -/
def prodCodesWrong : ChangeSpec := { name := "prodCodes", fn := fun _ => fun
  | [d1, d2, d3, d4, d5, d6] => { results := [.lit (.bool false)], args := [d1, d2, d3, d4, d5, d6] }
  | _ => none }
def ProdCodesWrongFalsely : Prop := prodCodesRow.holds Tryz.pinned (OpenSpec.ofChange prodCodesWrong)

/-- 'augurylaw20.ProdTells': WHATEVER THE INPUT: true; the input reads as it did. -/
def prodTellsSpec : ChangeSpec := { name := "prodTells", fn := fun _ => fun
  | [d1, d2, d3, d4, d5] => { results := [.lit (.bool true)], args := [d1, d2, d3, d4, d5] }
  | _ => none }
def prodTellsRow : OpenClaim := { program := "ytmfdoekbjkgckaagreat", sum := "932f8c22036ac1486cae162a9c448fb0bfb0976a5e58c8d53f31cc1c6fa7ab22", func := "augury/augurylaw20.ProdTells", spec := "prodTells", unfollowed := true, recurses := true, apart := false }
def ProdTellsSaid : Prop := prodTellsRow.holds Tryz.pinned (OpenSpec.ofChange prodTellsSpec)

/-- ITS FALSE NEIGHBOUR: 'it returns false'. Refute it at one input. -/
def prodTellsWrong : ChangeSpec := { name := "prodTells", fn := fun _ => fun
  | [d1, d2, d3, d4, d5] => { results := [.lit (.bool false)], args := [d1, d2, d3, d4, d5] }
  | _ => none }
def ProdTellsWrongFalsely : Prop := prodTellsRow.holds Tryz.pinned (OpenSpec.ofChange prodTellsWrong)

/-- 'augurylaw20.ProdOne': WHATEVER THE INPUT: true; the input reads as it did. -/
def prodOneSpec : ChangeSpec := { name := "prodOne", fn := fun _ => fun
  | [d1, d2, d3] => { results := [.lit (.bool true)], args := [d1, d2, d3] }
  | _ => none }
def prodOneRow : OpenClaim := { program := "ytmfdoekbjkgckaagreat", sum := "932f8c22036ac1486cae162a9c448fb0bfb0976a5e58c8d53f31cc1c6fa7ab22", func := "augury/augurylaw20.ProdOne", spec := "prodOne", unfollowed := true, recurses := true, apart := false }
def ProdOneSaid : Prop := prodOneRow.holds Tryz.pinned (OpenSpec.ofChange prodOneSpec)

/-- ITS FALSE NEIGHBOUR: 'it returns false'. Refute it at one input. -/
def prodOneWrong : ChangeSpec := { name := "prodOne", fn := fun _ => fun
  | [d1, d2, d3] => { results := [.lit (.bool false)], args := [d1, d2, d3] }
  | _ => none }
def ProdOneWrongFalsely : Prop := prodOneRow.holds Tryz.pinned (OpenSpec.ofChange prodOneWrong)

/- THE SECOND FORM. 'bulk': how many values and letters a reading holds, each counted each time it is reached (what is shared counts as often as it is met; a slice's spare places count too). A statement '..UptoSaid' is the law's where the arguments, and the package variables that the reading takes, are together of bulk at most 1048576: NARROWER than '..Said'. Prove '..Said' where nothing that the law and all that it calls make is longer than what came in: it says more and counts as full. Else prove '..UptoSaid'. A law counts once. -/
mutual
def uptoBulk {H : Type} : DataW H → Nat
  | .lit (.string bytes) => bytes.length + 1
  | .lit _ => 1
  | .nil => 1
  | .ptr d => uptoBulk d + 1
  | .slice elems spare => uptoBulkAll elems + uptoBulkAll spare + 1
  | .agg parts => uptoBulkAll parts + 1
  | .iface _ d => uptoBulk d + 1
  | .map entries => uptoBulkEntries entries + 1
  | .held _ => 1
def uptoBulkAll {H : Type} : List (DataW H) → Nat
  | [] => 0
  | d :: r => uptoBulk d + uptoBulkAll r
def uptoBulkEntries {H : Type} : List (Lit × DataW H) → Nat
  | [] => 0
  | x :: r => uptoBulkEntry x + uptoBulkEntries r
def uptoBulkEntry {H : Type} : Lit × DataW H → Nat
  | (.string bytes, d) => bytes.length + uptoBulk d + 1
  | (_, d) => uptoBulk d + 1
 end
def uptoSmall : (H : Type) → List (DataW H) → Bool := fun _ ds => decide (uptoBulkAll ds ≤ 1048576)
def OpenSpec.upto (s : _root_.Go.ChangeSpec) : _root_.Go.OpenSpec := { _root_.Go.OpenSpec.ofChange s with cond := some uptoSmall }

/-- 'augurylaw20.ProdTurned', WHERE WHAT IT READS IS OF BULK AT MOST 1048576: true; the input reads as it did. -/
def prodTurnedUptoRow : OpenClaim := { program := "ytmfdoekbjkgckaagreat", sum := "932f8c22036ac1486cae162a9c448fb0bfb0976a5e58c8d53f31cc1c6fa7ab22", func := "augury/augurylaw20.ProdTurned", spec := "prodTurned", unfollowed := true, recurses := true, apart := false, narrowed := true }
def ProdTurnedUptoSaid : Prop := prodTurnedUptoRow.holds Tryz.pinned (OpenSpec.upto prodTurnedSpec)

/-- 'augurylaw20.ProdAll', WHERE WHAT IT READS IS OF BULK AT MOST 1048576: true; the input reads as it did. -/
def prodAllUptoRow : OpenClaim := { program := "ytmfdoekbjkgckaagreat", sum := "932f8c22036ac1486cae162a9c448fb0bfb0976a5e58c8d53f31cc1c6fa7ab22", func := "augury/augurylaw20.ProdAll", spec := "prodAll", unfollowed := true, recurses := true, apart := false, narrowed := true }
def ProdAllUptoSaid : Prop := prodAllUptoRow.holds Tryz.pinned (OpenSpec.upto prodAllSpec)

/-- 'augurylaw20.ProdCodes', WHERE WHAT IT READS IS OF BULK AT MOST 1048576: true; the input reads as it did. -/
def prodCodesUptoRow : OpenClaim := { program := "ytmfdoekbjkgckaagreat", sum := "932f8c22036ac1486cae162a9c448fb0bfb0976a5e58c8d53f31cc1c6fa7ab22", func := "augury/augurylaw20.ProdCodes", spec := "prodCodes", unfollowed := true, recurses := true, apart := false, narrowed := true }
def ProdCodesUptoSaid : Prop := prodCodesUptoRow.holds Tryz.pinned (OpenSpec.upto prodCodesSpec)

/-- 'augurylaw20.ProdTells', WHERE WHAT IT READS IS OF BULK AT MOST 1048576: true; the input reads as it did. -/
def prodTellsUptoRow : OpenClaim := { program := "ytmfdoekbjkgckaagreat", sum := "932f8c22036ac1486cae162a9c448fb0bfb0976a5e58c8d53f31cc1c6fa7ab22", func := "augury/augurylaw20.ProdTells", spec := "prodTells", unfollowed := true, recurses := true, apart := false, narrowed := true }
def ProdTellsUptoSaid : Prop := prodTellsUptoRow.holds Tryz.pinned (OpenSpec.upto prodTellsSpec)

/-- 'augurylaw20.ProdOne', WHERE WHAT IT READS IS OF BULK AT MOST 1048576: true; the input reads as it did. -/
def prodOneUptoRow : OpenClaim := { program := "ytmfdoekbjkgckaagreat", sum := "932f8c22036ac1486cae162a9c448fb0bfb0976a5e58c8d53f31cc1c6fa7ab22", func := "augury/augurylaw20.ProdOne", spec := "prodOne", unfollowed := true, recurses := true, apart := false, narrowed := true }
def ProdOneUptoSaid : Prop := prodOneUptoRow.holds Tryz.pinned (OpenSpec.upto prodOneSpec)

end Rows
end Go.Proofs.YtmfdoekbjkgckaaGreat
