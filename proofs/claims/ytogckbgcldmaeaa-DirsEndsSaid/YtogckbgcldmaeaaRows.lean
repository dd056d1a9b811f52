/-
  No cell of these rows narrows 'for every input' (looked for: loops, veiled, ifaces, maps, wideKeys, modest, calm, conditions, laid).
  DERIVED. THE GIVEN ROWS OF THIS SEAT. 11 by the template 'for every input the law returns true; each argument reads behind the call as it read before'; 0 by the template 'total and deterministic' (their statements: YtogckbgcldmaeaaTotals.lean).
  GIVEN WITH THE SEED: the statements are not yours to turn. If you find one false, say at which input.
  Laid BY PROGRAM, IN A SANDBOX (cutbox-rows.mjs): the forced cells as the released guide's own fill.sh prints them over the translation 59fb91c000d536c0… (all of the seat's roots in one cut). By AI agents, Wed Nov 11 2026. No macro, syntax, notation, axiom, sorry.
-/
import Derived.Test.YtogckbgcldmaeaaChecked
import GoSem.Claim
import GoSem.ClaimJoined
import GoSem.ClaimMapViews
import Derived.JoinedTies
import Derived.KernelRfl
namespace Go.Proofs.Ytogckbgcldmaeaa
/- THE CELL 'sum', in the pinned program and in every row, IS THE sha256 OF THE DUMP (.gsa) THAT YtogckbgcldmaeaaProg.lean LOADS. Nothing in Lean hashes anything: it is a label: what it is worth is what the hold of that sum in a sandbox is worth. -/
noncomputable def Try.pinned : Pinned := { name := "ytogckbgcldmaeaa", sum := "59fb91c000d536c0097dec5d105e075a0efa08da6c98a4eda3ceb91c6076b598", checked := Try.checked }
namespace Rows
def none {H : Type} : Left H := { results := [], args := [] }

/-- 'augurylaw24.BounGrows': WHATEVER THE INPUT: true; the input reads as it did. -/
def bounGrowsSpec : ChangeSpec := { name := "bounGrows", fn := fun _ => fun
  | [d1, d2, d3, d4, d5] => { results := [.lit (.bool true)], args := [d1, d2, d3, d4, d5] }
  | _ => none }
def bounGrowsRow : OpenClaim := { program := "ytogckbgcldmaeaa", sum := "59fb91c000d536c0097dec5d105e075a0efa08da6c98a4eda3ceb91c6076b598", func := "augury/augurylaw24.BounGrows", spec := "bounGrows", unfollowed := true, recurses := true, apart := false }
def BounGrowsSaid : Prop := bounGrowsRow.holds Try.pinned (OpenSpec.ofChange bounGrowsSpec)

/-- ITS FALSE NEIGHBOUR: 'it returns false'. Refute it at one input. -/
def bounGrowsWrong : ChangeSpec := { name := "bounGrows", fn := fun _ => fun
  | [d1, d2, d3, d4, d5] => { results := [.lit (.bool false)], args := [d1, d2, d3, d4, d5] }
  | _ => none }
def BounGrowsWrongFalsely : Prop := bounGrowsRow.holds Try.pinned (OpenSpec.ofChange bounGrowsWrong)

/-- 'augurylaw24.BounTells': WHATEVER THE INPUT: true; the input reads as it did. -/
def bounTellsSpec : ChangeSpec := { name := "bounTells", fn := fun _ => fun
  | [d1, d2, d3, d4, d5] => { results := [.lit (.bool true)], args := [d1, d2, d3, d4, d5] }
  | _ => none }
def bounTellsRow : OpenClaim := { program := "ytogckbgcldmaeaa", sum := "59fb91c000d536c0097dec5d105e075a0efa08da6c98a4eda3ceb91c6076b598", func := "augury/augurylaw24.BounTells", spec := "bounTells", unfollowed := true, recurses := true, apart := false }
def BounTellsSaid : Prop := bounTellsRow.holds Try.pinned (OpenSpec.ofChange bounTellsSpec)

/-- ITS FALSE NEIGHBOUR: 'it returns false'. Refute it at one input. -/
def bounTellsWrong : ChangeSpec := { name := "bounTells", fn := fun _ => fun
  | [d1, d2, d3, d4, d5] => { results := [.lit (.bool false)], args := [d1, d2, d3, d4, d5] }
  | _ => none }
def BounTellsWrongFalsely : Prop := bounTellsRow.holds Try.pinned (OpenSpec.ofChange bounTellsWrong)

/-- 'augurylaw15.ExecBypass': WHATEVER THE INPUT: true; the input reads as it did. -/
def execBypassSpec : ChangeSpec := { name := "execBypass", fn := fun _ => fun
  | [d1, d2, d3, d4] => { results := [.lit (.bool true)], args := [d1, d2, d3, d4] }
  | _ => none }
def execBypassRow : OpenClaim := { program := "ytogckbgcldmaeaa", sum := "59fb91c000d536c0097dec5d105e075a0efa08da6c98a4eda3ceb91c6076b598", func := "augury/augurylaw15.ExecBypass", spec := "execBypass", unfollowed := true, recurses := true, apart := false }
def ExecBypassSaid : Prop := execBypassRow.holds Try.pinned (OpenSpec.ofChange execBypassSpec)

/-- ITS FALSE NEIGHBOUR: 'it returns false'. Refute it at one input. -/
def execBypassWrong : ChangeSpec := { name := "execBypass", fn := fun _ => fun
  | [d1, d2, d3, d4] => { results := [.lit (.bool false)], args := [d1, d2, d3, d4] }
  | _ => none }
def ExecBypassWrongFalsely : Prop := execBypassRow.holds Try.pinned (OpenSpec.ofChange execBypassWrong)

/-- 'augurylaw15.ExecOrder': WHATEVER THE INPUT: true; the input reads as it did. -/
def execOrderSpec : ChangeSpec := { name := "execOrder", fn := fun _ => fun
  | [d1, d2, d3] => { results := [.lit (.bool true)], args := [d1, d2, d3] }
  | _ => none }
def execOrderRow : OpenClaim := { program := "ytogckbgcldmaeaa", sum := "59fb91c000d536c0097dec5d105e075a0efa08da6c98a4eda3ceb91c6076b598", func := "augury/augurylaw15.ExecOrder", spec := "execOrder", unfollowed := true, recurses := true, apart := false }
def ExecOrderSaid : Prop := execOrderRow.holds Try.pinned (OpenSpec.ofChange execOrderSpec)

/-- ITS FALSE NEIGHBOUR: 'it returns false'. Refute it at one input. -/
def execOrderWrong : ChangeSpec := { name := "execOrder", fn := fun _ => fun
  | [d1, d2, d3] => { results := [.lit (.bool false)], args := [d1, d2, d3] }
  | _ => none }
def ExecOrderWrongFalsely : Prop := execOrderRow.holds Try.pinned (OpenSpec.ofChange execOrderWrong)

/-- 'augurylaw15.ExecFaults': WHATEVER THE INPUT: true; the input reads as it did. -/
def execFaultsSpec : ChangeSpec := { name := "execFaults", fn := fun _ => fun
  | [d1, d2] => { results := [.lit (.bool true)], args := [d1, d2] }
  | _ => none }
def execFaultsRow : OpenClaim := { program := "ytogckbgcldmaeaa", sum := "59fb91c000d536c0097dec5d105e075a0efa08da6c98a4eda3ceb91c6076b598", func := "augury/augurylaw15.ExecFaults", spec := "execFaults", unfollowed := true, recurses := true, apart := false }
def ExecFaultsSaid : Prop := execFaultsRow.holds Try.pinned (OpenSpec.ofChange execFaultsSpec)

/-- ITS FALSE NEIGHBOUR: 'it returns false'. Refute it at one input. -/
def execFaultsWrong : ChangeSpec := { name := "execFaults", fn := fun _ => fun
  | [d1, d2] => { results := [.lit (.bool false)], args := [d1, d2] }
  | _ => none }
def ExecFaultsWrongFalsely : Prop := execFaultsRow.holds Try.pinned (OpenSpec.ofChange execFaultsWrong)

/-- 'augurylaw15.ExecCalls': WHATEVER THE INPUT: true; the input reads as it did. -/
def execCallsSpec : ChangeSpec := { name := "execCalls", fn := fun _ => fun
  | [d1, d2, d3] => { results := [.lit (.bool true)], args := [d1, d2, d3] }
  | _ => none }
def execCallsRow : OpenClaim := { program := "ytogckbgcldmaeaa", sum := "59fb91c000d536c0097dec5d105e075a0efa08da6c98a4eda3ceb91c6076b598", func := "augury/augurylaw15.ExecCalls", spec := "execCalls", unfollowed := true, recurses := true, apart := false }
def ExecCallsSaid : Prop := execCallsRow.holds Try.pinned (OpenSpec.ofChange execCallsSpec)

/-- ITS FALSE NEIGHBOUR: 'it returns false'. Refute it at one input. -/
def execCallsWrong : ChangeSpec := { name := "execCalls", fn := fun _ => fun
  | [d1, d2, d3] => { results := [.lit (.bool false)], args := [d1, d2, d3] }
  | _ => none }
def ExecCallsWrongFalsely : Prop := execCallsRow.holds Try.pinned (OpenSpec.ofChange execCallsWrong)

/-- 'augurylaw15.ExecTells': WHATEVER THE INPUT: true; the input reads as it did. -/
def execTellsSpec : ChangeSpec := { name := "execTells", fn := fun _ => fun
  | [d1, d2, d3, d4] => { results := [.lit (.bool true)], args := [d1, d2, d3, d4] }
  | _ => none }
def execTellsRow : OpenClaim := { program := "ytogckbgcldmaeaa", sum := "59fb91c000d536c0097dec5d105e075a0efa08da6c98a4eda3ceb91c6076b598", func := "augury/augurylaw15.ExecTells", spec := "execTells", unfollowed := true, recurses := true, apart := false }
def ExecTellsSaid : Prop := execTellsRow.holds Try.pinned (OpenSpec.ofChange execTellsSpec)

/-- ITS FALSE NEIGHBOUR: 'it returns false'. Refute it at one input. -/
def execTellsWrong : ChangeSpec := { name := "execTells", fn := fun _ => fun
  | [d1, d2, d3, d4] => { results := [.lit (.bool false)], args := [d1, d2, d3, d4] }
  | _ => none }
def ExecTellsWrongFalsely : Prop := execTellsRow.holds Try.pinned (OpenSpec.ofChange execTellsWrong)

/-- 'augurylaw15.ExecKeeps': WHATEVER THE INPUT: true; the input reads as it did. -/
def execKeepsSpec : ChangeSpec := { name := "execKeeps", fn := fun _ => fun
  | [d1, d2, d3] => { results := [.lit (.bool true)], args := [d1, d2, d3] }
  | _ => none }
def execKeepsRow : OpenClaim := { program := "ytogckbgcldmaeaa", sum := "59fb91c000d536c0097dec5d105e075a0efa08da6c98a4eda3ceb91c6076b598", func := "augury/augurylaw15.ExecKeeps", spec := "execKeeps", unfollowed := true, recurses := true, apart := false }
def ExecKeepsSaid : Prop := execKeepsRow.holds Try.pinned (OpenSpec.ofChange execKeepsSpec)

/-- ITS FALSE NEIGHBOUR: 'it returns false'. Refute it at one input. -/
def execKeepsWrong : ChangeSpec := { name := "execKeeps", fn := fun _ => fun
  | [d1, d2, d3] => { results := [.lit (.bool false)], args := [d1, d2, d3] }
  | _ => none }
def ExecKeepsWrongFalsely : Prop := execKeepsRow.holds Try.pinned (OpenSpec.ofChange execKeepsWrong)

/-- 'augurylaw17.DirsOrder': WHATEVER THE INPUT: true; the input reads as it did. -/
def dirsOrderSpec : ChangeSpec := { name := "dirsOrder", fn := fun _ => fun
  | [d1, d2, d3] => { results := [.lit (.bool true)], args := [d1, d2, d3] }
  | _ => none }
def dirsOrderRow : OpenClaim := { program := "ytogckbgcldmaeaa", sum := "59fb91c000d536c0097dec5d105e075a0efa08da6c98a4eda3ceb91c6076b598", func := "augury/augurylaw17.DirsOrder", spec := "dirsOrder", unfollowed := true, recurses := true, apart := false }
def DirsOrderSaid : Prop := dirsOrderRow.holds Try.pinned (OpenSpec.ofChange dirsOrderSpec)

/-- ITS FALSE NEIGHBOUR: 'it returns false'. Refute it at one input. -/
def dirsOrderWrong : ChangeSpec := { name := "dirsOrder", fn := fun _ => fun
  | [d1, d2, d3] => { results := [.lit (.bool false)], args := [d1, d2, d3] }
  | _ => none }
def DirsOrderWrongFalsely : Prop := dirsOrderRow.holds Try.pinned (OpenSpec.ofChange dirsOrderWrong)

/-- 'augurylaw17.DirsEnds': WHATEVER THE INPUT: true; the input reads as it did. -/
def dirsEndsSpec : ChangeSpec := { name := "dirsEnds", fn := fun _ => fun
  | [d1, d2, d3] => { results := [.lit (.bool true)], args := [d1, d2, d3] }
  | _ => none }
def dirsEndsRow : OpenClaim := { program := "ytogckbgcldmaeaa", sum := "59fb91c000d536c0097dec5d105e075a0efa08da6c98a4eda3ceb91c6076b598", func := "augury/augurylaw17.DirsEnds", spec := "dirsEnds", unfollowed := true, recurses := true, apart := false }
def DirsEndsSaid : Prop := dirsEndsRow.holds Try.pinned (OpenSpec.ofChange dirsEndsSpec)

/-- ITS FALSE NEIGHBOUR: 'it returns false'. Refute it at one input. -/
def dirsEndsWrong : ChangeSpec := { name := "dirsEnds", fn := fun _ => fun
  | [d1, d2, d3] => { results := [.lit (.bool false)], args := [d1, d2, d3] }
  | _ => none }
def DirsEndsWrongFalsely : Prop := dirsEndsRow.holds Try.pinned (OpenSpec.ofChange dirsEndsWrong)

/-- 'augurylaw17.DirsFence': WHATEVER THE INPUT: true; the input reads as it did. -/
def dirsFenceSpec : ChangeSpec := { name := "dirsFence", fn := fun _ => fun
  | [d1, d2] => { results := [.lit (.bool true)], args := [d1, d2] }
  | _ => none }
def dirsFenceRow : OpenClaim := { program := "ytogckbgcldmaeaa", sum := "59fb91c000d536c0097dec5d105e075a0efa08da6c98a4eda3ceb91c6076b598", func := "augury/augurylaw17.DirsFence", spec := "dirsFence", unfollowed := true, recurses := true, apart := false }
def DirsFenceSaid : Prop := dirsFenceRow.holds Try.pinned (OpenSpec.ofChange dirsFenceSpec)

/-- ITS FALSE NEIGHBOUR: 'it returns false'. Refute it at one input. -/
def dirsFenceWrong : ChangeSpec := { name := "dirsFence", fn := fun _ => fun
  | [d1, d2] => { results := [.lit (.bool false)], args := [d1, d2] }
  | _ => none }
def DirsFenceWrongFalsely : Prop := dirsFenceRow.holds Try.pinned (OpenSpec.ofChange dirsFenceWrong)

/- THE SECOND FORM. 'bulk': how many values and letters a reading holds, each counted each time it is reached (what is shared counts as often as it is met; a slice's spare places count too). A statement '..UptoSaid' is the law's where the arguments, and the package variables that the reading takes, are together of bulk at most 1048576: NARROWER than '..Said'. Prove '..Said' where nothing that the law and all that it calls make is longer than what came in: it says more and counts as full. Else prove '..UptoSaid'. A law counts once. -/
mutual
def uptoBulk {H : Type} : DataW H → Nat
  | .lit (.string bytes) => bytes.length + 1
  | .lit _ => 1
  | .nil => 1
  | .ptr d => uptoBulk d + 1
  | .slice elems spare => uptoBulkAll elems + uptoBulkAll spare + 1
  | .agg parts => uptoBulkAll parts + 1
  | .iface _ d => uptoBulk d + 1
  | .map entries => uptoBulkEntries entries + 1
  | .held _ => 1
def uptoBulkAll {H : Type} : List (DataW H) → Nat
  | [] => 0
  | d :: r => uptoBulk d + uptoBulkAll r
def uptoBulkEntries {H : Type} : List (Lit × DataW H) → Nat
  | [] => 0
  | x :: r => uptoBulkEntry x + uptoBulkEntries r
def uptoBulkEntry {H : Type} : Lit × DataW H → Nat
  | (.string bytes, d) => bytes.length + uptoBulk d + 1
  | (_, d) => uptoBulk d + 1
 end
def uptoSmall : (H : Type) → List (DataW H) → Bool := fun _ ds => decide (uptoBulkAll ds ≤ 1048576)
def OpenSpec.upto (s : _root_.Go.ChangeSpec) : _root_.Go.OpenSpec := { _root_.Go.OpenSpec.ofChange s with cond := some uptoSmall }

/-- 'augurylaw24.BounGrows', WHERE WHAT IT READS IS OF BULK AT MOST 1048576: true; the input reads as it did. -/
def bounGrowsUptoRow : OpenClaim := { program := "ytogckbgcldmaeaa", sum := "59fb91c000d536c0097dec5d105e075a0efa08da6c98a4eda3ceb91c6076b598", func := "augury/augurylaw24.BounGrows", spec := "bounGrows", unfollowed := true, recurses := true, apart := false, narrowed := true }
def BounGrowsUptoSaid : Prop := bounGrowsUptoRow.holds Try.pinned (OpenSpec.upto bounGrowsSpec)

/-- 'augurylaw24.BounTells', WHERE WHAT IT READS IS OF BULK AT MOST 1048576: true; the input reads as it did. -/
def bounTellsUptoRow : OpenClaim := { program := "ytogckbgcldmaeaa", sum := "59fb91c000d536c0097dec5d105e075a0efa08da6c98a4eda3ceb91c6076b598", func := "augury/augurylaw24.BounTells", spec := "bounTells", unfollowed := true, recurses := true, apart := false, narrowed := true }
def BounTellsUptoSaid : Prop := bounTellsUptoRow.holds Try.pinned (OpenSpec.upto bounTellsSpec)

/-- 'augurylaw15.ExecBypass', WHERE WHAT IT READS IS OF BULK AT MOST 1048576: true; the input reads as it did. -/
def execBypassUptoRow : OpenClaim := { program := "ytogckbgcldmaeaa", sum := "59fb91c000d536c0097dec5d105e075a0efa08da6c98a4eda3ceb91c6076b598", func := "augury/augurylaw15.ExecBypass", spec := "execBypass", unfollowed := true, recurses := true, apart := false, narrowed := true }
def ExecBypassUptoSaid : Prop := execBypassUptoRow.holds Try.pinned (OpenSpec.upto execBypassSpec)

/-- 'augurylaw15.ExecOrder', WHERE WHAT IT READS IS OF BULK AT MOST 1048576: true; the input reads as it did. -/
def execOrderUptoRow : OpenClaim := { program := "ytogckbgcldmaeaa", sum := "59fb91c000d536c0097dec5d105e075a0efa08da6c98a4eda3ceb91c6076b598", func := "augury/augurylaw15.ExecOrder", spec := "execOrder", unfollowed := true, recurses := true, apart := false, narrowed := true }
def ExecOrderUptoSaid : Prop := execOrderUptoRow.holds Try.pinned (OpenSpec.upto execOrderSpec)

/-- 'augurylaw15.ExecFaults', WHERE WHAT IT READS IS OF BULK AT MOST 1048576: true; the input reads as it did. -/
def execFaultsUptoRow : OpenClaim := { program := "ytogckbgcldmaeaa", sum := "59fb91c000d536c0097dec5d105e075a0efa08da6c98a4eda3ceb91c6076b598", func := "augury/augurylaw15.ExecFaults", spec := "execFaults", unfollowed := true, recurses := true, apart := false, narrowed := true }
def ExecFaultsUptoSaid : Prop := execFaultsUptoRow.holds Try.pinned (OpenSpec.upto execFaultsSpec)

/-- 'augurylaw15.ExecCalls', WHERE WHAT IT READS IS OF BULK AT MOST 1048576: true; the input reads as it did. -/
def execCallsUptoRow : OpenClaim := { program := "ytogckbgcldmaeaa", sum := "59fb91c000d536c0097dec5d105e075a0efa08da6c98a4eda3ceb91c6076b598", func := "augury/augurylaw15.ExecCalls", spec := "execCalls", unfollowed := true, recurses := true, apart := false, narrowed := true }
def ExecCallsUptoSaid : Prop := execCallsUptoRow.holds Try.pinned (OpenSpec.upto execCallsSpec)

/-- 'augurylaw15.ExecTells', WHERE WHAT IT READS IS OF BULK AT MOST 1048576: true; the input reads as it did. -/
def execTellsUptoRow : OpenClaim := { program := "ytogckbgcldmaeaa", sum := "59fb91c000d536c0097dec5d105e075a0efa08da6c98a4eda3ceb91c6076b598", func := "augury/augurylaw15.ExecTells", spec := "execTells", unfollowed := true, recurses := true, apart := false, narrowed := true }
def ExecTellsUptoSaid : Prop := execTellsUptoRow.holds Try.pinned (OpenSpec.upto execTellsSpec)

/-- 'augurylaw15.ExecKeeps', WHERE WHAT IT READS IS OF BULK AT MOST 1048576: true; the input reads as it did. -/
def execKeepsUptoRow : OpenClaim := { program := "ytogckbgcldmaeaa", sum := "59fb91c000d536c0097dec5d105e075a0efa08da6c98a4eda3ceb91c6076b598", func := "augury/augurylaw15.ExecKeeps", spec := "execKeeps", unfollowed := true, recurses := true, apart := false, narrowed := true }
def ExecKeepsUptoSaid : Prop := execKeepsUptoRow.holds Try.pinned (OpenSpec.upto execKeepsSpec)

/-- 'augurylaw17.DirsOrder', WHERE WHAT IT READS IS OF BULK AT MOST 1048576: true; the input reads as it did. -/
def dirsOrderUptoRow : OpenClaim := { program := "ytogckbgcldmaeaa", sum := "59fb91c000d536c0097dec5d105e075a0efa08da6c98a4eda3ceb91c6076b598", func := "augury/augurylaw17.DirsOrder", spec := "dirsOrder", unfollowed := true, recurses := true, apart := false, narrowed := true }
def DirsOrderUptoSaid : Prop := dirsOrderUptoRow.holds Try.pinned (OpenSpec.upto dirsOrderSpec)

/-- 'augurylaw17.DirsEnds', WHERE WHAT IT READS IS OF BULK AT MOST 1048576: true; the input reads as it did. -/
def dirsEndsUptoRow : OpenClaim := { program := "ytogckbgcldmaeaa", sum := "59fb91c000d536c0097dec5d105e075a0efa08da6c98a4eda3ceb91c6076b598", func := "augury/augurylaw17.DirsEnds", spec := "dirsEnds", unfollowed := true, recurses := true, apart := false, narrowed := true }
def DirsEndsUptoSaid : Prop := dirsEndsUptoRow.holds Try.pinned (OpenSpec.upto dirsEndsSpec)

/-- 'augurylaw17.DirsFence', WHERE WHAT IT READS IS OF BULK AT MOST 1048576: true; the input reads as it did. -/
def dirsFenceUptoRow : OpenClaim := { program := "ytogckbgcldmaeaa", sum := "59fb91c000d536c0097dec5d105e075a0efa08da6c98a4eda3ceb91c6076b598", func := "augury/augurylaw17.DirsFence", spec := "dirsFence", unfollowed := true, recurses := true, apart := false, narrowed := true }
def DirsFenceUptoSaid : Prop := dirsFenceUptoRow.holds Try.pinned (OpenSpec.upto dirsFenceSpec)

end Rows
end Go.Proofs.Ytogckbgcldmaeaa
