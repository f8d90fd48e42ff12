/-
  No cell of these rows narrows 'for every input' (looked for: loops, veiled, ifaces, maps, wideKeys, modest, calm, conditions, laid).
  DERIVED. THE GIVEN ROWS OF THIS SEAT. 3 by the template 'for every input the law returns true; each argument reads behind the call as it read before'; 0 by the template 'total and deterministic' (their statements: YtikenamkplgabaaGreatTotals.lean).
  GIVEN WITH THE SEED: the statements are not yours to turn. If you find one false, say at which input.
  Laid BY PROGRAM, IN A SANDBOX (cutbox-rows.mjs): the forced cells as the released guide's own fill.sh prints them over the translation 418d1bcd6be3b52d… (all of the seat's roots in one cut). By AI agents, Wed Nov 11 2026. No macro, syntax, notation, axiom, sorry.
-/
import Derived.Test.YtikenamkplgabaaGreatChecked
import GoSem.Claim
import GoSem.ClaimJoined
import GoSem.ClaimMapViews
import Derived.JoinedTies
import Derived.KernelRfl
namespace Go.Proofs.YtikenamkplgabaaGreat
/- THE CELL 'sum', in the pinned program and in every row, IS THE sha256 OF THE DUMP (.gsa) THAT YtikenamkplgabaaGreatProg.lean LOADS. Nothing in Lean hashes anything: it is a label: what it is worth is what the hold of that sum in a sandbox is worth. -/
noncomputable def Tryz.pinned : Pinned := { name := "ytikenamkplgabaagreat", sum := "418d1bcd6be3b52dbd4e5d619170bee4e65dce247a3543cd360b0f0820853dc1", checked := Tryz.checked }
namespace Rows
def none {H : Type} : Left H := { results := [], args := [] }

/-- 'laws.FnStaged': WHATEVER THE INPUT: true; the input reads as it did. -/
def fnStagedSpec : ChangeSpec := { name := "fnStaged", fn := fun _ => fun
  | [d] => { results := [.lit (.bool true)], args := [d] }
  | _ => none }
def fnStagedRow : OpenClaim := { program := "ytikenamkplgabaagreat", sum := "418d1bcd6be3b52dbd4e5d619170bee4e65dce247a3543cd360b0f0820853dc1", func := "loop.example/g00089/laws.FnStaged", spec := "fnStaged", inPlace := ["internal/bytealg.abigen_runtime_cmpstring"], unfollowed := true, recurses := true, apart := false }
def FnStagedSaid : Prop := fnStagedRow.holds Tryz.pinned (OpenSpec.ofChange fnStagedSpec)

/-- ITS FALSE NEIGHBOUR: 'it returns false'. Refute it at one input. -/
def fnStagedWrong : ChangeSpec := { name := "fnStaged", fn := fun _ => fun
  | [d] => { results := [.lit (.bool false)], args := [d] }
  | _ => none }
def FnStagedWrongFalsely : Prop := fnStagedRow.holds Tryz.pinned (OpenSpec.ofChange fnStagedWrong)

/-- 'laws.FnRebuilt': WHATEVER THE INPUT: true; the input reads as it did. -/
def fnRebuiltSpec : ChangeSpec := { name := "fnRebuilt", fn := fun _ => fun
  | [d] => { results := [.lit (.bool true)], args := [d] }
  | _ => none }
def fnRebuiltRow : OpenClaim := { program := "ytikenamkplgabaagreat", sum := "418d1bcd6be3b52dbd4e5d619170bee4e65dce247a3543cd360b0f0820853dc1", func := "loop.example/g00089/laws.FnRebuilt", spec := "fnRebuilt", unfollowed := true, recurses := true, apart := false }
def FnRebuiltSaid : Prop := fnRebuiltRow.holds Tryz.pinned (OpenSpec.ofChange fnRebuiltSpec)

/-- ITS FALSE NEIGHBOUR: 'it returns false'. Refute it at one input. -/
def fnRebuiltWrong : ChangeSpec := { name := "fnRebuilt", fn := fun _ => fun
  | [d] => { results := [.lit (.bool false)], args := [d] }
  | _ => none }
def FnRebuiltWrongFalsely : Prop := fnRebuiltRow.holds Tryz.pinned (OpenSpec.ofChange fnRebuiltWrong)

/-- 'laws.FnShareRows': WHATEVER THE INPUT: true; the input reads as it did. -/
def fnShareRowsSpec : ChangeSpec := { name := "fnShareRows", fn := fun _ => fun
  | [d] => { results := [.lit (.bool true)], args := [d] }
  | _ => none }
def fnShareRowsRow : OpenClaim := { program := "ytikenamkplgabaagreat", sum := "418d1bcd6be3b52dbd4e5d619170bee4e65dce247a3543cd360b0f0820853dc1", func := "loop.example/g00089/laws.FnShareRows", spec := "fnShareRows", unfollowed := true, recurses := true, apart := false }
def FnShareRowsSaid : Prop := fnShareRowsRow.holds Tryz.pinned (OpenSpec.ofChange fnShareRowsSpec)

/-- ITS FALSE NEIGHBOUR: 'it returns false'. Refute it at one input. -/
def fnShareRowsWrong : ChangeSpec := { name := "fnShareRows", fn := fun _ => fun
  | [d] => { results := [.lit (.bool false)], args := [d] }
  | _ => none }
def FnShareRowsWrongFalsely : Prop := fnShareRowsRow.holds Tryz.pinned (OpenSpec.ofChange fnShareRowsWrong)

/- THE SECOND FORM. 'bulk': how many values and letters a reading holds, each counted each time it is reached (what is shared counts as often as it is met; a slice's spare places count too). A statement '..UptoSaid' is the law's where the arguments, and the package variables that the reading takes, are together of bulk at most 1048576: NARROWER than '..Said'. Prove '..Said' where nothing that the law and all that it calls make is longer than what came in: it says more and counts as full. Else prove '..UptoSaid'. A law counts once. -/
mutual
def uptoBulk {H : Type} : DataW H → Nat
  | .lit (.string bytes) => bytes.length + 1
  | .lit _ => 1
  | .nil => 1
  | .ptr d => uptoBulk d + 1
  | .slice elems spare => uptoBulkAll elems + uptoBulkAll spare + 1
  | .agg parts => uptoBulkAll parts + 1
  | .iface _ d => uptoBulk d + 1
  | .map entries => uptoBulkEntries entries + 1
  | .held _ => 1
def uptoBulkAll {H : Type} : List (DataW H) → Nat
  | [] => 0
  | d :: r => uptoBulk d + uptoBulkAll r
def uptoBulkEntries {H : Type} : List (Lit × DataW H) → Nat
  | [] => 0
  | x :: r => uptoBulkEntry x + uptoBulkEntries r
def uptoBulkEntry {H : Type} : Lit × DataW H → Nat
  | (.string bytes, d) => bytes.length + uptoBulk d + 1
  | (_, d) => uptoBulk d + 1
 end
def uptoSmall : (H : Type) → List (DataW H) → Bool := fun _ ds => decide (uptoBulkAll ds ≤ 1048576)
def OpenSpec.upto (s : _root_.Go.ChangeSpec) : _root_.Go.OpenSpec := { _root_.Go.OpenSpec.ofChange s with cond := some uptoSmall }

/-- 'laws.FnStaged', WHERE WHAT IT READS IS OF BULK AT MOST 1048576: true; the input reads as it did. -/
def fnStagedUptoRow : OpenClaim := { program := "ytikenamkplgabaagreat", sum := "418d1bcd6be3b52dbd4e5d619170bee4e65dce247a3543cd360b0f0820853dc1", func := "loop.example/g00089/laws.FnStaged", spec := "fnStaged", inPlace := ["internal/bytealg.abigen_runtime_cmpstring"], unfollowed := true, recurses := true, apart := false, narrowed := true }
def FnStagedUptoSaid : Prop := fnStagedUptoRow.holds Tryz.pinned (OpenSpec.upto fnStagedSpec)

/-- 'laws.FnRebuilt', WHERE WHAT IT READS IS OF BULK AT MOST 1048576: true; the input reads as it did. -/
def fnRebuiltUptoRow : OpenClaim := { program := "ytikenamkplgabaagreat", sum := "418d1bcd6be3b52dbd4e5d619170bee4e65dce247a3543cd360b0f0820853dc1", func := "loop.example/g00089/laws.FnRebuilt", spec := "fnRebuilt", unfollowed := true, recurses := true, apart := false, narrowed := true }
def FnRebuiltUptoSaid : Prop := fnRebuiltUptoRow.holds Tryz.pinned (OpenSpec.upto fnRebuiltSpec)

/-- 'laws.FnShareRows', WHERE WHAT IT READS IS OF BULK AT MOST 1048576: true; the input reads as it did. -/
def fnShareRowsUptoRow : OpenClaim := { program := "ytikenamkplgabaagreat", sum := "418d1bcd6be3b52dbd4e5d619170bee4e65dce247a3543cd360b0f0820853dc1", func := "loop.example/g00089/laws.FnShareRows", spec := "fnShareRows", unfollowed := true, recurses := true, apart := false, narrowed := true }
def FnShareRowsUptoSaid : Prop := fnShareRowsUptoRow.holds Tryz.pinned (OpenSpec.upto fnShareRowsSpec)

end Rows
end Go.Proofs.YtikenamkplgabaaGreat
