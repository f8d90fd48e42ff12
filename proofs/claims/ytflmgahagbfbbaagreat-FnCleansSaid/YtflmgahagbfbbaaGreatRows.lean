/-
  No cell of these rows narrows 'for every input' (looked for: loops, veiled, ifaces, maps, wideKeys, modest, calm, conditions, laid).
  DERIVED. THE GIVEN ROWS OF THIS SEAT. 5 by the template 'for every input the law returns true; each argument reads behind the call as it read before'; 0 by the template 'total and deterministic' (their statements: YtflmgahagbfbbaaGreatTotals.lean).
  GIVEN WITH THE SEED: the statements are not yours to turn. If you find one false, say at which input.
  Laid BY PROGRAM, IN A SANDBOX (cutbox-rows.mjs): the forced cells as the released guide's own fill.sh prints them over the translation 2c89eca67fa68d3b… (all of the seat's roots in one cut). By AI agents, Wed Nov 11 2026. No macro, syntax, notation, axiom, sorry.
-/
import Derived.Test.YtflmgahagbfbbaaGreatChecked
import GoSem.Claim
import GoSem.ClaimJoined
import GoSem.ClaimMapViews
import Derived.JoinedTies
import Derived.KernelRfl
namespace Go.Proofs.YtflmgahagbfbbaaGreat
/- THE CELL 'sum', in the pinned program and in every row, IS THE sha256 OF THE DUMP (.gsa) THAT YtflmgahagbfbbaaGreatProg.lean LOADS. Nothing in Lean hashes anything: it is a label: what it is worth is what the hold of that sum in a sandbox is worth. -/
noncomputable def Tryz.pinned : Pinned := { name := "ytflmgahagbfbbaagreat", sum := "2c89eca67fa68d3b2000883eca7bb5a9da445f349847ef4cbf2569ecf2cf565b", checked := Tryz.checked }
namespace Rows
def none {H : Type} : Left H := { results := [], args := [] }

/-- 'laws.FnExactRepairTapes': WHATEVER THE INPUT: true; the input reads as it did. -/
def fnExactRepairTapesSpec : ChangeSpec := { name := "fnExactRepairTapes", fn := fun _ => fun
  | [d] => { results := [.lit (.bool true)], args := [d] }
  | _ => none }
def fnExactRepairTapesRow : OpenClaim := { program := "ytflmgahagbfbbaagreat", sum := "2c89eca67fa68d3b2000883eca7bb5a9da445f349847ef4cbf2569ecf2cf565b", func := "loop.example/g00089/laws.FnExactRepairTapes", spec := "fnExactRepairTapes", unfollowed := true, recurses := true, apart := false }
def FnExactRepairTapesSaid : Prop := fnExactRepairTapesRow.holds Tryz.pinned (OpenSpec.ofChange fnExactRepairTapesSpec)

/-- ITS FALSE NEIGHBOUR: 'it returns false'. Refute it at one input. -/
def fnExactRepairTapesWrong : ChangeSpec := { name := "fnExactRepairTapes", fn := fun _ => fun
  | [d] => { results := [.lit (.bool false)], args := [d] }
  | _ => none }
def FnExactRepairTapesWrongFalsely : Prop := fnExactRepairTapesRow.holds Tryz.pinned (OpenSpec.ofChange fnExactRepairTapesWrong)

/-- 'laws.FnRedo': WHATEVER THE INPUT: true; the input reads as it did. -/
def fnRedoSpec : ChangeSpec := { name := "fnRedo", fn := fun _ => fun
  | [d] => { results := [.lit (.bool true)], args := [d] }
  | _ => none }
def fnRedoRow : OpenClaim := { program := "ytflmgahagbfbbaagreat", sum := "2c89eca67fa68d3b2000883eca7bb5a9da445f349847ef4cbf2569ecf2cf565b", func := "loop.example/g00089/laws.FnRedo", spec := "fnRedo", unfollowed := true, recurses := true, apart := false }
def FnRedoSaid : Prop := fnRedoRow.holds Tryz.pinned (OpenSpec.ofChange fnRedoSpec)

/-- ITS FALSE NEIGHBOUR: 'it returns false'. Refute it at one input. -/
def fnRedoWrong : ChangeSpec := { name := "fnRedo", fn := fun _ => fun
  | [d] => { results := [.lit (.bool false)], args := [d] }
  | _ => none }
def FnRedoWrongFalsely : Prop := fnRedoRow.holds Tryz.pinned (OpenSpec.ofChange fnRedoWrong)

/-- 'laws.FnRedoCuts': WHATEVER THE INPUT: true; the input reads as it did. -/
def fnRedoCutsSpec : ChangeSpec := { name := "fnRedoCuts", fn := fun _ => fun
  | [d] => { results := [.lit (.bool true)], args := [d] }
  | _ => none }
def fnRedoCutsRow : OpenClaim := { program := "ytflmgahagbfbbaagreat", sum := "2c89eca67fa68d3b2000883eca7bb5a9da445f349847ef4cbf2569ecf2cf565b", func := "loop.example/g00089/laws.FnRedoCuts", spec := "fnRedoCuts", unfollowed := true, recurses := true, apart := false }
def FnRedoCutsSaid : Prop := fnRedoCutsRow.holds Tryz.pinned (OpenSpec.ofChange fnRedoCutsSpec)

/-- ITS FALSE NEIGHBOUR: 'it returns false'. Refute it at one input. -/
def fnRedoCutsWrong : ChangeSpec := { name := "fnRedoCuts", fn := fun _ => fun
  | [d] => { results := [.lit (.bool false)], args := [d] }
  | _ => none }
def FnRedoCutsWrongFalsely : Prop := fnRedoCutsRow.holds Tryz.pinned (OpenSpec.ofChange fnRedoCutsWrong)

/-- 'laws.FnRepairs': WHATEVER THE INPUT: true; the input reads as it did. -/
def fnRepairsSpec : ChangeSpec := { name := "fnRepairs", fn := fun _ => fun
  | [d] => { results := [.lit (.bool true)], args := [d] }
  | _ => none }
def fnRepairsRow : OpenClaim := { program := "ytflmgahagbfbbaagreat", sum := "2c89eca67fa68d3b2000883eca7bb5a9da445f349847ef4cbf2569ecf2cf565b", func := "loop.example/g00089/laws.FnRepairs", spec := "fnRepairs", unfollowed := true, recurses := true, apart := false }
def FnRepairsSaid : Prop := fnRepairsRow.holds Tryz.pinned (OpenSpec.ofChange fnRepairsSpec)

/-- ITS FALSE NEIGHBOUR: 'it returns false'. Refute it at one input. -/
def fnRepairsWrong : ChangeSpec := { name := "fnRepairs", fn := fun _ => fun
  | [d] => { results := [.lit (.bool false)], args := [d] }
  | _ => none }
def FnRepairsWrongFalsely : Prop := fnRepairsRow.holds Tryz.pinned (OpenSpec.ofChange fnRepairsWrong)

/-- 'laws.FnCleans': WHATEVER THE INPUT: true; the input reads as it did. -/
def fnCleansSpec : ChangeSpec := { name := "fnCleans", fn := fun _ => fun
  | [d] => { results := [.lit (.bool true)], args := [d] }
  | _ => none }
def fnCleansRow : OpenClaim := { program := "ytflmgahagbfbbaagreat", sum := "2c89eca67fa68d3b2000883eca7bb5a9da445f349847ef4cbf2569ecf2cf565b", func := "loop.example/g00089/laws.FnCleans", spec := "fnCleans", inPlace := ["internal/bytealg.abigen_runtime_cmpstring"], unfollowed := true, recurses := true, apart := false }
def FnCleansSaid : Prop := fnCleansRow.holds Tryz.pinned (OpenSpec.ofChange fnCleansSpec)

/-- ITS FALSE NEIGHBOUR: 'it returns false'. Refute it at one input. -/
def fnCleansWrong : ChangeSpec := { name := "fnCleans", fn := fun _ => fun
  | [d] => { results := [.lit (.bool false)], args := [d] }
  | _ => none }
def FnCleansWrongFalsely : Prop := fnCleansRow.holds Tryz.pinned (OpenSpec.ofChange fnCleansWrong)

/- THE SECOND FORM. 'bulk': how many values and letters a reading holds, each counted each time it is reached (what is shared counts as often as it is met; a slice's spare places count too). A statement '..UptoSaid' is the law's where the arguments, and the package variables that the reading takes, are together of bulk at most 1048576: NARROWER than '..Said'. Prove '..Said' where nothing that the law and all that it calls make is longer than what came in: it says more and counts as full. Else prove '..UptoSaid'. A law counts once. -/
mutual
def uptoBulk {H : Type} : DataW H → Nat
  | .lit (.string bytes) => bytes.length + 1
  | .lit _ => 1
  | .nil => 1
  | .ptr d => uptoBulk d + 1
  | .slice elems spare => uptoBulkAll elems + uptoBulkAll spare + 1
  | .agg parts => uptoBulkAll parts + 1
  | .iface _ d => uptoBulk d + 1
  | .map entries => uptoBulkEntries entries + 1
  | .held _ => 1
def uptoBulkAll {H : Type} : List (DataW H) → Nat
  | [] => 0
  | d :: r => uptoBulk d + uptoBulkAll r
def uptoBulkEntries {H : Type} : List (Lit × DataW H) → Nat
  | [] => 0
  | x :: r => uptoBulkEntry x + uptoBulkEntries r
def uptoBulkEntry {H : Type} : Lit × DataW H → Nat
  | (.string bytes, d) => bytes.length + uptoBulk d + 1
  | (_, d) => uptoBulk d + 1
 end
def uptoSmall : (H : Type) → List (DataW H) → Bool := fun _ ds => decide (uptoBulkAll ds ≤ 1048576)
def OpenSpec.upto (s : _root_.Go.ChangeSpec) : _root_.Go.OpenSpec := { _root_.Go.OpenSpec.ofChange s with cond := some uptoSmall }

/-- 'laws.FnExactRepairTapes', WHERE WHAT IT READS IS OF BULK AT MOST 1048576: true; the input reads as it did. -/
def fnExactRepairTapesUptoRow : OpenClaim := { program := "ytflmgahagbfbbaagreat", sum := "2c89eca67fa68d3b2000883eca7bb5a9da445f349847ef4cbf2569ecf2cf565b", func := "loop.example/g00089/laws.FnExactRepairTapes", spec := "fnExactRepairTapes", unfollowed := true, recurses := true, apart := false, narrowed := true }
def FnExactRepairTapesUptoSaid : Prop := fnExactRepairTapesUptoRow.holds Tryz.pinned (OpenSpec.upto fnExactRepairTapesSpec)

/-- 'laws.FnRedo', WHERE WHAT IT READS IS OF BULK AT MOST 1048576: true; the input reads as it did. -/
def fnRedoUptoRow : OpenClaim := { program := "ytflmgahagbfbbaagreat", sum := "2c89eca67fa68d3b2000883eca7bb5a9da445f349847ef4cbf2569ecf2cf565b", func := "loop.example/g00089/laws.FnRedo", spec := "fnRedo", unfollowed := true, recurses := true, apart := false, narrowed := true }
def FnRedoUptoSaid : Prop := fnRedoUptoRow.holds Tryz.pinned (OpenSpec.upto fnRedoSpec)

/-- 'laws.FnRedoCuts', WHERE WHAT IT READS IS OF BULK AT MOST 1048576: true; the input reads as it did. -/
def fnRedoCutsUptoRow : OpenClaim := { program := "ytflmgahagbfbbaagreat", sum := "2c89eca67fa68d3b2000883eca7bb5a9da445f349847ef4cbf2569ecf2cf565b", func := "loop.example/g00089/laws.FnRedoCuts", spec := "fnRedoCuts", unfollowed := true, recurses := true, apart := false, narrowed := true }
def FnRedoCutsUptoSaid : Prop := fnRedoCutsUptoRow.holds Tryz.pinned (OpenSpec.upto fnRedoCutsSpec)

/-- 'laws.FnRepairs', WHERE WHAT IT READS IS OF BULK AT MOST 1048576: true; the input reads as it did. -/
def fnRepairsUptoRow : OpenClaim := { program := "ytflmgahagbfbbaagreat", sum := "2c89eca67fa68d3b2000883eca7bb5a9da445f349847ef4cbf2569ecf2cf565b", func := "loop.example/g00089/laws.FnRepairs", spec := "fnRepairs", unfollowed := true, recurses := true, apart := false, narrowed := true }
def FnRepairsUptoSaid : Prop := fnRepairsUptoRow.holds Tryz.pinned (OpenSpec.upto fnRepairsSpec)

/-- 'laws.FnCleans', WHERE WHAT IT READS IS OF BULK AT MOST 1048576: true; the input reads as it did. -/
def fnCleansUptoRow : OpenClaim := { program := "ytflmgahagbfbbaagreat", sum := "2c89eca67fa68d3b2000883eca7bb5a9da445f349847ef4cbf2569ecf2cf565b", func := "loop.example/g00089/laws.FnCleans", spec := "fnCleans", inPlace := ["internal/bytealg.abigen_runtime_cmpstring"], unfollowed := true, recurses := true, apart := false, narrowed := true }
def FnCleansUptoSaid : Prop := fnCleansUptoRow.holds Tryz.pinned (OpenSpec.upto fnCleansSpec)

end Rows
end Go.Proofs.YtflmgahagbfbbaaGreat
