/-
  No cell of these rows narrows 'for every input' (looked for: loops, veiled, ifaces, maps, wideKeys, modest, calm, conditions, laid).
  DERIVED. THE GIVEN ROWS OF THIS SEAT. 12 by the template 'for every input the law returns true; each argument reads behind the call as it read before'; 0 by the template 'total and deterministic' (their statements: YtlbpcbdlcdbioaaGreatTotals.lean).
  GIVEN WITH THE SEED: the statements are not yours to turn. If you find one false, say at which input.
  Laid BY PROGRAM, IN A SANDBOX (cutbox-rows.mjs): the forced cells as the released guide's own fill.sh prints them over the translation 48df82b42448f68c… (all of the seat's roots in one cut). By AI agents, Wed Nov 11 2026. No macro, syntax, notation, axiom, sorry.
-/
import Derived.Test.YtlbpcbdlcdbioaaGreatChecked
import GoSem.Claim
import GoSem.ClaimJoined
import GoSem.ClaimMapViews
import Derived.JoinedTies
import Derived.KernelRfl
namespace Go.Proofs.YtlbpcbdlcdbioaaGreat
/- THE CELL 'sum', in the pinned program and in every row, IS THE sha256 OF THE DUMP (.gsa) THAT YtlbpcbdlcdbioaaGreatProg.lean LOADS. Nothing in Lean hashes anything: it is a label: what it is worth is what the hold of that sum in a sandbox is worth. -/
noncomputable def Tryz.pinned : Pinned := { name := "ytlbpcbdlcdbioaagreat", sum := "48df82b42448f68c706cb30dd74dcb9dda46b404b264dab3748db429d4133dd9", checked := Tryz.checked }
namespace Rows
def none {H : Type} : Left H := { results := [], args := [] }

/-- 'laws.FnExactGiveShares': WHATEVER THE INPUT: true; the input reads as it did. -/
def fnExactGiveSharesSpec : ChangeSpec := { name := "fnExactGiveShares", fn := fun _ => fun
  | [d1, d2] => { results := [.lit (.bool true)], args := [d1, d2] }
  | _ => none }
def fnExactGiveSharesRow : OpenClaim := { program := "ytlbpcbdlcdbioaagreat", sum := "48df82b42448f68c706cb30dd74dcb9dda46b404b264dab3748db429d4133dd9", func := "loop.example/g00089/laws.FnExactGiveShares", spec := "fnExactGiveShares", unfollowed := true, recurses := true, apart := false }
def FnExactGiveSharesSaid : Prop := fnExactGiveSharesRow.holds Tryz.pinned (OpenSpec.ofChange fnExactGiveSharesSpec)

/-- ITS FALSE NEIGHBOUR: 'it returns false'. Refute it at one input. -/
def fnExactGiveSharesWrong : ChangeSpec := { name := "fnExactGiveShares", fn := fun _ => fun
  | [d1, d2] => { results := [.lit (.bool false)], args := [d1, d2] }
  | _ => none }
def FnExactGiveSharesWrongFalsely : Prop := fnExactGiveSharesRow.holds Tryz.pinned (OpenSpec.ofChange fnExactGiveSharesWrong)

/-- 'laws.FnExactRedoAll': WHATEVER THE INPUT: true; the input reads as it did. -/
def fnExactRedoAllSpec : ChangeSpec := { name := "fnExactRedoAll", fn := fun _ => fun
  | [d1, d2] => { results := [.lit (.bool true)], args := [d1, d2] }
  | _ => none }
def fnExactRedoAllRow : OpenClaim := { program := "ytlbpcbdlcdbioaagreat", sum := "48df82b42448f68c706cb30dd74dcb9dda46b404b264dab3748db429d4133dd9", func := "loop.example/g00089/laws.FnExactRedoAll", spec := "fnExactRedoAll", unfollowed := true, recurses := true, apart := false }
def FnExactRedoAllSaid : Prop := fnExactRedoAllRow.holds Tryz.pinned (OpenSpec.ofChange fnExactRedoAllSpec)

/-- ITS FALSE NEIGHBOUR: 'it returns false'. Refute it at one input. -/
def fnExactRedoAllWrong : ChangeSpec := { name := "fnExactRedoAll", fn := fun _ => fun
  | [d1, d2] => { results := [.lit (.bool false)], args := [d1, d2] }
  | _ => none }
def FnExactRedoAllWrongFalsely : Prop := fnExactRedoAllRow.holds Tryz.pinned (OpenSpec.ofChange fnExactRedoAllWrong)

/-- 'laws.FnExactRepairTapes': WHATEVER THE INPUT: true; the input reads as it did. -/
def fnExactRepairTapesSpec : ChangeSpec := { name := "fnExactRepairTapes", fn := fun _ => fun
  | [d] => { results := [.lit (.bool true)], args := [d] }
  | _ => none }
def fnExactRepairTapesRow : OpenClaim := { program := "ytlbpcbdlcdbioaagreat", sum := "48df82b42448f68c706cb30dd74dcb9dda46b404b264dab3748db429d4133dd9", func := "loop.example/g00089/laws.FnExactRepairTapes", spec := "fnExactRepairTapes", unfollowed := true, recurses := true, apart := false }
def FnExactRepairTapesSaid : Prop := fnExactRepairTapesRow.holds Tryz.pinned (OpenSpec.ofChange fnExactRepairTapesSpec)

/-- ITS FALSE NEIGHBOUR: 'it returns false'. Refute it at one input. -/
def fnExactRepairTapesWrong : ChangeSpec := { name := "fnExactRepairTapes", fn := fun _ => fun
  | [d] => { results := [.lit (.bool false)], args := [d] }
  | _ => none }
def FnExactRepairTapesWrongFalsely : Prop := fnExactRepairTapesRow.holds Tryz.pinned (OpenSpec.ofChange fnExactRepairTapesWrong)

/-- 'laws.FnExactRebuildGroup': WHATEVER THE INPUT: true; the input reads as it did. -/
def fnExactRebuildGroupSpec : ChangeSpec := { name := "fnExactRebuildGroup", fn := fun _ => fun
  | [d1, d2] => { results := [.lit (.bool true)], args := [d1, d2] }
  | _ => none }
def fnExactRebuildGroupRow : OpenClaim := { program := "ytlbpcbdlcdbioaagreat", sum := "48df82b42448f68c706cb30dd74dcb9dda46b404b264dab3748db429d4133dd9", func := "loop.example/g00089/laws.FnExactRebuildGroup", spec := "fnExactRebuildGroup", unfollowed := true, recurses := true, apart := false }
def FnExactRebuildGroupSaid : Prop := fnExactRebuildGroupRow.holds Tryz.pinned (OpenSpec.ofChange fnExactRebuildGroupSpec)

/-- ITS FALSE NEIGHBOUR: 'it returns false'. Refute it at one input. -/
def fnExactRebuildGroupWrong : ChangeSpec := { name := "fnExactRebuildGroup", fn := fun _ => fun
  | [d1, d2] => { results := [.lit (.bool false)], args := [d1, d2] }
  | _ => none }
def FnExactRebuildGroupWrongFalsely : Prop := fnExactRebuildGroupRow.holds Tryz.pinned (OpenSpec.ofChange fnExactRebuildGroupWrong)

/-- 'laws.FnExactItemBytes': WHATEVER THE INPUT: true; the input reads as it did. -/
def fnExactItemBytesSpec : ChangeSpec := { name := "fnExactItemBytes", fn := fun _ => fun
  | [d1, d2] => { results := [.lit (.bool true)], args := [d1, d2] }
  | _ => none }
def fnExactItemBytesRow : OpenClaim := { program := "ytlbpcbdlcdbioaagreat", sum := "48df82b42448f68c706cb30dd74dcb9dda46b404b264dab3748db429d4133dd9", func := "loop.example/g00089/laws.FnExactItemBytes", spec := "fnExactItemBytes", inPlace := ["internal/bytealg.abigen_runtime_cmpstring"], unfollowed := true, recurses := true, apart := false }
def FnExactItemBytesSaid : Prop := fnExactItemBytesRow.holds Tryz.pinned (OpenSpec.ofChange fnExactItemBytesSpec)

/-- ITS FALSE NEIGHBOUR: 'it returns false'. Refute it at one input. -/
def fnExactItemBytesWrong : ChangeSpec := { name := "fnExactItemBytes", fn := fun _ => fun
  | [d1, d2] => { results := [.lit (.bool false)], args := [d1, d2] }
  | _ => none }
def FnExactItemBytesWrongFalsely : Prop := fnExactItemBytesRow.holds Tryz.pinned (OpenSpec.ofChange fnExactItemBytesWrong)

/-- 'laws.FnRedo': WHATEVER THE INPUT: true; the input reads as it did. -/
def fnRedoSpec : ChangeSpec := { name := "fnRedo", fn := fun _ => fun
  | [d] => { results := [.lit (.bool true)], args := [d] }
  | _ => none }
def fnRedoRow : OpenClaim := { program := "ytlbpcbdlcdbioaagreat", sum := "48df82b42448f68c706cb30dd74dcb9dda46b404b264dab3748db429d4133dd9", func := "loop.example/g00089/laws.FnRedo", spec := "fnRedo", unfollowed := true, recurses := true, apart := false }
def FnRedoSaid : Prop := fnRedoRow.holds Tryz.pinned (OpenSpec.ofChange fnRedoSpec)

/-- ITS FALSE NEIGHBOUR: 'it returns false'. Refute it at one input. -/
def fnRedoWrong : ChangeSpec := { name := "fnRedo", fn := fun _ => fun
  | [d] => { results := [.lit (.bool false)], args := [d] }
  | _ => none }
def FnRedoWrongFalsely : Prop := fnRedoRow.holds Tryz.pinned (OpenSpec.ofChange fnRedoWrong)

/-- 'laws.FnRedoCuts': WHATEVER THE INPUT: true; the input reads as it did. -/
def fnRedoCutsSpec : ChangeSpec := { name := "fnRedoCuts", fn := fun _ => fun
  | [d] => { results := [.lit (.bool true)], args := [d] }
  | _ => none }
def fnRedoCutsRow : OpenClaim := { program := "ytlbpcbdlcdbioaagreat", sum := "48df82b42448f68c706cb30dd74dcb9dda46b404b264dab3748db429d4133dd9", func := "loop.example/g00089/laws.FnRedoCuts", spec := "fnRedoCuts", unfollowed := true, recurses := true, apart := false }
def FnRedoCutsSaid : Prop := fnRedoCutsRow.holds Tryz.pinned (OpenSpec.ofChange fnRedoCutsSpec)

/-- ITS FALSE NEIGHBOUR: 'it returns false'. Refute it at one input. -/
def fnRedoCutsWrong : ChangeSpec := { name := "fnRedoCuts", fn := fun _ => fun
  | [d] => { results := [.lit (.bool false)], args := [d] }
  | _ => none }
def FnRedoCutsWrongFalsely : Prop := fnRedoCutsRow.holds Tryz.pinned (OpenSpec.ofChange fnRedoCutsWrong)

/-- 'laws.FnRebuilt': WHATEVER THE INPUT: true; the input reads as it did. -/
def fnRebuiltSpec : ChangeSpec := { name := "fnRebuilt", fn := fun _ => fun
  | [d] => { results := [.lit (.bool true)], args := [d] }
  | _ => none }
def fnRebuiltRow : OpenClaim := { program := "ytlbpcbdlcdbioaagreat", sum := "48df82b42448f68c706cb30dd74dcb9dda46b404b264dab3748db429d4133dd9", func := "loop.example/g00089/laws.FnRebuilt", spec := "fnRebuilt", unfollowed := true, recurses := true, apart := false }
def FnRebuiltSaid : Prop := fnRebuiltRow.holds Tryz.pinned (OpenSpec.ofChange fnRebuiltSpec)

/-- ITS FALSE NEIGHBOUR: 'it returns false'. Refute it at one input. -/
def fnRebuiltWrong : ChangeSpec := { name := "fnRebuilt", fn := fun _ => fun
  | [d] => { results := [.lit (.bool false)], args := [d] }
  | _ => none }
def FnRebuiltWrongFalsely : Prop := fnRebuiltRow.holds Tryz.pinned (OpenSpec.ofChange fnRebuiltWrong)

/-- 'laws.FnRepairs': WHATEVER THE INPUT: true; the input reads as it did. -/
def fnRepairsSpec : ChangeSpec := { name := "fnRepairs", fn := fun _ => fun
  | [d] => { results := [.lit (.bool true)], args := [d] }
  | _ => none }
def fnRepairsRow : OpenClaim := { program := "ytlbpcbdlcdbioaagreat", sum := "48df82b42448f68c706cb30dd74dcb9dda46b404b264dab3748db429d4133dd9", func := "loop.example/g00089/laws.FnRepairs", spec := "fnRepairs", unfollowed := true, recurses := true, apart := false }
def FnRepairsSaid : Prop := fnRepairsRow.holds Tryz.pinned (OpenSpec.ofChange fnRepairsSpec)

/-- ITS FALSE NEIGHBOUR: 'it returns false'. Refute it at one input. -/
def fnRepairsWrong : ChangeSpec := { name := "fnRepairs", fn := fun _ => fun
  | [d] => { results := [.lit (.bool false)], args := [d] }
  | _ => none }
def FnRepairsWrongFalsely : Prop := fnRepairsRow.holds Tryz.pinned (OpenSpec.ofChange fnRepairsWrong)

/-- 'laws.FnCleans': WHATEVER THE INPUT: true; the input reads as it did. -/
def fnCleansSpec : ChangeSpec := { name := "fnCleans", fn := fun _ => fun
  | [d] => { results := [.lit (.bool true)], args := [d] }
  | _ => none }
def fnCleansRow : OpenClaim := { program := "ytlbpcbdlcdbioaagreat", sum := "48df82b42448f68c706cb30dd74dcb9dda46b404b264dab3748db429d4133dd9", func := "loop.example/g00089/laws.FnCleans", spec := "fnCleans", inPlace := ["internal/bytealg.abigen_runtime_cmpstring"], unfollowed := true, recurses := true, apart := false }
def FnCleansSaid : Prop := fnCleansRow.holds Tryz.pinned (OpenSpec.ofChange fnCleansSpec)

/-- ITS FALSE NEIGHBOUR: 'it returns false'. Refute it at one input. -/
def fnCleansWrong : ChangeSpec := { name := "fnCleans", fn := fun _ => fun
  | [d] => { results := [.lit (.bool false)], args := [d] }
  | _ => none }
def FnCleansWrongFalsely : Prop := fnCleansRow.holds Tryz.pinned (OpenSpec.ofChange fnCleansWrong)

/-- 'laws.FnShareRows': WHATEVER THE INPUT: true; the input reads as it did. -/
def fnShareRowsSpec : ChangeSpec := { name := "fnShareRows", fn := fun _ => fun
  | [d] => { results := [.lit (.bool true)], args := [d] }
  | _ => none }
def fnShareRowsRow : OpenClaim := { program := "ytlbpcbdlcdbioaagreat", sum := "48df82b42448f68c706cb30dd74dcb9dda46b404b264dab3748db429d4133dd9", func := "loop.example/g00089/laws.FnShareRows", spec := "fnShareRows", unfollowed := true, recurses := true, apart := false }
def FnShareRowsSaid : Prop := fnShareRowsRow.holds Tryz.pinned (OpenSpec.ofChange fnShareRowsSpec)

/-- ITS FALSE NEIGHBOUR: 'it returns false'. Refute it at one input. -/
def fnShareRowsWrong : ChangeSpec := { name := "fnShareRows", fn := fun _ => fun
  | [d] => { results := [.lit (.bool false)], args := [d] }
  | _ => none }
def FnShareRowsWrongFalsely : Prop := fnShareRowsRow.holds Tryz.pinned (OpenSpec.ofChange fnShareRowsWrong)

/-- 'laws.FnStaged': WHATEVER THE INPUT: true; the input reads as it did. -/
def fnStagedSpec : ChangeSpec := { name := "fnStaged", fn := fun _ => fun
  | [d] => { results := [.lit (.bool true)], args := [d] }
  | _ => none }
def fnStagedRow : OpenClaim := { program := "ytlbpcbdlcdbioaagreat", sum := "48df82b42448f68c706cb30dd74dcb9dda46b404b264dab3748db429d4133dd9", func := "loop.example/g00089/laws.FnStaged", spec := "fnStaged", inPlace := ["internal/bytealg.abigen_runtime_cmpstring"], unfollowed := true, recurses := true, apart := false }
def FnStagedSaid : Prop := fnStagedRow.holds Tryz.pinned (OpenSpec.ofChange fnStagedSpec)

/-- ITS FALSE NEIGHBOUR: 'it returns false'. Refute it at one input. -/
def fnStagedWrong : ChangeSpec := { name := "fnStaged", fn := fun _ => fun
  | [d] => { results := [.lit (.bool false)], args := [d] }
  | _ => none }
def FnStagedWrongFalsely : Prop := fnStagedRow.holds Tryz.pinned (OpenSpec.ofChange fnStagedWrong)

/- THE SECOND FORM. 'bulk': how many values and letters a reading holds, each counted each time it is reached (what is shared counts as often as it is met; a slice's spare places count too). A statement '..UptoSaid' is the law's where the arguments, and the package variables that the reading takes, are together of bulk at most 1048576: NARROWER than '..Said'. Prove '..Said' where nothing that the law and all that it calls make is longer than what came in: it says more and counts as full. Else prove '..UptoSaid'. A law counts once. -/
mutual
def uptoBulk {H : Type} : DataW H → Nat
  | .lit (.string bytes) => bytes.length + 1
  | .lit _ => 1
  | .nil => 1
  | .ptr d => uptoBulk d + 1
  | .slice elems spare => uptoBulkAll elems + uptoBulkAll spare + 1
  | .agg parts => uptoBulkAll parts + 1
  | .iface _ d => uptoBulk d + 1
  | .map entries => uptoBulkEntries entries + 1
  | .held _ => 1
def uptoBulkAll {H : Type} : List (DataW H) → Nat
  | [] => 0
  | d :: r => uptoBulk d + uptoBulkAll r
def uptoBulkEntries {H : Type} : List (Lit × DataW H) → Nat
  | [] => 0
  | x :: r => uptoBulkEntry x + uptoBulkEntries r
def uptoBulkEntry {H : Type} : Lit × DataW H → Nat
  | (.string bytes, d) => bytes.length + uptoBulk d + 1
  | (_, d) => uptoBulk d + 1
 end
def uptoSmall : (H : Type) → List (DataW H) → Bool := fun _ ds => decide (uptoBulkAll ds ≤ 1048576)
def OpenSpec.upto (s : _root_.Go.ChangeSpec) : _root_.Go.OpenSpec := { _root_.Go.OpenSpec.ofChange s with cond := some uptoSmall }

/-- 'laws.FnExactGiveShares', WHERE WHAT IT READS IS OF BULK AT MOST 1048576: true; the input reads as it did. -/
def fnExactGiveSharesUptoRow : OpenClaim := { program := "ytlbpcbdlcdbioaagreat", sum := "48df82b42448f68c706cb30dd74dcb9dda46b404b264dab3748db429d4133dd9", func := "loop.example/g00089/laws.FnExactGiveShares", spec := "fnExactGiveShares", unfollowed := true, recurses := true, apart := false, narrowed := true }
def FnExactGiveSharesUptoSaid : Prop := fnExactGiveSharesUptoRow.holds Tryz.pinned (OpenSpec.upto fnExactGiveSharesSpec)

/-- 'laws.FnExactRedoAll', WHERE WHAT IT READS IS OF BULK AT MOST 1048576: true; the input reads as it did. -/
def fnExactRedoAllUptoRow : OpenClaim := { program := "ytlbpcbdlcdbioaagreat", sum := "48df82b42448f68c706cb30dd74dcb9dda46b404b264dab3748db429d4133dd9", func := "loop.example/g00089/laws.FnExactRedoAll", spec := "fnExactRedoAll", unfollowed := true, recurses := true, apart := false, narrowed := true }
def FnExactRedoAllUptoSaid : Prop := fnExactRedoAllUptoRow.holds Tryz.pinned (OpenSpec.upto fnExactRedoAllSpec)

/-- 'laws.FnExactRepairTapes', WHERE WHAT IT READS IS OF BULK AT MOST 1048576: true; the input reads as it did. -/
def fnExactRepairTapesUptoRow : OpenClaim := { program := "ytlbpcbdlcdbioaagreat", sum := "48df82b42448f68c706cb30dd74dcb9dda46b404b264dab3748db429d4133dd9", func := "loop.example/g00089/laws.FnExactRepairTapes", spec := "fnExactRepairTapes", unfollowed := true, recurses := true, apart := false, narrowed := true }
def FnExactRepairTapesUptoSaid : Prop := fnExactRepairTapesUptoRow.holds Tryz.pinned (OpenSpec.upto fnExactRepairTapesSpec)

/-- 'laws.FnExactRebuildGroup', WHERE WHAT IT READS IS OF BULK AT MOST 1048576: true; the input reads as it did. -/
def fnExactRebuildGroupUptoRow : OpenClaim := { program := "ytlbpcbdlcdbioaagreat", sum := "48df82b42448f68c706cb30dd74dcb9dda46b404b264dab3748db429d4133dd9", func := "loop.example/g00089/laws.FnExactRebuildGroup", spec := "fnExactRebuildGroup", unfollowed := true, recurses := true, apart := false, narrowed := true }
def FnExactRebuildGroupUptoSaid : Prop := fnExactRebuildGroupUptoRow.holds Tryz.pinned (OpenSpec.upto fnExactRebuildGroupSpec)

/-- 'laws.FnExactItemBytes', WHERE WHAT IT READS IS OF BULK AT MOST 1048576: true; the input reads as it did. -/
def fnExactItemBytesUptoRow : OpenClaim := { program := "ytlbpcbdlcdbioaagreat", sum := "48df82b42448f68c706cb30dd74dcb9dda46b404b264dab3748db429d4133dd9", func := "loop.example/g00089/laws.FnExactItemBytes", spec := "fnExactItemBytes", inPlace := ["internal/bytealg.abigen_runtime_cmpstring"], unfollowed := true, recurses := true, apart := false, narrowed := true }
def FnExactItemBytesUptoSaid : Prop := fnExactItemBytesUptoRow.holds Tryz.pinned (OpenSpec.upto fnExactItemBytesSpec)

/-- 'laws.FnRedo', WHERE WHAT IT READS IS OF BULK AT MOST 1048576: true; the input reads as it did. -/
def fnRedoUptoRow : OpenClaim := { program := "ytlbpcbdlcdbioaagreat", sum := "48df82b42448f68c706cb30dd74dcb9dda46b404b264dab3748db429d4133dd9", func := "loop.example/g00089/laws.FnRedo", spec := "fnRedo", unfollowed := true, recurses := true, apart := false, narrowed := true }
def FnRedoUptoSaid : Prop := fnRedoUptoRow.holds Tryz.pinned (OpenSpec.upto fnRedoSpec)

/-- 'laws.FnRedoCuts', WHERE WHAT IT READS IS OF BULK AT MOST 1048576: true; the input reads as it did. -/
def fnRedoCutsUptoRow : OpenClaim := { program := "ytlbpcbdlcdbioaagreat", sum := "48df82b42448f68c706cb30dd74dcb9dda46b404b264dab3748db429d4133dd9", func := "loop.example/g00089/laws.FnRedoCuts", spec := "fnRedoCuts", unfollowed := true, recurses := true, apart := false, narrowed := true }
def FnRedoCutsUptoSaid : Prop := fnRedoCutsUptoRow.holds Tryz.pinned (OpenSpec.upto fnRedoCutsSpec)

/-- 'laws.FnRebuilt', WHERE WHAT IT READS IS OF BULK AT MOST 1048576: true; the input reads as it did. -/
def fnRebuiltUptoRow : OpenClaim := { program := "ytlbpcbdlcdbioaagreat", sum := "48df82b42448f68c706cb30dd74dcb9dda46b404b264dab3748db429d4133dd9", func := "loop.example/g00089/laws.FnRebuilt", spec := "fnRebuilt", unfollowed := true, recurses := true, apart := false, narrowed := true }
def FnRebuiltUptoSaid : Prop := fnRebuiltUptoRow.holds Tryz.pinned (OpenSpec.upto fnRebuiltSpec)

/-- 'laws.FnRepairs', WHERE WHAT IT READS IS OF BULK AT MOST 1048576: true; the input reads as it did. -/
def fnRepairsUptoRow : OpenClaim := { program := "ytlbpcbdlcdbioaagreat", sum := "48df82b42448f68c706cb30dd74dcb9dda46b404b264dab3748db429d4133dd9", func := "loop.example/g00089/laws.FnRepairs", spec := "fnRepairs", unfollowed := true, recurses := true, apart := false, narrowed := true }
def FnRepairsUptoSaid : Prop := fnRepairsUptoRow.holds Tryz.pinned (OpenSpec.upto fnRepairsSpec)

/-- 'laws.FnCleans', WHERE WHAT IT READS IS OF BULK AT MOST 1048576: true; the input reads as it did. -/
def fnCleansUptoRow : OpenClaim := { program := "ytlbpcbdlcdbioaagreat", sum := "48df82b42448f68c706cb30dd74dcb9dda46b404b264dab3748db429d4133dd9", func := "loop.example/g00089/laws.FnCleans", spec := "fnCleans", inPlace := ["internal/bytealg.abigen_runtime_cmpstring"], unfollowed := true, recurses := true, apart := false, narrowed := true }
def FnCleansUptoSaid : Prop := fnCleansUptoRow.holds Tryz.pinned (OpenSpec.upto fnCleansSpec)

/-- 'laws.FnShareRows', WHERE WHAT IT READS IS OF BULK AT MOST 1048576: true; the input reads as it did. -/
def fnShareRowsUptoRow : OpenClaim := { program := "ytlbpcbdlcdbioaagreat", sum := "48df82b42448f68c706cb30dd74dcb9dda46b404b264dab3748db429d4133dd9", func := "loop.example/g00089/laws.FnShareRows", spec := "fnShareRows", unfollowed := true, recurses := true, apart := false, narrowed := true }
def FnShareRowsUptoSaid : Prop := fnShareRowsUptoRow.holds Tryz.pinned (OpenSpec.upto fnShareRowsSpec)

/-- 'laws.FnStaged', WHERE WHAT IT READS IS OF BULK AT MOST 1048576: true; the input reads as it did. -/
def fnStagedUptoRow : OpenClaim := { program := "ytlbpcbdlcdbioaagreat", sum := "48df82b42448f68c706cb30dd74dcb9dda46b404b264dab3748db429d4133dd9", func := "loop.example/g00089/laws.FnStaged", spec := "fnStaged", inPlace := ["internal/bytealg.abigen_runtime_cmpstring"], unfollowed := true, recurses := true, apart := false, narrowed := true }
def FnStagedUptoSaid : Prop := fnStagedUptoRow.holds Tryz.pinned (OpenSpec.upto fnStagedSpec)

end Rows
end Go.Proofs.YtlbpcbdlcdbioaaGreat
