/-
  No cell of these rows narrows 'for every input' (looked for: loops, veiled, ifaces, maps, wideKeys, modest, calm, conditions, laid).
  DERIVED. THE GIVEN ROWS OF THIS SEAT. 12 by the template 'for every input the law returns true; each argument reads behind the call as it read before'; 0 by the template 'total and deterministic' (their statements: YtblddeoopkfafaaGreatTotals.lean).
  GIVEN WITH THE SEED: the statements are not yours to turn. If you find one false, say at which input.
  Laid BY PROGRAM, IN A SANDBOX (cutbox-rows.mjs): the forced cells as the released guide's own fill.sh prints them over the translation d3f147da7079d938… (all of the seat's roots in one cut). By AI agents, Wed Nov 11 2026. No macro, syntax, notation, axiom, sorry.
-/
import Derived.Test.YtblddeoopkfafaaGreatChecked
import GoSem.Claim
import GoSem.ClaimJoined
import GoSem.ClaimMapViews
import Derived.JoinedTies
import Derived.KernelRfl
namespace Go.Proofs.YtblddeoopkfafaaGreat
/- THE CELL 'sum', in the pinned program and in every row, IS THE sha256 OF THE DUMP (.gsa) THAT YtblddeoopkfafaaGreatProg.lean LOADS. Nothing in Lean hashes anything: it is a label: what it is worth is what the hold of that sum in a sandbox is worth. -/
noncomputable def Tryz.pinned : Pinned := { name := "ytblddeoopkfafaagreat", sum := "d3f147da7079d938442db646bc4b2abcf755860b415570a90985b4319da2d9bf", checked := Tryz.checked }
namespace Rows
def none {H : Type} : Left H := { results := [], args := [] }

/-- 'laws.FnExactRedoAll': WHATEVER THE INPUT: true; the input reads as it did. -/
def fnExactRedoAllSpec : ChangeSpec := { name := "fnExactRedoAll", fn := fun _ => fun
  | [d1, d2] => { results := [.lit (.bool true)], args := [d1, d2] }
  | _ => none }
def fnExactRedoAllRow : OpenClaim := { program := "ytblddeoopkfafaagreat", sum := "d3f147da7079d938442db646bc4b2abcf755860b415570a90985b4319da2d9bf", func := "loop.example/g00089/laws.FnExactRedoAll", spec := "fnExactRedoAll", unfollowed := true, recurses := true, apart := false }
def FnExactRedoAllSaid : Prop := fnExactRedoAllRow.holds Tryz.pinned (OpenSpec.ofChange fnExactRedoAllSpec)

/-- ITS FALSE NEIGHBOUR: 'it returns false'. Refute it at one input. -/
def fnExactRedoAllWrong : ChangeSpec := { name := "fnExactRedoAll", fn := fun _ => fun
  | [d1, d2] => { results := [.lit (.bool false)], args := [d1, d2] }
  | _ => none }
def FnExactRedoAllWrongFalsely : Prop := fnExactRedoAllRow.holds Tryz.pinned (OpenSpec.ofChange fnExactRedoAllWrong)

/-- 'laws.FnExactRepairTapes': WHATEVER THE INPUT: true; the input reads as it did. -/
def fnExactRepairTapesSpec : ChangeSpec := { name := "fnExactRepairTapes", fn := fun _ => fun
  | [d] => { results := [.lit (.bool true)], args := [d] }
  | _ => none }
def fnExactRepairTapesRow : OpenClaim := { program := "ytblddeoopkfafaagreat", sum := "d3f147da7079d938442db646bc4b2abcf755860b415570a90985b4319da2d9bf", func := "loop.example/g00089/laws.FnExactRepairTapes", spec := "fnExactRepairTapes", unfollowed := true, recurses := true, apart := false }
def FnExactRepairTapesSaid : Prop := fnExactRepairTapesRow.holds Tryz.pinned (OpenSpec.ofChange fnExactRepairTapesSpec)

/-- ITS FALSE NEIGHBOUR: 'it returns false'. Refute it at one input. -/
def fnExactRepairTapesWrong : ChangeSpec := { name := "fnExactRepairTapes", fn := fun _ => fun
  | [d] => { results := [.lit (.bool false)], args := [d] }
  | _ => none }
def FnExactRepairTapesWrongFalsely : Prop := fnExactRepairTapesRow.holds Tryz.pinned (OpenSpec.ofChange fnExactRepairTapesWrong)

/-- 'laws.FnExactNewestItem': WHATEVER THE INPUT: true; the input reads as it did. -/
def fnExactNewestItemSpec : ChangeSpec := { name := "fnExactNewestItem", fn := fun _ => fun
  | [d1, d2] => { results := [.lit (.bool true)], args := [d1, d2] }
  | _ => none }
def fnExactNewestItemRow : OpenClaim := { program := "ytblddeoopkfafaagreat", sum := "d3f147da7079d938442db646bc4b2abcf755860b415570a90985b4319da2d9bf", func := "loop.example/g00089/laws.FnExactNewestItem", spec := "fnExactNewestItem", inPlace := ["internal/bytealg.abigen_runtime_cmpstring"], unfollowed := true, recurses := true, apart := false }
def FnExactNewestItemSaid : Prop := fnExactNewestItemRow.holds Tryz.pinned (OpenSpec.ofChange fnExactNewestItemSpec)

/-- ITS FALSE NEIGHBOUR: 'it returns false'. Refute it at one input. -/
def fnExactNewestItemWrong : ChangeSpec := { name := "fnExactNewestItem", fn := fun _ => fun
  | [d1, d2] => { results := [.lit (.bool false)], args := [d1, d2] }
  | _ => none }
def FnExactNewestItemWrongFalsely : Prop := fnExactNewestItemRow.holds Tryz.pinned (OpenSpec.ofChange fnExactNewestItemWrong)

/-- 'laws.FnExactItemsOf': WHATEVER THE INPUT: true; the input reads as it did. -/
def fnExactItemsOfSpec : ChangeSpec := { name := "fnExactItemsOf", fn := fun _ => fun
  | [d] => { results := [.lit (.bool true)], args := [d] }
  | _ => none }
def fnExactItemsOfRow : OpenClaim := { program := "ytblddeoopkfafaagreat", sum := "d3f147da7079d938442db646bc4b2abcf755860b415570a90985b4319da2d9bf", func := "loop.example/g00089/laws.FnExactItemsOf", spec := "fnExactItemsOf", inPlace := ["internal/bytealg.abigen_runtime_cmpstring"], unfollowed := true, recurses := true, apart := false }
def FnExactItemsOfSaid : Prop := fnExactItemsOfRow.holds Tryz.pinned (OpenSpec.ofChange fnExactItemsOfSpec)

/-- ITS FALSE NEIGHBOUR: 'it returns false'. Refute it at one input. -/
def fnExactItemsOfWrong : ChangeSpec := { name := "fnExactItemsOf", fn := fun _ => fun
  | [d] => { results := [.lit (.bool false)], args := [d] }
  | _ => none }
def FnExactItemsOfWrongFalsely : Prop := fnExactItemsOfRow.holds Tryz.pinned (OpenSpec.ofChange fnExactItemsOfWrong)

/-- 'laws.FnExactDropItem': WHATEVER THE INPUT: true; the input reads as it did. -/
def fnExactDropItemSpec : ChangeSpec := { name := "fnExactDropItem", fn := fun _ => fun
  | [d1, d2] => { results := [.lit (.bool true)], args := [d1, d2] }
  | _ => none }
def fnExactDropItemRow : OpenClaim := { program := "ytblddeoopkfafaagreat", sum := "d3f147da7079d938442db646bc4b2abcf755860b415570a90985b4319da2d9bf", func := "loop.example/g00089/laws.FnExactDropItem", spec := "fnExactDropItem", inPlace := ["internal/bytealg.abigen_runtime_cmpstring"], unfollowed := true, recurses := true, apart := false }
def FnExactDropItemSaid : Prop := fnExactDropItemRow.holds Tryz.pinned (OpenSpec.ofChange fnExactDropItemSpec)

/-- ITS FALSE NEIGHBOUR: 'it returns false'. Refute it at one input. -/
def fnExactDropItemWrong : ChangeSpec := { name := "fnExactDropItem", fn := fun _ => fun
  | [d1, d2] => { results := [.lit (.bool false)], args := [d1, d2] }
  | _ => none }
def FnExactDropItemWrongFalsely : Prop := fnExactDropItemRow.holds Tryz.pinned (OpenSpec.ofChange fnExactDropItemWrong)

/-- 'laws.FnExactPutItem': WHATEVER THE INPUT: true; the input reads as it did. -/
def fnExactPutItemSpec : ChangeSpec := { name := "fnExactPutItem", fn := fun _ => fun
  | [d1, d2, d3] => { results := [.lit (.bool true)], args := [d1, d2, d3] }
  | _ => none }
def fnExactPutItemRow : OpenClaim := { program := "ytblddeoopkfafaagreat", sum := "d3f147da7079d938442db646bc4b2abcf755860b415570a90985b4319da2d9bf", func := "loop.example/g00089/laws.FnExactPutItem", spec := "fnExactPutItem", inPlace := ["internal/bytealg.abigen_runtime_cmpstring"], unfollowed := true, recurses := true, apart := false }
def FnExactPutItemSaid : Prop := fnExactPutItemRow.holds Tryz.pinned (OpenSpec.ofChange fnExactPutItemSpec)

/-- ITS FALSE NEIGHBOUR: 'it returns false'. Refute it at one input. -/
def fnExactPutItemWrong : ChangeSpec := { name := "fnExactPutItem", fn := fun _ => fun
  | [d1, d2, d3] => { results := [.lit (.bool false)], args := [d1, d2, d3] }
  | _ => none }
def FnExactPutItemWrongFalsely : Prop := fnExactPutItemRow.holds Tryz.pinned (OpenSpec.ofChange fnExactPutItemWrong)

/-- 'laws.FnExactBeginShare': WHATEVER THE INPUT: true; the input reads as it did. -/
def fnExactBeginShareSpec : ChangeSpec := { name := "fnExactBeginShare", fn := fun _ => fun
  | [d1, d2, d3] => { results := [.lit (.bool true)], args := [d1, d2, d3] }
  | _ => none }
def fnExactBeginShareRow : OpenClaim := { program := "ytblddeoopkfafaagreat", sum := "d3f147da7079d938442db646bc4b2abcf755860b415570a90985b4319da2d9bf", func := "loop.example/g00089/laws.FnExactBeginShare", spec := "fnExactBeginShare", unfollowed := true, recurses := true, apart := false }
def FnExactBeginShareSaid : Prop := fnExactBeginShareRow.holds Tryz.pinned (OpenSpec.ofChange fnExactBeginShareSpec)

/-- ITS FALSE NEIGHBOUR: 'it returns false'. Refute it at one input. -/
def fnExactBeginShareWrong : ChangeSpec := { name := "fnExactBeginShare", fn := fun _ => fun
  | [d1, d2, d3] => { results := [.lit (.bool false)], args := [d1, d2, d3] }
  | _ => none }
def FnExactBeginShareWrongFalsely : Prop := fnExactBeginShareRow.holds Tryz.pinned (OpenSpec.ofChange fnExactBeginShareWrong)

/-- 'laws.FnExactBeginAll': WHATEVER THE INPUT: true; the input reads as it did. -/
def fnExactBeginAllSpec : ChangeSpec := { name := "fnExactBeginAll", fn := fun _ => fun
  | [d1, d2] => { results := [.lit (.bool true)], args := [d1, d2] }
  | _ => none }
def fnExactBeginAllRow : OpenClaim := { program := "ytblddeoopkfafaagreat", sum := "d3f147da7079d938442db646bc4b2abcf755860b415570a90985b4319da2d9bf", func := "loop.example/g00089/laws.FnExactBeginAll", spec := "fnExactBeginAll", unfollowed := true, recurses := true, apart := false }
def FnExactBeginAllSaid : Prop := fnExactBeginAllRow.holds Tryz.pinned (OpenSpec.ofChange fnExactBeginAllSpec)

/-- ITS FALSE NEIGHBOUR: 'it returns false'. Refute it at one input. -/
def fnExactBeginAllWrong : ChangeSpec := { name := "fnExactBeginAll", fn := fun _ => fun
  | [d1, d2] => { results := [.lit (.bool false)], args := [d1, d2] }
  | _ => none }
def FnExactBeginAllWrongFalsely : Prop := fnExactBeginAllRow.holds Tryz.pinned (OpenSpec.ofChange fnExactBeginAllWrong)

/-- 'laws.FnExactItemBytes': WHATEVER THE INPUT: true; the input reads as it did. -/
def fnExactItemBytesSpec : ChangeSpec := { name := "fnExactItemBytes", fn := fun _ => fun
  | [d1, d2] => { results := [.lit (.bool true)], args := [d1, d2] }
  | _ => none }
def fnExactItemBytesRow : OpenClaim := { program := "ytblddeoopkfafaagreat", sum := "d3f147da7079d938442db646bc4b2abcf755860b415570a90985b4319da2d9bf", func := "loop.example/g00089/laws.FnExactItemBytes", spec := "fnExactItemBytes", inPlace := ["internal/bytealg.abigen_runtime_cmpstring"], unfollowed := true, recurses := true, apart := false }
def FnExactItemBytesSaid : Prop := fnExactItemBytesRow.holds Tryz.pinned (OpenSpec.ofChange fnExactItemBytesSpec)

/-- ITS FALSE NEIGHBOUR: 'it returns false'. Refute it at one input. -/
def fnExactItemBytesWrong : ChangeSpec := { name := "fnExactItemBytes", fn := fun _ => fun
  | [d1, d2] => { results := [.lit (.bool false)], args := [d1, d2] }
  | _ => none }
def FnExactItemBytesWrongFalsely : Prop := fnExactItemBytesRow.holds Tryz.pinned (OpenSpec.ofChange fnExactItemBytesWrong)

/-- 'laws.FnExactMoveRow': WHATEVER THE INPUT: true; the input reads as it did. -/
def fnExactMoveRowSpec : ChangeSpec := { name := "fnExactMoveRow", fn := fun _ => fun
  | [d1, d2, d3, d4] => { results := [.lit (.bool true)], args := [d1, d2, d3, d4] }
  | _ => none }
def fnExactMoveRowRow : OpenClaim := { program := "ytblddeoopkfafaagreat", sum := "d3f147da7079d938442db646bc4b2abcf755860b415570a90985b4319da2d9bf", func := "loop.example/g00089/laws.FnExactMoveRow", spec := "fnExactMoveRow", unfollowed := true, recurses := true, apart := false }
def FnExactMoveRowSaid : Prop := fnExactMoveRowRow.holds Tryz.pinned (OpenSpec.ofChange fnExactMoveRowSpec)

/-- ITS FALSE NEIGHBOUR: 'it returns false'. Refute it at one input. -/
def fnExactMoveRowWrong : ChangeSpec := { name := "fnExactMoveRow", fn := fun _ => fun
  | [d1, d2, d3, d4] => { results := [.lit (.bool false)], args := [d1, d2, d3, d4] }
  | _ => none }
def FnExactMoveRowWrongFalsely : Prop := fnExactMoveRowRow.holds Tryz.pinned (OpenSpec.ofChange fnExactMoveRowWrong)

/-- 'laws.FnExactRebuildGroup': WHATEVER THE INPUT: true; the input reads as it did. -/
def fnExactRebuildGroupSpec : ChangeSpec := { name := "fnExactRebuildGroup", fn := fun _ => fun
  | [d1, d2] => { results := [.lit (.bool true)], args := [d1, d2] }
  | _ => none }
def fnExactRebuildGroupRow : OpenClaim := { program := "ytblddeoopkfafaagreat", sum := "d3f147da7079d938442db646bc4b2abcf755860b415570a90985b4319da2d9bf", func := "loop.example/g00089/laws.FnExactRebuildGroup", spec := "fnExactRebuildGroup", unfollowed := true, recurses := true, apart := false }
def FnExactRebuildGroupSaid : Prop := fnExactRebuildGroupRow.holds Tryz.pinned (OpenSpec.ofChange fnExactRebuildGroupSpec)

/-- ITS FALSE NEIGHBOUR: 'it returns false'. Refute it at one input. -/
def fnExactRebuildGroupWrong : ChangeSpec := { name := "fnExactRebuildGroup", fn := fun _ => fun
  | [d1, d2] => { results := [.lit (.bool false)], args := [d1, d2] }
  | _ => none }
def FnExactRebuildGroupWrongFalsely : Prop := fnExactRebuildGroupRow.holds Tryz.pinned (OpenSpec.ofChange fnExactRebuildGroupWrong)

/-- 'laws.FnExactGiveShares': WHATEVER THE INPUT: true; the input reads as it did. -/
def fnExactGiveSharesSpec : ChangeSpec := { name := "fnExactGiveShares", fn := fun _ => fun
  | [d1, d2] => { results := [.lit (.bool true)], args := [d1, d2] }
  | _ => none }
def fnExactGiveSharesRow : OpenClaim := { program := "ytblddeoopkfafaagreat", sum := "d3f147da7079d938442db646bc4b2abcf755860b415570a90985b4319da2d9bf", func := "loop.example/g00089/laws.FnExactGiveShares", spec := "fnExactGiveShares", unfollowed := true, recurses := true, apart := false }
def FnExactGiveSharesSaid : Prop := fnExactGiveSharesRow.holds Tryz.pinned (OpenSpec.ofChange fnExactGiveSharesSpec)

/-- ITS FALSE NEIGHBOUR: 'it returns false'. Refute it at one input. -/
def fnExactGiveSharesWrong : ChangeSpec := { name := "fnExactGiveShares", fn := fun _ => fun
  | [d1, d2] => { results := [.lit (.bool false)], args := [d1, d2] }
  | _ => none }
def FnExactGiveSharesWrongFalsely : Prop := fnExactGiveSharesRow.holds Tryz.pinned (OpenSpec.ofChange fnExactGiveSharesWrong)

/- THE SECOND FORM. 'bulk': how many values and letters a reading holds, each counted each time it is reached (what is shared counts as often as it is met; a slice's spare places count too). A statement '..UptoSaid' is the law's where the arguments, and the package variables that the reading takes, are together of bulk at most 1048576: NARROWER than '..Said'. Prove '..Said' where nothing that the law and all that it calls make is longer than what came in: it says more and counts as full. Else prove '..UptoSaid'. A law counts once. -/
mutual
def uptoBulk {H : Type} : DataW H → Nat
  | .lit (.string bytes) => bytes.length + 1
  | .lit _ => 1
  | .nil => 1
  | .ptr d => uptoBulk d + 1
  | .slice elems spare => uptoBulkAll elems + uptoBulkAll spare + 1
  | .agg parts => uptoBulkAll parts + 1
  | .iface _ d => uptoBulk d + 1
  | .map entries => uptoBulkEntries entries + 1
  | .held _ => 1
def uptoBulkAll {H : Type} : List (DataW H) → Nat
  | [] => 0
  | d :: r => uptoBulk d + uptoBulkAll r
def uptoBulkEntries {H : Type} : List (Lit × DataW H) → Nat
  | [] => 0
  | x :: r => uptoBulkEntry x + uptoBulkEntries r
def uptoBulkEntry {H : Type} : Lit × DataW H → Nat
  | (.string bytes, d) => bytes.length + uptoBulk d + 1
  | (_, d) => uptoBulk d + 1
 end
def uptoSmall : (H : Type) → List (DataW H) → Bool := fun _ ds => decide (uptoBulkAll ds ≤ 1048576)
def OpenSpec.upto (s : _root_.Go.ChangeSpec) : _root_.Go.OpenSpec := { _root_.Go.OpenSpec.ofChange s with cond := some uptoSmall }

/-- 'laws.FnExactRedoAll', WHERE WHAT IT READS IS OF BULK AT MOST 1048576: true; the input reads as it did. -/
def fnExactRedoAllUptoRow : OpenClaim := { program := "ytblddeoopkfafaagreat", sum := "d3f147da7079d938442db646bc4b2abcf755860b415570a90985b4319da2d9bf", func := "loop.example/g00089/laws.FnExactRedoAll", spec := "fnExactRedoAll", unfollowed := true, recurses := true, apart := false, narrowed := true }
def FnExactRedoAllUptoSaid : Prop := fnExactRedoAllUptoRow.holds Tryz.pinned (OpenSpec.upto fnExactRedoAllSpec)

/-- 'laws.FnExactRepairTapes', WHERE WHAT IT READS IS OF BULK AT MOST 1048576: true; the input reads as it did. -/
def fnExactRepairTapesUptoRow : OpenClaim := { program := "ytblddeoopkfafaagreat", sum := "d3f147da7079d938442db646bc4b2abcf755860b415570a90985b4319da2d9bf", func := "loop.example/g00089/laws.FnExactRepairTapes", spec := "fnExactRepairTapes", unfollowed := true, recurses := true, apart := false, narrowed := true }
def FnExactRepairTapesUptoSaid : Prop := fnExactRepairTapesUptoRow.holds Tryz.pinned (OpenSpec.upto fnExactRepairTapesSpec)

/-- 'laws.FnExactNewestItem', WHERE WHAT IT READS IS OF BULK AT MOST 1048576: true; the input reads as it did. -/
def fnExactNewestItemUptoRow : OpenClaim := { program := "ytblddeoopkfafaagreat", sum := "d3f147da7079d938442db646bc4b2abcf755860b415570a90985b4319da2d9bf", func := "loop.example/g00089/laws.FnExactNewestItem", spec := "fnExactNewestItem", inPlace := ["internal/bytealg.abigen_runtime_cmpstring"], unfollowed := true, recurses := true, apart := false, narrowed := true }
def FnExactNewestItemUptoSaid : Prop := fnExactNewestItemUptoRow.holds Tryz.pinned (OpenSpec.upto fnExactNewestItemSpec)

/-- 'laws.FnExactItemsOf', WHERE WHAT IT READS IS OF BULK AT MOST 1048576: true; the input reads as it did. -/
def fnExactItemsOfUptoRow : OpenClaim := { program := "ytblddeoopkfafaagreat", sum := "d3f147da7079d938442db646bc4b2abcf755860b415570a90985b4319da2d9bf", func := "loop.example/g00089/laws.FnExactItemsOf", spec := "fnExactItemsOf", inPlace := ["internal/bytealg.abigen_runtime_cmpstring"], unfollowed := true, recurses := true, apart := false, narrowed := true }
def FnExactItemsOfUptoSaid : Prop := fnExactItemsOfUptoRow.holds Tryz.pinned (OpenSpec.upto fnExactItemsOfSpec)

/-- 'laws.FnExactDropItem', WHERE WHAT IT READS IS OF BULK AT MOST 1048576: true; the input reads as it did. -/
def fnExactDropItemUptoRow : OpenClaim := { program := "ytblddeoopkfafaagreat", sum := "d3f147da7079d938442db646bc4b2abcf755860b415570a90985b4319da2d9bf", func := "loop.example/g00089/laws.FnExactDropItem", spec := "fnExactDropItem", inPlace := ["internal/bytealg.abigen_runtime_cmpstring"], unfollowed := true, recurses := true, apart := false, narrowed := true }
def FnExactDropItemUptoSaid : Prop := fnExactDropItemUptoRow.holds Tryz.pinned (OpenSpec.upto fnExactDropItemSpec)

/-- 'laws.FnExactPutItem', WHERE WHAT IT READS IS OF BULK AT MOST 1048576: true; the input reads as it did. -/
def fnExactPutItemUptoRow : OpenClaim := { program := "ytblddeoopkfafaagreat", sum := "d3f147da7079d938442db646bc4b2abcf755860b415570a90985b4319da2d9bf", func := "loop.example/g00089/laws.FnExactPutItem", spec := "fnExactPutItem", inPlace := ["internal/bytealg.abigen_runtime_cmpstring"], unfollowed := true, recurses := true, apart := false, narrowed := true }
def FnExactPutItemUptoSaid : Prop := fnExactPutItemUptoRow.holds Tryz.pinned (OpenSpec.upto fnExactPutItemSpec)

/-- 'laws.FnExactBeginShare', WHERE WHAT IT READS IS OF BULK AT MOST 1048576: true; the input reads as it did. -/
def fnExactBeginShareUptoRow : OpenClaim := { program := "ytblddeoopkfafaagreat", sum := "d3f147da7079d938442db646bc4b2abcf755860b415570a90985b4319da2d9bf", func := "loop.example/g00089/laws.FnExactBeginShare", spec := "fnExactBeginShare", unfollowed := true, recurses := true, apart := false, narrowed := true }
def FnExactBeginShareUptoSaid : Prop := fnExactBeginShareUptoRow.holds Tryz.pinned (OpenSpec.upto fnExactBeginShareSpec)

/-- 'laws.FnExactBeginAll', WHERE WHAT IT READS IS OF BULK AT MOST 1048576: true; the input reads as it did. -/
def fnExactBeginAllUptoRow : OpenClaim := { program := "ytblddeoopkfafaagreat", sum := "d3f147da7079d938442db646bc4b2abcf755860b415570a90985b4319da2d9bf", func := "loop.example/g00089/laws.FnExactBeginAll", spec := "fnExactBeginAll", unfollowed := true, recurses := true, apart := false, narrowed := true }
def FnExactBeginAllUptoSaid : Prop := fnExactBeginAllUptoRow.holds Tryz.pinned (OpenSpec.upto fnExactBeginAllSpec)

/-- 'laws.FnExactItemBytes', WHERE WHAT IT READS IS OF BULK AT MOST 1048576: true; the input reads as it did. -/
def fnExactItemBytesUptoRow : OpenClaim := { program := "ytblddeoopkfafaagreat", sum := "d3f147da7079d938442db646bc4b2abcf755860b415570a90985b4319da2d9bf", func := "loop.example/g00089/laws.FnExactItemBytes", spec := "fnExactItemBytes", inPlace := ["internal/bytealg.abigen_runtime_cmpstring"], unfollowed := true, recurses := true, apart := false, narrowed := true }
def FnExactItemBytesUptoSaid : Prop := fnExactItemBytesUptoRow.holds Tryz.pinned (OpenSpec.upto fnExactItemBytesSpec)

/-- 'laws.FnExactMoveRow', WHERE WHAT IT READS IS OF BULK AT MOST 1048576: true; the input reads as it did. -/
def fnExactMoveRowUptoRow : OpenClaim := { program := "ytblddeoopkfafaagreat", sum := "d3f147da7079d938442db646bc4b2abcf755860b415570a90985b4319da2d9bf", func := "loop.example/g00089/laws.FnExactMoveRow", spec := "fnExactMoveRow", unfollowed := true, recurses := true, apart := false, narrowed := true }
def FnExactMoveRowUptoSaid : Prop := fnExactMoveRowUptoRow.holds Tryz.pinned (OpenSpec.upto fnExactMoveRowSpec)

/-- 'laws.FnExactRebuildGroup', WHERE WHAT IT READS IS OF BULK AT MOST 1048576: true; the input reads as it did. -/
def fnExactRebuildGroupUptoRow : OpenClaim := { program := "ytblddeoopkfafaagreat", sum := "d3f147da7079d938442db646bc4b2abcf755860b415570a90985b4319da2d9bf", func := "loop.example/g00089/laws.FnExactRebuildGroup", spec := "fnExactRebuildGroup", unfollowed := true, recurses := true, apart := false, narrowed := true }
def FnExactRebuildGroupUptoSaid : Prop := fnExactRebuildGroupUptoRow.holds Tryz.pinned (OpenSpec.upto fnExactRebuildGroupSpec)

/-- 'laws.FnExactGiveShares', WHERE WHAT IT READS IS OF BULK AT MOST 1048576: true; the input reads as it did. -/
def fnExactGiveSharesUptoRow : OpenClaim := { program := "ytblddeoopkfafaagreat", sum := "d3f147da7079d938442db646bc4b2abcf755860b415570a90985b4319da2d9bf", func := "loop.example/g00089/laws.FnExactGiveShares", spec := "fnExactGiveShares", unfollowed := true, recurses := true, apart := false, narrowed := true }
def FnExactGiveSharesUptoSaid : Prop := fnExactGiveSharesUptoRow.holds Tryz.pinned (OpenSpec.upto fnExactGiveSharesSpec)

end Rows
end Go.Proofs.YtblddeoopkfafaaGreat
