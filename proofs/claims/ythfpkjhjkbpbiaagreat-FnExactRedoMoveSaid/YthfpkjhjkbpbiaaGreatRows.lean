/-
  No cell of these rows narrows 'for every input' (looked for: loops, veiled, ifaces, maps, wideKeys, modest, calm, conditions, laid).
  DERIVED. THE GIVEN ROWS OF THIS SEAT. 12 by the template 'for every input the law returns true; each argument reads behind the call as it read before'; 0 by the template 'total and deterministic' (their statements: YthfpkjhjkbpbiaaGreatTotals.lean).
  GIVEN WITH THE SEED: the statements are not yours to turn. If you find one false, say at which input.
  Laid BY PROGRAM, IN A SANDBOX (cutbox-rows.mjs): the forced cells as the released guide's own fill.sh prints them over the translation 232dfbc5e40c0bfa… (all of the seat's roots in one cut). By AI agents, Wed Nov 11 2026. No macro, syntax, notation, axiom, sorry.
-/
import Derived.Test.YthfpkjhjkbpbiaaGreatChecked
import GoSem.Claim
import GoSem.ClaimJoined
import GoSem.ClaimMapViews
import Derived.JoinedTies
import Derived.KernelRfl
namespace Go.Proofs.YthfpkjhjkbpbiaaGreat
/- THE CELL 'sum', in the pinned program and in every row, IS THE sha256 OF THE DUMP (.gsa) THAT YthfpkjhjkbpbiaaGreatProg.lean LOADS. Nothing in Lean hashes anything: it is a label: what it is worth is what the hold of that sum in a sandbox is worth. -/
noncomputable def Tryz.pinned : Pinned := { name := "ythfpkjhjkbpbiaagreat", sum := "232dfbc5e40c0bfa71ac25981a763ea4c9de432821e57ab717a72089805366ea", checked := Tryz.checked }
namespace Rows
def none {H : Type} : Left H := { results := [], args := [] }

/-- 'laws.FnExactOpenShare': WHATEVER THE INPUT: true; the input reads as it did. -/
def fnExactOpenShareSpec : ChangeSpec := { name := "fnExactOpenShare", fn := fun _ => fun
  | [d1, d2, d3] => { results := [.lit (.bool true)], args := [d1, d2, d3] }
  | _ => none }
def fnExactOpenShareRow : OpenClaim := { program := "ythfpkjhjkbpbiaagreat", sum := "232dfbc5e40c0bfa71ac25981a763ea4c9de432821e57ab717a72089805366ea", func := "loop.example/g00089/laws.FnExactOpenShare", spec := "fnExactOpenShare", unfollowed := true, recurses := true, apart := false }
def FnExactOpenShareSaid : Prop := fnExactOpenShareRow.holds Tryz.pinned (OpenSpec.ofChange fnExactOpenShareSpec)

/-- ITS FALSE NEIGHBOUR: 'it returns false'. Refute it at one input. -/
def fnExactOpenShareWrong : ChangeSpec := { name := "fnExactOpenShare", fn := fun _ => fun
  | [d1, d2, d3] => { results := [.lit (.bool false)], args := [d1, d2, d3] }
  | _ => none }
def FnExactOpenShareWrongFalsely : Prop := fnExactOpenShareRow.holds Tryz.pinned (OpenSpec.ofChange fnExactOpenShareWrong)

/-- 'laws.FnExactWholeShare': WHATEVER THE INPUT: true; the input reads as it did. -/
def fnExactWholeShareSpec : ChangeSpec := { name := "fnExactWholeShare", fn := fun _ => fun
  | [d1, d2, d3] => { results := [.lit (.bool true)], args := [d1, d2, d3] }
  | _ => none }
def fnExactWholeShareRow : OpenClaim := { program := "ythfpkjhjkbpbiaagreat", sum := "232dfbc5e40c0bfa71ac25981a763ea4c9de432821e57ab717a72089805366ea", func := "loop.example/g00089/laws.FnExactWholeShare", spec := "fnExactWholeShare", unfollowed := true, recurses := true, apart := false }
def FnExactWholeShareSaid : Prop := fnExactWholeShareRow.holds Tryz.pinned (OpenSpec.ofChange fnExactWholeShareSpec)

/-- ITS FALSE NEIGHBOUR: 'it returns false'. Refute it at one input. -/
def fnExactWholeShareWrong : ChangeSpec := { name := "fnExactWholeShare", fn := fun _ => fun
  | [d1, d2, d3] => { results := [.lit (.bool false)], args := [d1, d2, d3] }
  | _ => none }
def FnExactWholeShareWrongFalsely : Prop := fnExactWholeShareRow.holds Tryz.pinned (OpenSpec.ofChange fnExactWholeShareWrong)

/-- 'laws.FnExactNotReady': WHATEVER THE INPUT: true; the input reads as it did. -/
def fnExactNotReadySpec : ChangeSpec := { name := "fnExactNotReady", fn := fun _ => fun
  | [d1, d2] => { results := [.lit (.bool true)], args := [d1, d2] }
  | _ => none }
def fnExactNotReadyRow : OpenClaim := { program := "ythfpkjhjkbpbiaagreat", sum := "232dfbc5e40c0bfa71ac25981a763ea4c9de432821e57ab717a72089805366ea", func := "loop.example/g00089/laws.FnExactNotReady", spec := "fnExactNotReady", unfollowed := true, recurses := true, apart := false }
def FnExactNotReadySaid : Prop := fnExactNotReadyRow.holds Tryz.pinned (OpenSpec.ofChange fnExactNotReadySpec)

/-- ITS FALSE NEIGHBOUR: 'it returns false'. Refute it at one input. -/
def fnExactNotReadyWrong : ChangeSpec := { name := "fnExactNotReady", fn := fun _ => fun
  | [d1, d2] => { results := [.lit (.bool false)], args := [d1, d2] }
  | _ => none }
def FnExactNotReadyWrongFalsely : Prop := fnExactNotReadyRow.holds Tryz.pinned (OpenSpec.ofChange fnExactNotReadyWrong)

/-- 'laws.FnExactVoidShares': WHATEVER THE INPUT: true; the input reads as it did. -/
def fnExactVoidSharesSpec : ChangeSpec := { name := "fnExactVoidShares", fn := fun _ => fun
  | [d] => { results := [.lit (.bool true)], args := [d] }
  | _ => none }
def fnExactVoidSharesRow : OpenClaim := { program := "ythfpkjhjkbpbiaagreat", sum := "232dfbc5e40c0bfa71ac25981a763ea4c9de432821e57ab717a72089805366ea", func := "loop.example/g00089/laws.FnExactVoidShares", spec := "fnExactVoidShares", unfollowed := true, recurses := true, apart := false }
def FnExactVoidSharesSaid : Prop := fnExactVoidSharesRow.holds Tryz.pinned (OpenSpec.ofChange fnExactVoidSharesSpec)

/-- ITS FALSE NEIGHBOUR: 'it returns false'. Refute it at one input. -/
def fnExactVoidSharesWrong : ChangeSpec := { name := "fnExactVoidShares", fn := fun _ => fun
  | [d] => { results := [.lit (.bool false)], args := [d] }
  | _ => none }
def FnExactVoidSharesWrongFalsely : Prop := fnExactVoidSharesRow.holds Tryz.pinned (OpenSpec.ofChange fnExactVoidSharesWrong)

/-- 'laws.FnExactColumnHolds': WHATEVER THE INPUT: true; the input reads as it did. -/
def fnExactColumnHoldsSpec : ChangeSpec := { name := "fnExactColumnHolds", fn := fun _ => fun
  | [d1, d2] => { results := [.lit (.bool true)], args := [d1, d2] }
  | _ => none }
def fnExactColumnHoldsRow : OpenClaim := { program := "ythfpkjhjkbpbiaagreat", sum := "232dfbc5e40c0bfa71ac25981a763ea4c9de432821e57ab717a72089805366ea", func := "loop.example/g00089/laws.FnExactColumnHolds", spec := "fnExactColumnHolds", unfollowed := true, recurses := true, apart := false }
def FnExactColumnHoldsSaid : Prop := fnExactColumnHoldsRow.holds Tryz.pinned (OpenSpec.ofChange fnExactColumnHoldsSpec)

/-- ITS FALSE NEIGHBOUR: 'it returns false'. Refute it at one input. -/
def fnExactColumnHoldsWrong : ChangeSpec := { name := "fnExactColumnHolds", fn := fun _ => fun
  | [d1, d2] => { results := [.lit (.bool false)], args := [d1, d2] }
  | _ => none }
def FnExactColumnHoldsWrongFalsely : Prop := fnExactColumnHoldsRow.holds Tryz.pinned (OpenSpec.ofChange fnExactColumnHoldsWrong)

/-- 'laws.FnExactNewestItem': WHATEVER THE INPUT: true; the input reads as it did. -/
def fnExactNewestItemSpec : ChangeSpec := { name := "fnExactNewestItem", fn := fun _ => fun
  | [d1, d2] => { results := [.lit (.bool true)], args := [d1, d2] }
  | _ => none }
def fnExactNewestItemRow : OpenClaim := { program := "ythfpkjhjkbpbiaagreat", sum := "232dfbc5e40c0bfa71ac25981a763ea4c9de432821e57ab717a72089805366ea", func := "loop.example/g00089/laws.FnExactNewestItem", spec := "fnExactNewestItem", inPlace := ["internal/bytealg.abigen_runtime_cmpstring"], unfollowed := true, recurses := true, apart := false }
def FnExactNewestItemSaid : Prop := fnExactNewestItemRow.holds Tryz.pinned (OpenSpec.ofChange fnExactNewestItemSpec)

/-- ITS FALSE NEIGHBOUR: 'it returns false'. Refute it at one input. -/
def fnExactNewestItemWrong : ChangeSpec := { name := "fnExactNewestItem", fn := fun _ => fun
  | [d1, d2] => { results := [.lit (.bool false)], args := [d1, d2] }
  | _ => none }
def FnExactNewestItemWrongFalsely : Prop := fnExactNewestItemRow.holds Tryz.pinned (OpenSpec.ofChange fnExactNewestItemWrong)

/-- 'laws.FnExactItemsOf': WHATEVER THE INPUT: true; the input reads as it did. -/
def fnExactItemsOfSpec : ChangeSpec := { name := "fnExactItemsOf", fn := fun _ => fun
  | [d] => { results := [.lit (.bool true)], args := [d] }
  | _ => none }
def fnExactItemsOfRow : OpenClaim := { program := "ythfpkjhjkbpbiaagreat", sum := "232dfbc5e40c0bfa71ac25981a763ea4c9de432821e57ab717a72089805366ea", func := "loop.example/g00089/laws.FnExactItemsOf", spec := "fnExactItemsOf", inPlace := ["internal/bytealg.abigen_runtime_cmpstring"], unfollowed := true, recurses := true, apart := false }
def FnExactItemsOfSaid : Prop := fnExactItemsOfRow.holds Tryz.pinned (OpenSpec.ofChange fnExactItemsOfSpec)

/-- ITS FALSE NEIGHBOUR: 'it returns false'. Refute it at one input. -/
def fnExactItemsOfWrong : ChangeSpec := { name := "fnExactItemsOf", fn := fun _ => fun
  | [d] => { results := [.lit (.bool false)], args := [d] }
  | _ => none }
def FnExactItemsOfWrongFalsely : Prop := fnExactItemsOfRow.holds Tryz.pinned (OpenSpec.ofChange fnExactItemsOfWrong)

/-- 'laws.FnExactRedoMove': WHATEVER THE INPUT: true; the input reads as it did. -/
def fnExactRedoMoveSpec : ChangeSpec := { name := "fnExactRedoMove", fn := fun _ => fun
  | [d1, d2, d3] => { results := [.lit (.bool true)], args := [d1, d2, d3] }
  | _ => none }
def fnExactRedoMoveRow : OpenClaim := { program := "ythfpkjhjkbpbiaagreat", sum := "232dfbc5e40c0bfa71ac25981a763ea4c9de432821e57ab717a72089805366ea", func := "loop.example/g00089/laws.FnExactRedoMove", spec := "fnExactRedoMove", unfollowed := true, recurses := true, apart := false }
def FnExactRedoMoveSaid : Prop := fnExactRedoMoveRow.holds Tryz.pinned (OpenSpec.ofChange fnExactRedoMoveSpec)

/-- ITS FALSE NEIGHBOUR: 'it returns false'. Refute it at one input. -/
def fnExactRedoMoveWrong : ChangeSpec := { name := "fnExactRedoMove", fn := fun _ => fun
  | [d1, d2, d3] => { results := [.lit (.bool false)], args := [d1, d2, d3] }
  | _ => none }
def FnExactRedoMoveWrongFalsely : Prop := fnExactRedoMoveRow.holds Tryz.pinned (OpenSpec.ofChange fnExactRedoMoveWrong)

/-- 'laws.FnExactRepairTapes': WHATEVER THE INPUT: true; the input reads as it did. -/
def fnExactRepairTapesSpec : ChangeSpec := { name := "fnExactRepairTapes", fn := fun _ => fun
  | [d] => { results := [.lit (.bool true)], args := [d] }
  | _ => none }
def fnExactRepairTapesRow : OpenClaim := { program := "ythfpkjhjkbpbiaagreat", sum := "232dfbc5e40c0bfa71ac25981a763ea4c9de432821e57ab717a72089805366ea", func := "loop.example/g00089/laws.FnExactRepairTapes", spec := "fnExactRepairTapes", unfollowed := true, recurses := true, apart := false }
def FnExactRepairTapesSaid : Prop := fnExactRepairTapesRow.holds Tryz.pinned (OpenSpec.ofChange fnExactRepairTapesSpec)

/-- ITS FALSE NEIGHBOUR: 'it returns false'. Refute it at one input. -/
def fnExactRepairTapesWrong : ChangeSpec := { name := "fnExactRepairTapes", fn := fun _ => fun
  | [d] => { results := [.lit (.bool false)], args := [d] }
  | _ => none }
def FnExactRepairTapesWrongFalsely : Prop := fnExactRepairTapesRow.holds Tryz.pinned (OpenSpec.ofChange fnExactRepairTapesWrong)

/-- 'laws.FnExactCleanTapes': WHATEVER THE INPUT: true; the input reads as it did. -/
def fnExactCleanTapesSpec : ChangeSpec := { name := "fnExactCleanTapes", fn := fun _ => fun
  | [d] => { results := [.lit (.bool true)], args := [d] }
  | _ => none }
def fnExactCleanTapesRow : OpenClaim := { program := "ythfpkjhjkbpbiaagreat", sum := "232dfbc5e40c0bfa71ac25981a763ea4c9de432821e57ab717a72089805366ea", func := "loop.example/g00089/laws.FnExactCleanTapes", spec := "fnExactCleanTapes", unfollowed := true, recurses := true, apart := false }
def FnExactCleanTapesSaid : Prop := fnExactCleanTapesRow.holds Tryz.pinned (OpenSpec.ofChange fnExactCleanTapesSpec)

/-- ITS FALSE NEIGHBOUR: 'it returns false'. Refute it at one input. -/
def fnExactCleanTapesWrong : ChangeSpec := { name := "fnExactCleanTapes", fn := fun _ => fun
  | [d] => { results := [.lit (.bool false)], args := [d] }
  | _ => none }
def FnExactCleanTapesWrongFalsely : Prop := fnExactCleanTapesRow.holds Tryz.pinned (OpenSpec.ofChange fnExactCleanTapesWrong)

/-- 'laws.FnExactDropVoid': WHATEVER THE INPUT: true; the input reads as it did. -/
def fnExactDropVoidSpec : ChangeSpec := { name := "fnExactDropVoid", fn := fun _ => fun
  | [d] => { results := [.lit (.bool true)], args := [d] }
  | _ => none }
def fnExactDropVoidRow : OpenClaim := { program := "ythfpkjhjkbpbiaagreat", sum := "232dfbc5e40c0bfa71ac25981a763ea4c9de432821e57ab717a72089805366ea", func := "loop.example/g00089/laws.FnExactDropVoid", spec := "fnExactDropVoid", unfollowed := true, recurses := true, apart := false }
def FnExactDropVoidSaid : Prop := fnExactDropVoidRow.holds Tryz.pinned (OpenSpec.ofChange fnExactDropVoidSpec)

/-- ITS FALSE NEIGHBOUR: 'it returns false'. Refute it at one input. -/
def fnExactDropVoidWrong : ChangeSpec := { name := "fnExactDropVoid", fn := fun _ => fun
  | [d] => { results := [.lit (.bool false)], args := [d] }
  | _ => none }
def FnExactDropVoidWrongFalsely : Prop := fnExactDropVoidRow.holds Tryz.pinned (OpenSpec.ofChange fnExactDropVoidWrong)

/-- 'laws.FnExactRedoAll': WHATEVER THE INPUT: true; the input reads as it did. -/
def fnExactRedoAllSpec : ChangeSpec := { name := "fnExactRedoAll", fn := fun _ => fun
  | [d1, d2] => { results := [.lit (.bool true)], args := [d1, d2] }
  | _ => none }
def fnExactRedoAllRow : OpenClaim := { program := "ythfpkjhjkbpbiaagreat", sum := "232dfbc5e40c0bfa71ac25981a763ea4c9de432821e57ab717a72089805366ea", func := "loop.example/g00089/laws.FnExactRedoAll", spec := "fnExactRedoAll", unfollowed := true, recurses := true, apart := false }
def FnExactRedoAllSaid : Prop := fnExactRedoAllRow.holds Tryz.pinned (OpenSpec.ofChange fnExactRedoAllSpec)

/-- ITS FALSE NEIGHBOUR: 'it returns false'. Refute it at one input. -/
def fnExactRedoAllWrong : ChangeSpec := { name := "fnExactRedoAll", fn := fun _ => fun
  | [d1, d2] => { results := [.lit (.bool false)], args := [d1, d2] }
  | _ => none }
def FnExactRedoAllWrongFalsely : Prop := fnExactRedoAllRow.holds Tryz.pinned (OpenSpec.ofChange fnExactRedoAllWrong)

/- THE SECOND FORM. 'bulk': how many values and letters a reading holds, each counted each time it is reached (what is shared counts as often as it is met; a slice's spare places count too). A statement '..UptoSaid' is the law's where the arguments, and the package variables that the reading takes, are together of bulk at most 1048576: NARROWER than '..Said'. Prove '..Said' where nothing that the law and all that it calls make is longer than what came in: it says more and counts as full. Else prove '..UptoSaid'. A law counts once. -/
mutual
def uptoBulk {H : Type} : DataW H → Nat
  | .lit (.string bytes) => bytes.length + 1
  | .lit _ => 1
  | .nil => 1
  | .ptr d => uptoBulk d + 1
  | .slice elems spare => uptoBulkAll elems + uptoBulkAll spare + 1
  | .agg parts => uptoBulkAll parts + 1
  | .iface _ d => uptoBulk d + 1
  | .map entries => uptoBulkEntries entries + 1
  | .held _ => 1
def uptoBulkAll {H : Type} : List (DataW H) → Nat
  | [] => 0
  | d :: r => uptoBulk d + uptoBulkAll r
def uptoBulkEntries {H : Type} : List (Lit × DataW H) → Nat
  | [] => 0
  | x :: r => uptoBulkEntry x + uptoBulkEntries r
def uptoBulkEntry {H : Type} : Lit × DataW H → Nat
  | (.string bytes, d) => bytes.length + uptoBulk d + 1
  | (_, d) => uptoBulk d + 1
 end
def uptoSmall : (H : Type) → List (DataW H) → Bool := fun _ ds => decide (uptoBulkAll ds ≤ 1048576)
def OpenSpec.upto (s : _root_.Go.ChangeSpec) : _root_.Go.OpenSpec := { _root_.Go.OpenSpec.ofChange s with cond := some uptoSmall }

/-- 'laws.FnExactOpenShare', WHERE WHAT IT READS IS OF BULK AT MOST 1048576: true; the input reads as it did. -/
def fnExactOpenShareUptoRow : OpenClaim := { program := "ythfpkjhjkbpbiaagreat", sum := "232dfbc5e40c0bfa71ac25981a763ea4c9de432821e57ab717a72089805366ea", func := "loop.example/g00089/laws.FnExactOpenShare", spec := "fnExactOpenShare", unfollowed := true, recurses := true, apart := false, narrowed := true }
def FnExactOpenShareUptoSaid : Prop := fnExactOpenShareUptoRow.holds Tryz.pinned (OpenSpec.upto fnExactOpenShareSpec)

/-- 'laws.FnExactWholeShare', WHERE WHAT IT READS IS OF BULK AT MOST 1048576: true; the input reads as it did. -/
def fnExactWholeShareUptoRow : OpenClaim := { program := "ythfpkjhjkbpbiaagreat", sum := "232dfbc5e40c0bfa71ac25981a763ea4c9de432821e57ab717a72089805366ea", func := "loop.example/g00089/laws.FnExactWholeShare", spec := "fnExactWholeShare", unfollowed := true, recurses := true, apart := false, narrowed := true }
def FnExactWholeShareUptoSaid : Prop := fnExactWholeShareUptoRow.holds Tryz.pinned (OpenSpec.upto fnExactWholeShareSpec)

/-- 'laws.FnExactNotReady', WHERE WHAT IT READS IS OF BULK AT MOST 1048576: true; the input reads as it did. -/
def fnExactNotReadyUptoRow : OpenClaim := { program := "ythfpkjhjkbpbiaagreat", sum := "232dfbc5e40c0bfa71ac25981a763ea4c9de432821e57ab717a72089805366ea", func := "loop.example/g00089/laws.FnExactNotReady", spec := "fnExactNotReady", unfollowed := true, recurses := true, apart := false, narrowed := true }
def FnExactNotReadyUptoSaid : Prop := fnExactNotReadyUptoRow.holds Tryz.pinned (OpenSpec.upto fnExactNotReadySpec)

/-- 'laws.FnExactVoidShares', WHERE WHAT IT READS IS OF BULK AT MOST 1048576: true; the input reads as it did. -/
def fnExactVoidSharesUptoRow : OpenClaim := { program := "ythfpkjhjkbpbiaagreat", sum := "232dfbc5e40c0bfa71ac25981a763ea4c9de432821e57ab717a72089805366ea", func := "loop.example/g00089/laws.FnExactVoidShares", spec := "fnExactVoidShares", unfollowed := true, recurses := true, apart := false, narrowed := true }
def FnExactVoidSharesUptoSaid : Prop := fnExactVoidSharesUptoRow.holds Tryz.pinned (OpenSpec.upto fnExactVoidSharesSpec)

/-- 'laws.FnExactColumnHolds', WHERE WHAT IT READS IS OF BULK AT MOST 1048576: true; the input reads as it did. -/
def fnExactColumnHoldsUptoRow : OpenClaim := { program := "ythfpkjhjkbpbiaagreat", sum := "232dfbc5e40c0bfa71ac25981a763ea4c9de432821e57ab717a72089805366ea", func := "loop.example/g00089/laws.FnExactColumnHolds", spec := "fnExactColumnHolds", unfollowed := true, recurses := true, apart := false, narrowed := true }
def FnExactColumnHoldsUptoSaid : Prop := fnExactColumnHoldsUptoRow.holds Tryz.pinned (OpenSpec.upto fnExactColumnHoldsSpec)

/-- 'laws.FnExactNewestItem', WHERE WHAT IT READS IS OF BULK AT MOST 1048576: true; the input reads as it did. -/
def fnExactNewestItemUptoRow : OpenClaim := { program := "ythfpkjhjkbpbiaagreat", sum := "232dfbc5e40c0bfa71ac25981a763ea4c9de432821e57ab717a72089805366ea", func := "loop.example/g00089/laws.FnExactNewestItem", spec := "fnExactNewestItem", inPlace := ["internal/bytealg.abigen_runtime_cmpstring"], unfollowed := true, recurses := true, apart := false, narrowed := true }
def FnExactNewestItemUptoSaid : Prop := fnExactNewestItemUptoRow.holds Tryz.pinned (OpenSpec.upto fnExactNewestItemSpec)

/-- 'laws.FnExactItemsOf', WHERE WHAT IT READS IS OF BULK AT MOST 1048576: true; the input reads as it did. -/
def fnExactItemsOfUptoRow : OpenClaim := { program := "ythfpkjhjkbpbiaagreat", sum := "232dfbc5e40c0bfa71ac25981a763ea4c9de432821e57ab717a72089805366ea", func := "loop.example/g00089/laws.FnExactItemsOf", spec := "fnExactItemsOf", inPlace := ["internal/bytealg.abigen_runtime_cmpstring"], unfollowed := true, recurses := true, apart := false, narrowed := true }
def FnExactItemsOfUptoSaid : Prop := fnExactItemsOfUptoRow.holds Tryz.pinned (OpenSpec.upto fnExactItemsOfSpec)

/-- 'laws.FnExactRedoMove', WHERE WHAT IT READS IS OF BULK AT MOST 1048576: true; the input reads as it did. -/
def fnExactRedoMoveUptoRow : OpenClaim := { program := "ythfpkjhjkbpbiaagreat", sum := "232dfbc5e40c0bfa71ac25981a763ea4c9de432821e57ab717a72089805366ea", func := "loop.example/g00089/laws.FnExactRedoMove", spec := "fnExactRedoMove", unfollowed := true, recurses := true, apart := false, narrowed := true }
def FnExactRedoMoveUptoSaid : Prop := fnExactRedoMoveUptoRow.holds Tryz.pinned (OpenSpec.upto fnExactRedoMoveSpec)

/-- 'laws.FnExactRepairTapes', WHERE WHAT IT READS IS OF BULK AT MOST 1048576: true; the input reads as it did. -/
def fnExactRepairTapesUptoRow : OpenClaim := { program := "ythfpkjhjkbpbiaagreat", sum := "232dfbc5e40c0bfa71ac25981a763ea4c9de432821e57ab717a72089805366ea", func := "loop.example/g00089/laws.FnExactRepairTapes", spec := "fnExactRepairTapes", unfollowed := true, recurses := true, apart := false, narrowed := true }
def FnExactRepairTapesUptoSaid : Prop := fnExactRepairTapesUptoRow.holds Tryz.pinned (OpenSpec.upto fnExactRepairTapesSpec)

/-- 'laws.FnExactCleanTapes', WHERE WHAT IT READS IS OF BULK AT MOST 1048576: true; the input reads as it did. -/
def fnExactCleanTapesUptoRow : OpenClaim := { program := "ythfpkjhjkbpbiaagreat", sum := "232dfbc5e40c0bfa71ac25981a763ea4c9de432821e57ab717a72089805366ea", func := "loop.example/g00089/laws.FnExactCleanTapes", spec := "fnExactCleanTapes", unfollowed := true, recurses := true, apart := false, narrowed := true }
def FnExactCleanTapesUptoSaid : Prop := fnExactCleanTapesUptoRow.holds Tryz.pinned (OpenSpec.upto fnExactCleanTapesSpec)

/-- 'laws.FnExactDropVoid', WHERE WHAT IT READS IS OF BULK AT MOST 1048576: true; the input reads as it did. -/
def fnExactDropVoidUptoRow : OpenClaim := { program := "ythfpkjhjkbpbiaagreat", sum := "232dfbc5e40c0bfa71ac25981a763ea4c9de432821e57ab717a72089805366ea", func := "loop.example/g00089/laws.FnExactDropVoid", spec := "fnExactDropVoid", unfollowed := true, recurses := true, apart := false, narrowed := true }
def FnExactDropVoidUptoSaid : Prop := fnExactDropVoidUptoRow.holds Tryz.pinned (OpenSpec.upto fnExactDropVoidSpec)

/-- 'laws.FnExactRedoAll', WHERE WHAT IT READS IS OF BULK AT MOST 1048576: true; the input reads as it did. -/
def fnExactRedoAllUptoRow : OpenClaim := { program := "ythfpkjhjkbpbiaagreat", sum := "232dfbc5e40c0bfa71ac25981a763ea4c9de432821e57ab717a72089805366ea", func := "loop.example/g00089/laws.FnExactRedoAll", spec := "fnExactRedoAll", unfollowed := true, recurses := true, apart := false, narrowed := true }
def FnExactRedoAllUptoSaid : Prop := fnExactRedoAllUptoRow.holds Tryz.pinned (OpenSpec.upto fnExactRedoAllSpec)

end Rows
end Go.Proofs.YthfpkjhjkbpbiaaGreat
