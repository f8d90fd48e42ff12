/-
  No cell of these rows narrows 'for every input' (looked for: loops, veiled, ifaces, maps, wideKeys, modest, calm, conditions, laid).
  DERIVED. THE GIVEN ROWS OF THIS SEAT. 12 by the template 'for every input the law returns true; each argument reads behind the call as it read before'; 0 by the template 'total and deterministic' (their statements: YtceeelcijjkefaaGreatTotals.lean).
  GIVEN WITH THE SEED: the statements are not yours to turn. If you find one false, say at which input.
  Laid BY PROGRAM, IN A SANDBOX (cutbox-rows.mjs): the forced cells as the released guide's own fill.sh prints them over the translation 91d1f010d4d25b4a… (all of the seat's roots in one cut). By AI agents, Wed Nov 11 2026. No macro, syntax, notation, axiom, sorry.
-/
import Derived.Test.YtceeelcijjkefaaGreatChecked
import GoSem.Claim
import GoSem.ClaimJoined
import GoSem.ClaimMapViews
import Derived.JoinedTies
import Derived.KernelRfl
namespace Go.Proofs.YtceeelcijjkefaaGreat
/- THE CELL 'sum', in the pinned program and in every row, IS THE sha256 OF THE DUMP (.gsa) THAT YtceeelcijjkefaaGreatProg.lean LOADS. Nothing in Lean hashes anything: it is a label: what it is worth is what the hold of that sum in a sandbox is worth. -/
noncomputable def Tryz.pinned : Pinned := { name := "ytceeelcijjkefaagreat", sum := "91d1f010d4d25b4a3d0b8175accc72ac099f21b612fb8b6a26cd7527bf96cc94", checked := Tryz.checked }
namespace Rows
def none {H : Type} : Left H := { results := [], args := [] }

/-- 'laws.FnExactRowStamp': WHATEVER THE INPUT: true; the input reads as it did. -/
def fnExactRowStampSpec : ChangeSpec := { name := "fnExactRowStamp", fn := fun _ => fun
  | [d1, d2, d3] => { results := [.lit (.bool true)], args := [d1, d2, d3] }
  | _ => none }
def fnExactRowStampRow : OpenClaim := { program := "ytceeelcijjkefaagreat", sum := "91d1f010d4d25b4a3d0b8175accc72ac099f21b612fb8b6a26cd7527bf96cc94", func := "loop.example/g00089/laws.FnExactRowStamp", spec := "fnExactRowStamp", unfollowed := true, recurses := true, apart := false }
def FnExactRowStampSaid : Prop := fnExactRowStampRow.holds Tryz.pinned (OpenSpec.ofChange fnExactRowStampSpec)

/-- ITS FALSE NEIGHBOUR: 'it returns false'. Refute it at one input. -/
def fnExactRowStampWrong : ChangeSpec := { name := "fnExactRowStamp", fn := fun _ => fun
  | [d1, d2, d3] => { results := [.lit (.bool false)], args := [d1, d2, d3] }
  | _ => none }
def FnExactRowStampWrongFalsely : Prop := fnExactRowStampRow.holds Tryz.pinned (OpenSpec.ofChange fnExactRowStampWrong)

/-- 'laws.FnExactDeadGroups': WHATEVER THE INPUT: true; the input reads as it did. -/
def fnExactDeadGroupsSpec : ChangeSpec := { name := "fnExactDeadGroups", fn := fun _ => fun
  | [d] => { results := [.lit (.bool true)], args := [d] }
  | _ => none }
def fnExactDeadGroupsRow : OpenClaim := { program := "ytceeelcijjkefaagreat", sum := "91d1f010d4d25b4a3d0b8175accc72ac099f21b612fb8b6a26cd7527bf96cc94", func := "loop.example/g00089/laws.FnExactDeadGroups", spec := "fnExactDeadGroups", unfollowed := true, recurses := true, apart := false }
def FnExactDeadGroupsSaid : Prop := fnExactDeadGroupsRow.holds Tryz.pinned (OpenSpec.ofChange fnExactDeadGroupsSpec)

/-- ITS FALSE NEIGHBOUR: 'it returns false'. Refute it at one input. -/
def fnExactDeadGroupsWrong : ChangeSpec := { name := "fnExactDeadGroups", fn := fun _ => fun
  | [d] => { results := [.lit (.bool false)], args := [d] }
  | _ => none }
def FnExactDeadGroupsWrongFalsely : Prop := fnExactDeadGroupsRow.holds Tryz.pinned (OpenSpec.ofChange fnExactDeadGroupsWrong)

/-- 'laws.FnExactWipedOf': WHATEVER THE INPUT: true; the input reads as it did. -/
def fnExactWipedOfSpec : ChangeSpec := { name := "fnExactWipedOf", fn := fun _ => fun
  | [d1, d2] => { results := [.lit (.bool true)], args := [d1, d2] }
  | _ => none }
def fnExactWipedOfRow : OpenClaim := { program := "ytceeelcijjkefaagreat", sum := "91d1f010d4d25b4a3d0b8175accc72ac099f21b612fb8b6a26cd7527bf96cc94", func := "loop.example/g00089/laws.FnExactWipedOf", spec := "fnExactWipedOf", unfollowed := true, recurses := true, apart := false }
def FnExactWipedOfSaid : Prop := fnExactWipedOfRow.holds Tryz.pinned (OpenSpec.ofChange fnExactWipedOfSpec)

/-- ITS FALSE NEIGHBOUR: 'it returns false'. Refute it at one input. -/
def fnExactWipedOfWrong : ChangeSpec := { name := "fnExactWipedOf", fn := fun _ => fun
  | [d1, d2] => { results := [.lit (.bool false)], args := [d1, d2] }
  | _ => none }
def FnExactWipedOfWrongFalsely : Prop := fnExactWipedOfRow.holds Tryz.pinned (OpenSpec.ofChange fnExactWipedOfWrong)

/-- 'laws.FnExactGroupHolds': WHATEVER THE INPUT: true; the input reads as it did. -/
def fnExactGroupHoldsSpec : ChangeSpec := { name := "fnExactGroupHolds", fn := fun _ => fun
  | [d1, d2] => { results := [.lit (.bool true)], args := [d1, d2] }
  | _ => none }
def fnExactGroupHoldsRow : OpenClaim := { program := "ytceeelcijjkefaagreat", sum := "91d1f010d4d25b4a3d0b8175accc72ac099f21b612fb8b6a26cd7527bf96cc94", func := "loop.example/g00089/laws.FnExactGroupHolds", spec := "fnExactGroupHolds", unfollowed := true, recurses := true, apart := false }
def FnExactGroupHoldsSaid : Prop := fnExactGroupHoldsRow.holds Tryz.pinned (OpenSpec.ofChange fnExactGroupHoldsSpec)

/-- ITS FALSE NEIGHBOUR: 'it returns false'. Refute it at one input. -/
def fnExactGroupHoldsWrong : ChangeSpec := { name := "fnExactGroupHolds", fn := fun _ => fun
  | [d1, d2] => { results := [.lit (.bool false)], args := [d1, d2] }
  | _ => none }
def FnExactGroupHoldsWrongFalsely : Prop := fnExactGroupHoldsRow.holds Tryz.pinned (OpenSpec.ofChange fnExactGroupHoldsWrong)

/-- 'laws.FnExactStrikeBoth': WHATEVER THE INPUT: true; the input reads as it did. -/
def fnExactStrikeBothSpec : ChangeSpec := { name := "fnExactStrikeBoth", fn := fun _ => fun
  | [d1, d2, d3] => { results := [.lit (.bool true)], args := [d1, d2, d3] }
  | _ => none }
def fnExactStrikeBothRow : OpenClaim := { program := "ytceeelcijjkefaagreat", sum := "91d1f010d4d25b4a3d0b8175accc72ac099f21b612fb8b6a26cd7527bf96cc94", func := "loop.example/g00089/laws.FnExactStrikeBoth", spec := "fnExactStrikeBoth", unfollowed := true, recurses := true, apart := false }
def FnExactStrikeBothSaid : Prop := fnExactStrikeBothRow.holds Tryz.pinned (OpenSpec.ofChange fnExactStrikeBothSpec)

/-- ITS FALSE NEIGHBOUR: 'it returns false'. Refute it at one input. -/
def fnExactStrikeBothWrong : ChangeSpec := { name := "fnExactStrikeBoth", fn := fun _ => fun
  | [d1, d2, d3] => { results := [.lit (.bool false)], args := [d1, d2, d3] }
  | _ => none }
def FnExactStrikeBothWrongFalsely : Prop := fnExactStrikeBothRow.holds Tryz.pinned (OpenSpec.ofChange fnExactStrikeBothWrong)

/-- 'laws.FnExactLayRec': WHATEVER THE INPUT: true; the input reads as it did. -/
def fnExactLayRecSpec : ChangeSpec := { name := "fnExactLayRec", fn := fun _ => fun
  | [d1, d2] => { results := [.lit (.bool true)], args := [d1, d2] }
  | _ => none }
def fnExactLayRecRow : OpenClaim := { program := "ytceeelcijjkefaagreat", sum := "91d1f010d4d25b4a3d0b8175accc72ac099f21b612fb8b6a26cd7527bf96cc94", func := "loop.example/g00089/laws.FnExactLayRec", spec := "fnExactLayRec", unfollowed := true, recurses := true, apart := false }
def FnExactLayRecSaid : Prop := fnExactLayRecRow.holds Tryz.pinned (OpenSpec.ofChange fnExactLayRecSpec)

/-- ITS FALSE NEIGHBOUR: 'it returns false'. Refute it at one input. -/
def fnExactLayRecWrong : ChangeSpec := { name := "fnExactLayRec", fn := fun _ => fun
  | [d1, d2] => { results := [.lit (.bool false)], args := [d1, d2] }
  | _ => none }
def FnExactLayRecWrongFalsely : Prop := fnExactLayRecRow.holds Tryz.pinned (OpenSpec.ofChange fnExactLayRecWrong)

/-- 'laws.FnExactSharersOf': WHATEVER THE INPUT: true; the input reads as it did. -/
def fnExactSharersOfSpec : ChangeSpec := { name := "fnExactSharersOf", fn := fun _ => fun
  | [d1, d2] => { results := [.lit (.bool true)], args := [d1, d2] }
  | _ => none }
def fnExactSharersOfRow : OpenClaim := { program := "ytceeelcijjkefaagreat", sum := "91d1f010d4d25b4a3d0b8175accc72ac099f21b612fb8b6a26cd7527bf96cc94", func := "loop.example/g00089/laws.FnExactSharersOf", spec := "fnExactSharersOf", unfollowed := true, recurses := true, apart := false }
def FnExactSharersOfSaid : Prop := fnExactSharersOfRow.holds Tryz.pinned (OpenSpec.ofChange fnExactSharersOfSpec)

/-- ITS FALSE NEIGHBOUR: 'it returns false'. Refute it at one input. -/
def fnExactSharersOfWrong : ChangeSpec := { name := "fnExactSharersOf", fn := fun _ => fun
  | [d1, d2] => { results := [.lit (.bool false)], args := [d1, d2] }
  | _ => none }
def FnExactSharersOfWrongFalsely : Prop := fnExactSharersOfRow.holds Tryz.pinned (OpenSpec.ofChange fnExactSharersOfWrong)

/-- 'laws.FnExactRowBytes': WHATEVER THE INPUT: true; the input reads as it did. -/
def fnExactRowBytesSpec : ChangeSpec := { name := "fnExactRowBytes", fn := fun _ => fun
  | [d1, d2, d3] => { results := [.lit (.bool true)], args := [d1, d2, d3] }
  | _ => none }
def fnExactRowBytesRow : OpenClaim := { program := "ytceeelcijjkefaagreat", sum := "91d1f010d4d25b4a3d0b8175accc72ac099f21b612fb8b6a26cd7527bf96cc94", func := "loop.example/g00089/laws.FnExactRowBytes", spec := "fnExactRowBytes", unfollowed := true, recurses := true, apart := false }
def FnExactRowBytesSaid : Prop := fnExactRowBytesRow.holds Tryz.pinned (OpenSpec.ofChange fnExactRowBytesSpec)

/-- ITS FALSE NEIGHBOUR: 'it returns false'. Refute it at one input. -/
def fnExactRowBytesWrong : ChangeSpec := { name := "fnExactRowBytes", fn := fun _ => fun
  | [d1, d2, d3] => { results := [.lit (.bool false)], args := [d1, d2, d3] }
  | _ => none }
def FnExactRowBytesWrongFalsely : Prop := fnExactRowBytesRow.holds Tryz.pinned (OpenSpec.ofChange fnExactRowBytesWrong)

/-- 'laws.FnExactOldBytes': WHATEVER THE INPUT: true; the input reads as it did. -/
def fnExactOldBytesSpec : ChangeSpec := { name := "fnExactOldBytes", fn := fun _ => fun
  | [d1, d2, d3, d4] => { results := [.lit (.bool true)], args := [d1, d2, d3, d4] }
  | _ => none }
def fnExactOldBytesRow : OpenClaim := { program := "ytceeelcijjkefaagreat", sum := "91d1f010d4d25b4a3d0b8175accc72ac099f21b612fb8b6a26cd7527bf96cc94", func := "loop.example/g00089/laws.FnExactOldBytes", spec := "fnExactOldBytes", unfollowed := true, recurses := true, apart := false }
def FnExactOldBytesSaid : Prop := fnExactOldBytesRow.holds Tryz.pinned (OpenSpec.ofChange fnExactOldBytesSpec)

/-- ITS FALSE NEIGHBOUR: 'it returns false'. Refute it at one input. -/
def fnExactOldBytesWrong : ChangeSpec := { name := "fnExactOldBytes", fn := fun _ => fun
  | [d1, d2, d3, d4] => { results := [.lit (.bool false)], args := [d1, d2, d3, d4] }
  | _ => none }
def FnExactOldBytesWrongFalsely : Prop := fnExactOldBytesRow.holds Tryz.pinned (OpenSpec.ofChange fnExactOldBytesWrong)

/-- 'laws.FnExactWholeShare': WHATEVER THE INPUT: true; the input reads as it did. -/
def fnExactWholeShareSpec : ChangeSpec := { name := "fnExactWholeShare", fn := fun _ => fun
  | [d1, d2, d3] => { results := [.lit (.bool true)], args := [d1, d2, d3] }
  | _ => none }
def fnExactWholeShareRow : OpenClaim := { program := "ytceeelcijjkefaagreat", sum := "91d1f010d4d25b4a3d0b8175accc72ac099f21b612fb8b6a26cd7527bf96cc94", func := "loop.example/g00089/laws.FnExactWholeShare", spec := "fnExactWholeShare", unfollowed := true, recurses := true, apart := false }
def FnExactWholeShareSaid : Prop := fnExactWholeShareRow.holds Tryz.pinned (OpenSpec.ofChange fnExactWholeShareSpec)

/-- ITS FALSE NEIGHBOUR: 'it returns false'. Refute it at one input. -/
def fnExactWholeShareWrong : ChangeSpec := { name := "fnExactWholeShare", fn := fun _ => fun
  | [d1, d2, d3] => { results := [.lit (.bool false)], args := [d1, d2, d3] }
  | _ => none }
def FnExactWholeShareWrongFalsely : Prop := fnExactWholeShareRow.holds Tryz.pinned (OpenSpec.ofChange fnExactWholeShareWrong)

/-- 'laws.FnExactOpenShare': WHATEVER THE INPUT: true; the input reads as it did. -/
def fnExactOpenShareSpec : ChangeSpec := { name := "fnExactOpenShare", fn := fun _ => fun
  | [d1, d2, d3] => { results := [.lit (.bool true)], args := [d1, d2, d3] }
  | _ => none }
def fnExactOpenShareRow : OpenClaim := { program := "ytceeelcijjkefaagreat", sum := "91d1f010d4d25b4a3d0b8175accc72ac099f21b612fb8b6a26cd7527bf96cc94", func := "loop.example/g00089/laws.FnExactOpenShare", spec := "fnExactOpenShare", unfollowed := true, recurses := true, apart := false }
def FnExactOpenShareSaid : Prop := fnExactOpenShareRow.holds Tryz.pinned (OpenSpec.ofChange fnExactOpenShareSpec)

/-- ITS FALSE NEIGHBOUR: 'it returns false'. Refute it at one input. -/
def fnExactOpenShareWrong : ChangeSpec := { name := "fnExactOpenShare", fn := fun _ => fun
  | [d1, d2, d3] => { results := [.lit (.bool false)], args := [d1, d2, d3] }
  | _ => none }
def FnExactOpenShareWrongFalsely : Prop := fnExactOpenShareRow.holds Tryz.pinned (OpenSpec.ofChange fnExactOpenShareWrong)

/-- 'laws.FnExactNotReady': WHATEVER THE INPUT: true; the input reads as it did. -/
def fnExactNotReadySpec : ChangeSpec := { name := "fnExactNotReady", fn := fun _ => fun
  | [d1, d2] => { results := [.lit (.bool true)], args := [d1, d2] }
  | _ => none }
def fnExactNotReadyRow : OpenClaim := { program := "ytceeelcijjkefaagreat", sum := "91d1f010d4d25b4a3d0b8175accc72ac099f21b612fb8b6a26cd7527bf96cc94", func := "loop.example/g00089/laws.FnExactNotReady", spec := "fnExactNotReady", unfollowed := true, recurses := true, apart := false }
def FnExactNotReadySaid : Prop := fnExactNotReadyRow.holds Tryz.pinned (OpenSpec.ofChange fnExactNotReadySpec)

/-- ITS FALSE NEIGHBOUR: 'it returns false'. Refute it at one input. -/
def fnExactNotReadyWrong : ChangeSpec := { name := "fnExactNotReady", fn := fun _ => fun
  | [d1, d2] => { results := [.lit (.bool false)], args := [d1, d2] }
  | _ => none }
def FnExactNotReadyWrongFalsely : Prop := fnExactNotReadyRow.holds Tryz.pinned (OpenSpec.ofChange fnExactNotReadyWrong)

/- THE SECOND FORM. 'bulk': how many values and letters a reading holds, each counted each time it is reached (what is shared counts as often as it is met; a slice's spare places count too). A statement '..UptoSaid' is the law's where the arguments, and the package variables that the reading takes, are together of bulk at most 1048576: NARROWER than '..Said'. Prove '..Said' where nothing that the law and all that it calls make is longer than what came in: it says more and counts as full. Else prove '..UptoSaid'. A law counts once. -/
mutual
def uptoBulk {H : Type} : DataW H → Nat
  | .lit (.string bytes) => bytes.length + 1
  | .lit _ => 1
  | .nil => 1
  | .ptr d => uptoBulk d + 1
  | .slice elems spare => uptoBulkAll elems + uptoBulkAll spare + 1
  | .agg parts => uptoBulkAll parts + 1
  | .iface _ d => uptoBulk d + 1
  | .map entries => uptoBulkEntries entries + 1
  | .held _ => 1
def uptoBulkAll {H : Type} : List (DataW H) → Nat
  | [] => 0
  | d :: r => uptoBulk d + uptoBulkAll r
def uptoBulkEntries {H : Type} : List (Lit × DataW H) → Nat
  | [] => 0
  | x :: r => uptoBulkEntry x + uptoBulkEntries r
def uptoBulkEntry {H : Type} : Lit × DataW H → Nat
  | (.string bytes, d) => bytes.length + uptoBulk d + 1
  | (_, d) => uptoBulk d + 1
 end
def uptoSmall : (H : Type) → List (DataW H) → Bool := fun _ ds => decide (uptoBulkAll ds ≤ 1048576)
def OpenSpec.upto (s : _root_.Go.ChangeSpec) : _root_.Go.OpenSpec := { _root_.Go.OpenSpec.ofChange s with cond := some uptoSmall }

/-- 'laws.FnExactRowStamp', WHERE WHAT IT READS IS OF BULK AT MOST 1048576: true; the input reads as it did. -/
def fnExactRowStampUptoRow : OpenClaim := { program := "ytceeelcijjkefaagreat", sum := "91d1f010d4d25b4a3d0b8175accc72ac099f21b612fb8b6a26cd7527bf96cc94", func := "loop.example/g00089/laws.FnExactRowStamp", spec := "fnExactRowStamp", unfollowed := true, recurses := true, apart := false, narrowed := true }
def FnExactRowStampUptoSaid : Prop := fnExactRowStampUptoRow.holds Tryz.pinned (OpenSpec.upto fnExactRowStampSpec)

/-- 'laws.FnExactDeadGroups', WHERE WHAT IT READS IS OF BULK AT MOST 1048576: true; the input reads as it did. -/
def fnExactDeadGroupsUptoRow : OpenClaim := { program := "ytceeelcijjkefaagreat", sum := "91d1f010d4d25b4a3d0b8175accc72ac099f21b612fb8b6a26cd7527bf96cc94", func := "loop.example/g00089/laws.FnExactDeadGroups", spec := "fnExactDeadGroups", unfollowed := true, recurses := true, apart := false, narrowed := true }
def FnExactDeadGroupsUptoSaid : Prop := fnExactDeadGroupsUptoRow.holds Tryz.pinned (OpenSpec.upto fnExactDeadGroupsSpec)

/-- 'laws.FnExactWipedOf', WHERE WHAT IT READS IS OF BULK AT MOST 1048576: true; the input reads as it did. -/
def fnExactWipedOfUptoRow : OpenClaim := { program := "ytceeelcijjkefaagreat", sum := "91d1f010d4d25b4a3d0b8175accc72ac099f21b612fb8b6a26cd7527bf96cc94", func := "loop.example/g00089/laws.FnExactWipedOf", spec := "fnExactWipedOf", unfollowed := true, recurses := true, apart := false, narrowed := true }
def FnExactWipedOfUptoSaid : Prop := fnExactWipedOfUptoRow.holds Tryz.pinned (OpenSpec.upto fnExactWipedOfSpec)

/-- 'laws.FnExactGroupHolds', WHERE WHAT IT READS IS OF BULK AT MOST 1048576: true; the input reads as it did. -/
def fnExactGroupHoldsUptoRow : OpenClaim := { program := "ytceeelcijjkefaagreat", sum := "91d1f010d4d25b4a3d0b8175accc72ac099f21b612fb8b6a26cd7527bf96cc94", func := "loop.example/g00089/laws.FnExactGroupHolds", spec := "fnExactGroupHolds", unfollowed := true, recurses := true, apart := false, narrowed := true }
def FnExactGroupHoldsUptoSaid : Prop := fnExactGroupHoldsUptoRow.holds Tryz.pinned (OpenSpec.upto fnExactGroupHoldsSpec)

/-- 'laws.FnExactStrikeBoth', WHERE WHAT IT READS IS OF BULK AT MOST 1048576: true; the input reads as it did. -/
def fnExactStrikeBothUptoRow : OpenClaim := { program := "ytceeelcijjkefaagreat", sum := "91d1f010d4d25b4a3d0b8175accc72ac099f21b612fb8b6a26cd7527bf96cc94", func := "loop.example/g00089/laws.FnExactStrikeBoth", spec := "fnExactStrikeBoth", unfollowed := true, recurses := true, apart := false, narrowed := true }
def FnExactStrikeBothUptoSaid : Prop := fnExactStrikeBothUptoRow.holds Tryz.pinned (OpenSpec.upto fnExactStrikeBothSpec)

/-- 'laws.FnExactLayRec', WHERE WHAT IT READS IS OF BULK AT MOST 1048576: true; the input reads as it did. -/
def fnExactLayRecUptoRow : OpenClaim := { program := "ytceeelcijjkefaagreat", sum := "91d1f010d4d25b4a3d0b8175accc72ac099f21b612fb8b6a26cd7527bf96cc94", func := "loop.example/g00089/laws.FnExactLayRec", spec := "fnExactLayRec", unfollowed := true, recurses := true, apart := false, narrowed := true }
def FnExactLayRecUptoSaid : Prop := fnExactLayRecUptoRow.holds Tryz.pinned (OpenSpec.upto fnExactLayRecSpec)

/-- 'laws.FnExactSharersOf', WHERE WHAT IT READS IS OF BULK AT MOST 1048576: true; the input reads as it did. -/
def fnExactSharersOfUptoRow : OpenClaim := { program := "ytceeelcijjkefaagreat", sum := "91d1f010d4d25b4a3d0b8175accc72ac099f21b612fb8b6a26cd7527bf96cc94", func := "loop.example/g00089/laws.FnExactSharersOf", spec := "fnExactSharersOf", unfollowed := true, recurses := true, apart := false, narrowed := true }
def FnExactSharersOfUptoSaid : Prop := fnExactSharersOfUptoRow.holds Tryz.pinned (OpenSpec.upto fnExactSharersOfSpec)

/-- 'laws.FnExactRowBytes', WHERE WHAT IT READS IS OF BULK AT MOST 1048576: true; the input reads as it did. -/
def fnExactRowBytesUptoRow : OpenClaim := { program := "ytceeelcijjkefaagreat", sum := "91d1f010d4d25b4a3d0b8175accc72ac099f21b612fb8b6a26cd7527bf96cc94", func := "loop.example/g00089/laws.FnExactRowBytes", spec := "fnExactRowBytes", unfollowed := true, recurses := true, apart := false, narrowed := true }
def FnExactRowBytesUptoSaid : Prop := fnExactRowBytesUptoRow.holds Tryz.pinned (OpenSpec.upto fnExactRowBytesSpec)

/-- 'laws.FnExactOldBytes', WHERE WHAT IT READS IS OF BULK AT MOST 1048576: true; the input reads as it did. -/
def fnExactOldBytesUptoRow : OpenClaim := { program := "ytceeelcijjkefaagreat", sum := "91d1f010d4d25b4a3d0b8175accc72ac099f21b612fb8b6a26cd7527bf96cc94", func := "loop.example/g00089/laws.FnExactOldBytes", spec := "fnExactOldBytes", unfollowed := true, recurses := true, apart := false, narrowed := true }
def FnExactOldBytesUptoSaid : Prop := fnExactOldBytesUptoRow.holds Tryz.pinned (OpenSpec.upto fnExactOldBytesSpec)

/-- 'laws.FnExactWholeShare', WHERE WHAT IT READS IS OF BULK AT MOST 1048576: true; the input reads as it did. -/
def fnExactWholeShareUptoRow : OpenClaim := { program := "ytceeelcijjkefaagreat", sum := "91d1f010d4d25b4a3d0b8175accc72ac099f21b612fb8b6a26cd7527bf96cc94", func := "loop.example/g00089/laws.FnExactWholeShare", spec := "fnExactWholeShare", unfollowed := true, recurses := true, apart := false, narrowed := true }
def FnExactWholeShareUptoSaid : Prop := fnExactWholeShareUptoRow.holds Tryz.pinned (OpenSpec.upto fnExactWholeShareSpec)

/-- 'laws.FnExactOpenShare', WHERE WHAT IT READS IS OF BULK AT MOST 1048576: true; the input reads as it did. -/
def fnExactOpenShareUptoRow : OpenClaim := { program := "ytceeelcijjkefaagreat", sum := "91d1f010d4d25b4a3d0b8175accc72ac099f21b612fb8b6a26cd7527bf96cc94", func := "loop.example/g00089/laws.FnExactOpenShare", spec := "fnExactOpenShare", unfollowed := true, recurses := true, apart := false, narrowed := true }
def FnExactOpenShareUptoSaid : Prop := fnExactOpenShareUptoRow.holds Tryz.pinned (OpenSpec.upto fnExactOpenShareSpec)

/-- 'laws.FnExactNotReady', WHERE WHAT IT READS IS OF BULK AT MOST 1048576: true; the input reads as it did. -/
def fnExactNotReadyUptoRow : OpenClaim := { program := "ytceeelcijjkefaagreat", sum := "91d1f010d4d25b4a3d0b8175accc72ac099f21b612fb8b6a26cd7527bf96cc94", func := "loop.example/g00089/laws.FnExactNotReady", spec := "fnExactNotReady", unfollowed := true, recurses := true, apart := false, narrowed := true }
def FnExactNotReadyUptoSaid : Prop := fnExactNotReadyUptoRow.holds Tryz.pinned (OpenSpec.upto fnExactNotReadySpec)

end Rows
end Go.Proofs.YtceeelcijjkefaaGreat
