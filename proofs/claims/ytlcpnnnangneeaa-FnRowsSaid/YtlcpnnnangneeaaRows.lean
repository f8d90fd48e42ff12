/-
  No cell of these rows narrows 'for every input' (looked for: loops, veiled, ifaces, maps, wideKeys, modest, calm, conditions, laid).
  DERIVED. THE GIVEN ROWS OF THIS SEAT. 12 by the template 'for every input the law returns true; each argument reads behind the call as it read before'; 0 by the template 'total and deterministic' (their statements: YtlcpnnnangneeaaTotals.lean).
  GIVEN WITH THE SEED: the statements are not yours to turn. If you find one false, say at which input.
  Laid BY PROGRAM, IN A SANDBOX (cutbox-rows.mjs): the forced cells as the released guide's own fill.sh prints them over the translation 8ef5aa38f7c340b8… (all of the seat's roots in one cut). By AI agents, Wed Nov 11 2026. No macro, syntax, notation, axiom, sorry.
-/
import Derived.Test.YtlcpnnnangneeaaChecked
import GoSem.Claim
import GoSem.ClaimJoined
import GoSem.ClaimMapViews
import Derived.JoinedTies
import Derived.KernelRfl
namespace Go.Proofs.Ytlcpnnnangneeaa
/- THE CELL 'sum', in the pinned program and in every row, IS THE sha256 OF THE DUMP (.gsa) THAT YtlcpnnnangneeaaProg.lean LOADS. Nothing in Lean hashes anything: it is a label: what it is worth is what the hold of that sum in a sandbox is worth. -/
noncomputable def Try.pinned : Pinned := { name := "ytlcpnnnangneeaa", sum := "8ef5aa38f7c340b80f2defd45a43f88292940b2921835faee54856bffb40fbc1", checked := Try.checked }
namespace Rows
def none {H : Type} : Left H := { results := [], args := [] }

/-- 'laws.FnExactTicketFault': WHATEVER THE INPUT: true; the input reads as it did. -/
def fnExactTicketFaultSpec : ChangeSpec := { name := "fnExactTicketFault", fn := fun _ => fun
  | [d1, d2] => { results := [.lit (.bool true)], args := [d1, d2] }
  | _ => none }
def fnExactTicketFaultRow : OpenClaim := { program := "ytlcpnnnangneeaa", sum := "8ef5aa38f7c340b80f2defd45a43f88292940b2921835faee54856bffb40fbc1", func := "loop.example/g00089/laws.FnExactTicketFault", spec := "fnExactTicketFault", apart := false }
def FnExactTicketFaultSaid : Prop := fnExactTicketFaultRow.holds Try.pinned (OpenSpec.ofChange fnExactTicketFaultSpec)

/-- ITS FALSE NEIGHBOUR: 'it returns false'. Refute it at one input. -/
def fnExactTicketFaultWrong : ChangeSpec := { name := "fnExactTicketFault", fn := fun _ => fun
  | [d1, d2] => { results := [.lit (.bool false)], args := [d1, d2] }
  | _ => none }
def FnExactTicketFaultWrongFalsely : Prop := fnExactTicketFaultRow.holds Try.pinned (OpenSpec.ofChange fnExactTicketFaultWrong)

/-- 'laws.FnExactShareWhole': WHATEVER THE INPUT: true; the input reads as it did. -/
def fnExactShareWholeSpec : ChangeSpec := { name := "fnExactShareWhole", fn := fun _ => fun
  | [d] => { results := [.lit (.bool true)], args := [d] }
  | _ => none }
def fnExactShareWholeRow : OpenClaim := { program := "ytlcpnnnangneeaa", sum := "8ef5aa38f7c340b80f2defd45a43f88292940b2921835faee54856bffb40fbc1", func := "loop.example/g00089/laws.FnExactShareWhole", spec := "fnExactShareWhole", apart := false }
def FnExactShareWholeSaid : Prop := fnExactShareWholeRow.holds Try.pinned (OpenSpec.ofChange fnExactShareWholeSpec)

/-- ITS FALSE NEIGHBOUR: 'it returns false'. Refute it at one input. -/
def fnExactShareWholeWrong : ChangeSpec := { name := "fnExactShareWhole", fn := fun _ => fun
  | [d] => { results := [.lit (.bool false)], args := [d] }
  | _ => none }
def FnExactShareWholeWrongFalsely : Prop := fnExactShareWholeRow.holds Try.pinned (OpenSpec.ofChange fnExactShareWholeWrong)

/-- 'laws.FnExactEncodeRow': WHATEVER THE INPUT: true; the input reads as it did. -/
def fnExactEncodeRowSpec : ChangeSpec := { name := "fnExactEncodeRow", fn := fun _ => fun
  | [d1, d2, d3] => { results := [.lit (.bool true)], args := [d1, d2, d3] }
  | _ => none }
def fnExactEncodeRowRow : OpenClaim := { program := "ytlcpnnnangneeaa", sum := "8ef5aa38f7c340b80f2defd45a43f88292940b2921835faee54856bffb40fbc1", func := "loop.example/g00089/laws.FnExactEncodeRow", spec := "fnExactEncodeRow", unfollowed := true, recurses := true, apart := false }
def FnExactEncodeRowSaid : Prop := fnExactEncodeRowRow.holds Try.pinned (OpenSpec.ofChange fnExactEncodeRowSpec)

/-- ITS FALSE NEIGHBOUR: 'it returns false'. Refute it at one input. -/
def fnExactEncodeRowWrong : ChangeSpec := { name := "fnExactEncodeRow", fn := fun _ => fun
  | [d1, d2, d3] => { results := [.lit (.bool false)], args := [d1, d2, d3] }
  | _ => none }
def FnExactEncodeRowWrongFalsely : Prop := fnExactEncodeRowRow.holds Try.pinned (OpenSpec.ofChange fnExactEncodeRowWrong)

/-- 'laws.FnExactNewDesk': WHATEVER THE INPUT: true; the input reads as it did. -/
def fnExactNewDeskSpec : ChangeSpec := { name := "fnExactNewDesk", fn := fun _ => fun
  | [d] => { results := [.lit (.bool true)], args := [d] }
  | _ => none }
def fnExactNewDeskRow : OpenClaim := { program := "ytlcpnnnangneeaa", sum := "8ef5aa38f7c340b80f2defd45a43f88292940b2921835faee54856bffb40fbc1", func := "loop.example/g00089/laws.FnExactNewDesk", spec := "fnExactNewDesk", apart := false }
def FnExactNewDeskSaid : Prop := fnExactNewDeskRow.holds Try.pinned (OpenSpec.ofChange fnExactNewDeskSpec)

/-- ITS FALSE NEIGHBOUR: 'it returns false'. Refute it at one input. -/
def fnExactNewDeskWrong : ChangeSpec := { name := "fnExactNewDesk", fn := fun _ => fun
  | [d] => { results := [.lit (.bool false)], args := [d] }
  | _ => none }
def FnExactNewDeskWrongFalsely : Prop := fnExactNewDeskRow.holds Try.pinned (OpenSpec.ofChange fnExactNewDeskWrong)

/-- 'laws.FnRowSums': WHATEVER THE INPUT: true; the input reads as it did. -/
def fnRowSumsSpec : ChangeSpec := { name := "fnRowSums", fn := fun _ => fun
  | [d] => { results := [.lit (.bool true)], args := [d] }
  | _ => none }
def fnRowSumsRow : OpenClaim := { program := "ytlcpnnnangneeaa", sum := "8ef5aa38f7c340b80f2defd45a43f88292940b2921835faee54856bffb40fbc1", func := "loop.example/g00089/laws.FnRowSums", spec := "fnRowSums", unfollowed := true, recurses := true, apart := false }
def FnRowSumsSaid : Prop := fnRowSumsRow.holds Try.pinned (OpenSpec.ofChange fnRowSumsSpec)

/-- ITS FALSE NEIGHBOUR: 'it returns false'. Refute it at one input. -/
def fnRowSumsWrong : ChangeSpec := { name := "fnRowSums", fn := fun _ => fun
  | [d] => { results := [.lit (.bool false)], args := [d] }
  | _ => none }
def FnRowSumsWrongFalsely : Prop := fnRowSumsRow.holds Try.pinned (OpenSpec.ofChange fnRowSumsWrong)

/-- 'laws.FnExactRowFits': WHATEVER THE INPUT: true; the input reads as it did. -/
def fnExactRowFitsSpec : ChangeSpec := { name := "fnExactRowFits", fn := fun _ => fun
  | [d1, d2, d3] => { results := [.lit (.bool true)], args := [d1, d2, d3] }
  | _ => none }
def fnExactRowFitsRow : OpenClaim := { program := "ytlcpnnnangneeaa", sum := "8ef5aa38f7c340b80f2defd45a43f88292940b2921835faee54856bffb40fbc1", func := "loop.example/g00089/laws.FnExactRowFits", spec := "fnExactRowFits", unfollowed := true, recurses := true, apart := false }
def FnExactRowFitsSaid : Prop := fnExactRowFitsRow.holds Try.pinned (OpenSpec.ofChange fnExactRowFitsSpec)

/-- ITS FALSE NEIGHBOUR: 'it returns false'. Refute it at one input. -/
def fnExactRowFitsWrong : ChangeSpec := { name := "fnExactRowFits", fn := fun _ => fun
  | [d1, d2, d3] => { results := [.lit (.bool false)], args := [d1, d2, d3] }
  | _ => none }
def FnExactRowFitsWrongFalsely : Prop := fnExactRowFitsRow.holds Try.pinned (OpenSpec.ofChange fnExactRowFitsWrong)

/-- 'laws.FnExactShiftRow': WHATEVER THE INPUT: true; the input reads as it did. -/
def fnExactShiftRowSpec : ChangeSpec := { name := "fnExactShiftRow", fn := fun _ => fun
  | [d1, d2, d3, d4] => { results := [.lit (.bool true)], args := [d1, d2, d3, d4] }
  | _ => none }
def fnExactShiftRowRow : OpenClaim := { program := "ytlcpnnnangneeaa", sum := "8ef5aa38f7c340b80f2defd45a43f88292940b2921835faee54856bffb40fbc1", func := "loop.example/g00089/laws.FnExactShiftRow", spec := "fnExactShiftRow", unfollowed := true, recurses := true, apart := false }
def FnExactShiftRowSaid : Prop := fnExactShiftRowRow.holds Try.pinned (OpenSpec.ofChange fnExactShiftRowSpec)

/-- ITS FALSE NEIGHBOUR: 'it returns false'. Refute it at one input. -/
def fnExactShiftRowWrong : ChangeSpec := { name := "fnExactShiftRow", fn := fun _ => fun
  | [d1, d2, d3, d4] => { results := [.lit (.bool false)], args := [d1, d2, d3, d4] }
  | _ => none }
def FnExactShiftRowWrongFalsely : Prop := fnExactShiftRowRow.holds Try.pinned (OpenSpec.ofChange fnExactShiftRowWrong)

/-- 'laws.FnExactRowWeights': WHATEVER THE INPUT: true; the input reads as it did. -/
def fnExactRowWeightsSpec : ChangeSpec := { name := "fnExactRowWeights", fn := fun _ => fun
  | [d1, d2, d3, d4] => { results := [.lit (.bool true)], args := [d1, d2, d3, d4] }
  | _ => none }
def fnExactRowWeightsRow : OpenClaim := { program := "ytlcpnnnangneeaa", sum := "8ef5aa38f7c340b80f2defd45a43f88292940b2921835faee54856bffb40fbc1", func := "loop.example/g00089/laws.FnExactRowWeights", spec := "fnExactRowWeights", apart := false }
def FnExactRowWeightsSaid : Prop := fnExactRowWeightsRow.holds Try.pinned (OpenSpec.ofChange fnExactRowWeightsSpec)

/-- ITS FALSE NEIGHBOUR: 'it returns false'. Refute it at one input. -/
def fnExactRowWeightsWrong : ChangeSpec := { name := "fnExactRowWeights", fn := fun _ => fun
  | [d1, d2, d3, d4] => { results := [.lit (.bool false)], args := [d1, d2, d3, d4] }
  | _ => none }
def FnExactRowWeightsWrongFalsely : Prop := fnExactRowWeightsRow.holds Try.pinned (OpenSpec.ofChange fnExactRowWeightsWrong)

/-- 'laws.FnExactDecodeRow': WHATEVER THE INPUT: true; the input reads as it did. -/
def fnExactDecodeRowSpec : ChangeSpec := { name := "fnExactDecodeRow", fn := fun _ => fun
  | [d1, d2, d3] => { results := [.lit (.bool true)], args := [d1, d2, d3] }
  | _ => none }
def fnExactDecodeRowRow : OpenClaim := { program := "ytlcpnnnangneeaa", sum := "8ef5aa38f7c340b80f2defd45a43f88292940b2921835faee54856bffb40fbc1", func := "loop.example/g00089/laws.FnExactDecodeRow", spec := "fnExactDecodeRow", unfollowed := true, recurses := true, apart := false }
def FnExactDecodeRowSaid : Prop := fnExactDecodeRowRow.holds Try.pinned (OpenSpec.ofChange fnExactDecodeRowSpec)

/-- ITS FALSE NEIGHBOUR: 'it returns false'. Refute it at one input. -/
def fnExactDecodeRowWrong : ChangeSpec := { name := "fnExactDecodeRow", fn := fun _ => fun
  | [d1, d2, d3] => { results := [.lit (.bool false)], args := [d1, d2, d3] }
  | _ => none }
def FnExactDecodeRowWrongFalsely : Prop := fnExactDecodeRowRow.holds Try.pinned (OpenSpec.ofChange fnExactDecodeRowWrong)

/-- 'laws.FnRows': WHATEVER THE INPUT: true; the input reads as it did. -/
def fnRowsSpec : ChangeSpec := { name := "fnRows", fn := fun _ => fun
  | [d] => { results := [.lit (.bool true)], args := [d] }
  | _ => none }
def fnRowsRow : OpenClaim := { program := "ytlcpnnnangneeaa", sum := "8ef5aa38f7c340b80f2defd45a43f88292940b2921835faee54856bffb40fbc1", func := "loop.example/g00089/laws.FnRows", spec := "fnRows", unfollowed := true, recurses := true, apart := false }
def FnRowsSaid : Prop := fnRowsRow.holds Try.pinned (OpenSpec.ofChange fnRowsSpec)

/-- ITS FALSE NEIGHBOUR: 'it returns false'. Refute it at one input. -/
def fnRowsWrong : ChangeSpec := { name := "fnRows", fn := fun _ => fun
  | [d] => { results := [.lit (.bool false)], args := [d] }
  | _ => none }
def FnRowsWrongFalsely : Prop := fnRowsRow.holds Try.pinned (OpenSpec.ofChange fnRowsWrong)

/-- 'laws.FnExactBlockOf': WHATEVER THE INPUT: true; the input reads as it did. -/
def fnExactBlockOfSpec : ChangeSpec := { name := "fnExactBlockOf", fn := fun _ => fun
  | [d1, d2, d3, d4] => { results := [.lit (.bool true)], args := [d1, d2, d3, d4] }
  | _ => none }
def fnExactBlockOfRow : OpenClaim := { program := "ytlcpnnnangneeaa", sum := "8ef5aa38f7c340b80f2defd45a43f88292940b2921835faee54856bffb40fbc1", func := "loop.example/g00089/laws.FnExactBlockOf", spec := "fnExactBlockOf", unfollowed := true, recurses := true, apart := false }
def FnExactBlockOfSaid : Prop := fnExactBlockOfRow.holds Try.pinned (OpenSpec.ofChange fnExactBlockOfSpec)

/-- ITS FALSE NEIGHBOUR: 'it returns false'. Refute it at one input. -/
def fnExactBlockOfWrong : ChangeSpec := { name := "fnExactBlockOf", fn := fun _ => fun
  | [d1, d2, d3, d4] => { results := [.lit (.bool false)], args := [d1, d2, d3, d4] }
  | _ => none }
def FnExactBlockOfWrongFalsely : Prop := fnExactBlockOfRow.holds Try.pinned (OpenSpec.ofChange fnExactBlockOfWrong)

/-- 'laws.FnExactDeskFault': WHATEVER THE INPUT: true; the input reads as it did. -/
def fnExactDeskFaultSpec : ChangeSpec := { name := "fnExactDeskFault", fn := fun _ => fun
  | [d1, d2] => { results := [.lit (.bool true)], args := [d1, d2] }
  | _ => none }
def fnExactDeskFaultRow : OpenClaim := { program := "ytlcpnnnangneeaa", sum := "8ef5aa38f7c340b80f2defd45a43f88292940b2921835faee54856bffb40fbc1", func := "loop.example/g00089/laws.FnExactDeskFault", spec := "fnExactDeskFault", unfollowed := true, recurses := true, apart := false }
def FnExactDeskFaultSaid : Prop := fnExactDeskFaultRow.holds Try.pinned (OpenSpec.ofChange fnExactDeskFaultSpec)

/-- ITS FALSE NEIGHBOUR: 'it returns false'. Refute it at one input. -/
def fnExactDeskFaultWrong : ChangeSpec := { name := "fnExactDeskFault", fn := fun _ => fun
  | [d1, d2] => { results := [.lit (.bool false)], args := [d1, d2] }
  | _ => none }
def FnExactDeskFaultWrongFalsely : Prop := fnExactDeskFaultRow.holds Try.pinned (OpenSpec.ofChange fnExactDeskFaultWrong)

/- THE SECOND FORM. 'bulk': how many values and letters a reading holds, each counted each time it is reached (what is shared counts as often as it is met; a slice's spare places count too). A statement '..UptoSaid' is the law's where the arguments, and the package variables that the reading takes, are together of bulk at most 1048576: NARROWER than '..Said'. Prove '..Said' where nothing that the law and all that it calls make is longer than what came in: it says more and counts as full. Else prove '..UptoSaid'. A law counts once. -/
mutual
def uptoBulk {H : Type} : DataW H → Nat
  | .lit (.string bytes) => bytes.length + 1
  | .lit _ => 1
  | .nil => 1
  | .ptr d => uptoBulk d + 1
  | .slice elems spare => uptoBulkAll elems + uptoBulkAll spare + 1
  | .agg parts => uptoBulkAll parts + 1
  | .iface _ d => uptoBulk d + 1
  | .map entries => uptoBulkEntries entries + 1
  | .held _ => 1
def uptoBulkAll {H : Type} : List (DataW H) → Nat
  | [] => 0
  | d :: r => uptoBulk d + uptoBulkAll r
def uptoBulkEntries {H : Type} : List (Lit × DataW H) → Nat
  | [] => 0
  | x :: r => uptoBulkEntry x + uptoBulkEntries r
def uptoBulkEntry {H : Type} : Lit × DataW H → Nat
  | (.string bytes, d) => bytes.length + uptoBulk d + 1
  | (_, d) => uptoBulk d + 1
 end
def uptoSmall : (H : Type) → List (DataW H) → Bool := fun _ ds => decide (uptoBulkAll ds ≤ 1048576)
def OpenSpec.upto (s : _root_.Go.ChangeSpec) : _root_.Go.OpenSpec := { _root_.Go.OpenSpec.ofChange s with cond := some uptoSmall }

/-- 'laws.FnExactTicketFault', WHERE WHAT IT READS IS OF BULK AT MOST 1048576: true; the input reads as it did. -/
def fnExactTicketFaultUptoRow : OpenClaim := { program := "ytlcpnnnangneeaa", sum := "8ef5aa38f7c340b80f2defd45a43f88292940b2921835faee54856bffb40fbc1", func := "loop.example/g00089/laws.FnExactTicketFault", spec := "fnExactTicketFault", apart := false, narrowed := true }
def FnExactTicketFaultUptoSaid : Prop := fnExactTicketFaultUptoRow.holds Try.pinned (OpenSpec.upto fnExactTicketFaultSpec)

/-- 'laws.FnExactShareWhole', WHERE WHAT IT READS IS OF BULK AT MOST 1048576: true; the input reads as it did. -/
def fnExactShareWholeUptoRow : OpenClaim := { program := "ytlcpnnnangneeaa", sum := "8ef5aa38f7c340b80f2defd45a43f88292940b2921835faee54856bffb40fbc1", func := "loop.example/g00089/laws.FnExactShareWhole", spec := "fnExactShareWhole", apart := false, narrowed := true }
def FnExactShareWholeUptoSaid : Prop := fnExactShareWholeUptoRow.holds Try.pinned (OpenSpec.upto fnExactShareWholeSpec)

/-- 'laws.FnExactEncodeRow', WHERE WHAT IT READS IS OF BULK AT MOST 1048576: true; the input reads as it did. -/
def fnExactEncodeRowUptoRow : OpenClaim := { program := "ytlcpnnnangneeaa", sum := "8ef5aa38f7c340b80f2defd45a43f88292940b2921835faee54856bffb40fbc1", func := "loop.example/g00089/laws.FnExactEncodeRow", spec := "fnExactEncodeRow", unfollowed := true, recurses := true, apart := false, narrowed := true }
def FnExactEncodeRowUptoSaid : Prop := fnExactEncodeRowUptoRow.holds Try.pinned (OpenSpec.upto fnExactEncodeRowSpec)

/-- 'laws.FnExactNewDesk', WHERE WHAT IT READS IS OF BULK AT MOST 1048576: true; the input reads as it did. -/
def fnExactNewDeskUptoRow : OpenClaim := { program := "ytlcpnnnangneeaa", sum := "8ef5aa38f7c340b80f2defd45a43f88292940b2921835faee54856bffb40fbc1", func := "loop.example/g00089/laws.FnExactNewDesk", spec := "fnExactNewDesk", apart := false, narrowed := true }
def FnExactNewDeskUptoSaid : Prop := fnExactNewDeskUptoRow.holds Try.pinned (OpenSpec.upto fnExactNewDeskSpec)

/-- 'laws.FnRowSums', WHERE WHAT IT READS IS OF BULK AT MOST 1048576: true; the input reads as it did. -/
def fnRowSumsUptoRow : OpenClaim := { program := "ytlcpnnnangneeaa", sum := "8ef5aa38f7c340b80f2defd45a43f88292940b2921835faee54856bffb40fbc1", func := "loop.example/g00089/laws.FnRowSums", spec := "fnRowSums", unfollowed := true, recurses := true, apart := false, narrowed := true }
def FnRowSumsUptoSaid : Prop := fnRowSumsUptoRow.holds Try.pinned (OpenSpec.upto fnRowSumsSpec)

/-- 'laws.FnExactRowFits', WHERE WHAT IT READS IS OF BULK AT MOST 1048576: true; the input reads as it did. -/
def fnExactRowFitsUptoRow : OpenClaim := { program := "ytlcpnnnangneeaa", sum := "8ef5aa38f7c340b80f2defd45a43f88292940b2921835faee54856bffb40fbc1", func := "loop.example/g00089/laws.FnExactRowFits", spec := "fnExactRowFits", unfollowed := true, recurses := true, apart := false, narrowed := true }
def FnExactRowFitsUptoSaid : Prop := fnExactRowFitsUptoRow.holds Try.pinned (OpenSpec.upto fnExactRowFitsSpec)

/-- 'laws.FnExactShiftRow', WHERE WHAT IT READS IS OF BULK AT MOST 1048576: true; the input reads as it did. -/
def fnExactShiftRowUptoRow : OpenClaim := { program := "ytlcpnnnangneeaa", sum := "8ef5aa38f7c340b80f2defd45a43f88292940b2921835faee54856bffb40fbc1", func := "loop.example/g00089/laws.FnExactShiftRow", spec := "fnExactShiftRow", unfollowed := true, recurses := true, apart := false, narrowed := true }
def FnExactShiftRowUptoSaid : Prop := fnExactShiftRowUptoRow.holds Try.pinned (OpenSpec.upto fnExactShiftRowSpec)

/-- 'laws.FnExactRowWeights', WHERE WHAT IT READS IS OF BULK AT MOST 1048576: true; the input reads as it did. -/
def fnExactRowWeightsUptoRow : OpenClaim := { program := "ytlcpnnnangneeaa", sum := "8ef5aa38f7c340b80f2defd45a43f88292940b2921835faee54856bffb40fbc1", func := "loop.example/g00089/laws.FnExactRowWeights", spec := "fnExactRowWeights", apart := false, narrowed := true }
def FnExactRowWeightsUptoSaid : Prop := fnExactRowWeightsUptoRow.holds Try.pinned (OpenSpec.upto fnExactRowWeightsSpec)

/-- 'laws.FnExactDecodeRow', WHERE WHAT IT READS IS OF BULK AT MOST 1048576: true; the input reads as it did. -/
def fnExactDecodeRowUptoRow : OpenClaim := { program := "ytlcpnnnangneeaa", sum := "8ef5aa38f7c340b80f2defd45a43f88292940b2921835faee54856bffb40fbc1", func := "loop.example/g00089/laws.FnExactDecodeRow", spec := "fnExactDecodeRow", unfollowed := true, recurses := true, apart := false, narrowed := true }
def FnExactDecodeRowUptoSaid : Prop := fnExactDecodeRowUptoRow.holds Try.pinned (OpenSpec.upto fnExactDecodeRowSpec)

/-- 'laws.FnRows', WHERE WHAT IT READS IS OF BULK AT MOST 1048576: true; the input reads as it did. -/
def fnRowsUptoRow : OpenClaim := { program := "ytlcpnnnangneeaa", sum := "8ef5aa38f7c340b80f2defd45a43f88292940b2921835faee54856bffb40fbc1", func := "loop.example/g00089/laws.FnRows", spec := "fnRows", unfollowed := true, recurses := true, apart := false, narrowed := true }
def FnRowsUptoSaid : Prop := fnRowsUptoRow.holds Try.pinned (OpenSpec.upto fnRowsSpec)

/-- 'laws.FnExactBlockOf', WHERE WHAT IT READS IS OF BULK AT MOST 1048576: true; the input reads as it did. -/
def fnExactBlockOfUptoRow : OpenClaim := { program := "ytlcpnnnangneeaa", sum := "8ef5aa38f7c340b80f2defd45a43f88292940b2921835faee54856bffb40fbc1", func := "loop.example/g00089/laws.FnExactBlockOf", spec := "fnExactBlockOf", unfollowed := true, recurses := true, apart := false, narrowed := true }
def FnExactBlockOfUptoSaid : Prop := fnExactBlockOfUptoRow.holds Try.pinned (OpenSpec.upto fnExactBlockOfSpec)

/-- 'laws.FnExactDeskFault', WHERE WHAT IT READS IS OF BULK AT MOST 1048576: true; the input reads as it did. -/
def fnExactDeskFaultUptoRow : OpenClaim := { program := "ytlcpnnnangneeaa", sum := "8ef5aa38f7c340b80f2defd45a43f88292940b2921835faee54856bffb40fbc1", func := "loop.example/g00089/laws.FnExactDeskFault", spec := "fnExactDeskFault", unfollowed := true, recurses := true, apart := false, narrowed := true }
def FnExactDeskFaultUptoSaid : Prop := fnExactDeskFaultUptoRow.holds Try.pinned (OpenSpec.upto fnExactDeskFaultSpec)

end Rows
end Go.Proofs.Ytlcpnnnangneeaa
