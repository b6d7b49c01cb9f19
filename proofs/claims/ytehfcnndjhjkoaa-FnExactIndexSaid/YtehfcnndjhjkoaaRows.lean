/-
  No cell of these rows narrows 'for every input' (looked for: loops, veiled, ifaces, maps, wideKeys, modest, calm, conditions, laid).
  DERIVED. THE GIVEN ROWS OF THIS SEAT. 12 by the template 'for every input the law returns true; each argument reads behind the call as it read before'; 0 by the template 'total and deterministic' (their statements: YtehfcnndjhjkoaaTotals.lean).
  GIVEN WITH THE SEED: the statements are not yours to turn. If you find one false, say at which input.
  Laid BY PROGRAM, IN A SANDBOX (cutbox-rows.mjs): the forced cells as the released guide's own fill.sh prints them over the translation e836f90e945d64d2… (all of the seat's roots in one cut). By AI agents, Wed Nov 11 2026. No macro, syntax, notation, axiom, sorry.
-/
import Derived.Test.YtehfcnndjhjkoaaChecked
import GoSem.Claim
import GoSem.ClaimJoined
import GoSem.ClaimMapViews
import Derived.JoinedTies
import Derived.KernelRfl
namespace Go.Proofs.Ytehfcnndjhjkoaa
/- THE CELL 'sum', in the pinned program and in every row, IS THE sha256 OF THE DUMP (.gsa) THAT YtehfcnndjhjkoaaProg.lean LOADS. Nothing in Lean hashes anything: it is a label: what it is worth is what the hold of that sum in a sandbox is worth. -/
noncomputable def Try.pinned : Pinned := { name := "ytehfcnndjhjkoaa", sum := "e836f90e945d64d24c6394a3a65a82d7a7695b8f1a22eb67d5f9df9bc1c36340", checked := Try.checked }
namespace Rows
def none {H : Type} : Left H := { results := [], args := [] }

/-- 'laws.FnExactReplace': WHATEVER THE INPUT: true; the input reads as it did. -/
def fnExactReplaceSpec : ChangeSpec := { name := "fnExactReplace", fn := fun _ => fun
  | [d1, d2, d3] => { results := [.lit (.bool true)], args := [d1, d2, d3] }
  | _ => none }
def fnExactReplaceRow : OpenClaim := { program := "ytehfcnndjhjkoaa", sum := "e836f90e945d64d24c6394a3a65a82d7a7695b8f1a22eb67d5f9df9bc1c36340", func := "loop.example/s02542/laws.FnExactReplace", spec := "fnExactReplace", unfollowed := true, recurses := true, apart := false }
def FnExactReplaceSaid : Prop := fnExactReplaceRow.holds Try.pinned (OpenSpec.ofChange fnExactReplaceSpec)

/-- ITS FALSE NEIGHBOUR: 'it returns false'. Refute it at one input. -/
def fnExactReplaceWrong : ChangeSpec := { name := "fnExactReplace", fn := fun _ => fun
  | [d1, d2, d3] => { results := [.lit (.bool false)], args := [d1, d2, d3] }
  | _ => none }
def FnExactReplaceWrongFalsely : Prop := fnExactReplaceRow.holds Try.pinned (OpenSpec.ofChange fnExactReplaceWrong)

/-- 'laws.FnWritten': WHATEVER THE INPUT: true; the input reads as it did. -/
def fnWrittenSpec : ChangeSpec := { name := "fnWritten", fn := fun _ => fun
  | [d] => { results := [.lit (.bool true)], args := [d] }
  | _ => none }
def fnWrittenRow : OpenClaim := { program := "ytehfcnndjhjkoaa", sum := "e836f90e945d64d24c6394a3a65a82d7a7695b8f1a22eb67d5f9df9bc1c36340", func := "loop.example/s02542/laws.FnWritten", spec := "fnWritten", unfollowed := true, recurses := true, apart := false }
def FnWrittenSaid : Prop := fnWrittenRow.holds Try.pinned (OpenSpec.ofChange fnWrittenSpec)

/-- ITS FALSE NEIGHBOUR: 'it returns false'. Refute it at one input. -/
def fnWrittenWrong : ChangeSpec := { name := "fnWritten", fn := fun _ => fun
  | [d] => { results := [.lit (.bool false)], args := [d] }
  | _ => none }
def FnWrittenWrongFalsely : Prop := fnWrittenRow.holds Try.pinned (OpenSpec.ofChange fnWrittenWrong)

/-- 'laws.FnExactReshape': WHATEVER THE INPUT: true; the input reads as it did. -/
def fnExactReshapeSpec : ChangeSpec := { name := "fnExactReshape", fn := fun _ => fun
  | [d1, d2] => { results := [.lit (.bool true)], args := [d1, d2] }
  | _ => none }
def fnExactReshapeRow : OpenClaim := { program := "ytehfcnndjhjkoaa", sum := "e836f90e945d64d24c6394a3a65a82d7a7695b8f1a22eb67d5f9df9bc1c36340", func := "loop.example/s02542/laws.FnExactReshape", spec := "fnExactReshape", apart := false }
def FnExactReshapeSaid : Prop := fnExactReshapeRow.holds Try.pinned (OpenSpec.ofChange fnExactReshapeSpec)

/-- ITS FALSE NEIGHBOUR: 'it returns false'. Refute it at one input. -/
def fnExactReshapeWrong : ChangeSpec := { name := "fnExactReshape", fn := fun _ => fun
  | [d1, d2] => { results := [.lit (.bool false)], args := [d1, d2] }
  | _ => none }
def FnExactReshapeWrongFalsely : Prop := fnExactReshapeRow.holds Try.pinned (OpenSpec.ofChange fnExactReshapeWrong)

/-- 'laws.FnExactTranspose': WHATEVER THE INPUT: true; the input reads as it did. -/
def fnExactTransposeSpec : ChangeSpec := { name := "fnExactTranspose", fn := fun _ => fun
  | [d1, d2] => { results := [.lit (.bool true)], args := [d1, d2] }
  | _ => none }
def fnExactTransposeRow : OpenClaim := { program := "ytehfcnndjhjkoaa", sum := "e836f90e945d64d24c6394a3a65a82d7a7695b8f1a22eb67d5f9df9bc1c36340", func := "loop.example/s02542/laws.FnExactTranspose", spec := "fnExactTranspose", unfollowed := true, recurses := true, apart := false }
def FnExactTransposeSaid : Prop := fnExactTransposeRow.holds Try.pinned (OpenSpec.ofChange fnExactTransposeSpec)

/-- ITS FALSE NEIGHBOUR: 'it returns false'. Refute it at one input. -/
def fnExactTransposeWrong : ChangeSpec := { name := "fnExactTranspose", fn := fun _ => fun
  | [d1, d2] => { results := [.lit (.bool false)], args := [d1, d2] }
  | _ => none }
def FnExactTransposeWrongFalsely : Prop := fnExactTransposeRow.holds Try.pinned (OpenSpec.ofChange fnExactTransposeWrong)

/-- 'laws.FnExactRotate': WHATEVER THE INPUT: true; the input reads as it did. -/
def fnExactRotateSpec : ChangeSpec := { name := "fnExactRotate", fn := fun _ => fun
  | [d1, d2, d3] => { results := [.lit (.bool true)], args := [d1, d2, d3] }
  | _ => none }
def fnExactRotateRow : OpenClaim := { program := "ytehfcnndjhjkoaa", sum := "e836f90e945d64d24c6394a3a65a82d7a7695b8f1a22eb67d5f9df9bc1c36340", func := "loop.example/s02542/laws.FnExactRotate", spec := "fnExactRotate", unfollowed := true, recurses := true, apart := false }
def FnExactRotateSaid : Prop := fnExactRotateRow.holds Try.pinned (OpenSpec.ofChange fnExactRotateSpec)

/-- ITS FALSE NEIGHBOUR: 'it returns false'. Refute it at one input. -/
def fnExactRotateWrong : ChangeSpec := { name := "fnExactRotate", fn := fun _ => fun
  | [d1, d2, d3] => { results := [.lit (.bool false)], args := [d1, d2, d3] }
  | _ => none }
def FnExactRotateWrongFalsely : Prop := fnExactRotateRow.holds Try.pinned (OpenSpec.ofChange fnExactRotateWrong)

/-- 'laws.FnExactCatenate': WHATEVER THE INPUT: true; the input reads as it did. -/
def fnExactCatenateSpec : ChangeSpec := { name := "fnExactCatenate", fn := fun _ => fun
  | [d1, d2] => { results := [.lit (.bool true)], args := [d1, d2] }
  | _ => none }
def fnExactCatenateRow : OpenClaim := { program := "ytehfcnndjhjkoaa", sum := "e836f90e945d64d24c6394a3a65a82d7a7695b8f1a22eb67d5f9df9bc1c36340", func := "loop.example/s02542/laws.FnExactCatenate", spec := "fnExactCatenate", apart := false }
def FnExactCatenateSaid : Prop := fnExactCatenateRow.holds Try.pinned (OpenSpec.ofChange fnExactCatenateSpec)

/-- ITS FALSE NEIGHBOUR: 'it returns false'. Refute it at one input. -/
def fnExactCatenateWrong : ChangeSpec := { name := "fnExactCatenate", fn := fun _ => fun
  | [d1, d2] => { results := [.lit (.bool false)], args := [d1, d2] }
  | _ => none }
def FnExactCatenateWrongFalsely : Prop := fnExactCatenateRow.holds Try.pinned (OpenSpec.ofChange fnExactCatenateWrong)

/-- 'laws.FnExactIndex': WHATEVER THE INPUT: true; the input reads as it did. -/
def fnExactIndexSpec : ChangeSpec := { name := "fnExactIndex", fn := fun _ => fun
  | [d1, d2] => { results := [.lit (.bool true)], args := [d1, d2] }
  | _ => none }
def fnExactIndexRow : OpenClaim := { program := "ytehfcnndjhjkoaa", sum := "e836f90e945d64d24c6394a3a65a82d7a7695b8f1a22eb67d5f9df9bc1c36340", func := "loop.example/s02542/laws.FnExactIndex", spec := "fnExactIndex", unfollowed := true, recurses := true, apart := false }
def FnExactIndexSaid : Prop := fnExactIndexRow.holds Try.pinned (OpenSpec.ofChange fnExactIndexSpec)

/-- ITS FALSE NEIGHBOUR: 'it returns false'. Refute it at one input. -/
def fnExactIndexWrong : ChangeSpec := { name := "fnExactIndex", fn := fun _ => fun
  | [d1, d2] => { results := [.lit (.bool false)], args := [d1, d2] }
  | _ => none }
def FnExactIndexWrongFalsely : Prop := fnExactIndexRow.holds Try.pinned (OpenSpec.ofChange fnExactIndexWrong)

/-- 'laws.FnExactDrop': WHATEVER THE INPUT: true; the input reads as it did. -/
def fnExactDropSpec : ChangeSpec := { name := "fnExactDrop", fn := fun _ => fun
  | [d1, d2] => { results := [.lit (.bool true)], args := [d1, d2] }
  | _ => none }
def fnExactDropRow : OpenClaim := { program := "ytehfcnndjhjkoaa", sum := "e836f90e945d64d24c6394a3a65a82d7a7695b8f1a22eb67d5f9df9bc1c36340", func := "loop.example/s02542/laws.FnExactDrop", spec := "fnExactDrop", unfollowed := true, recurses := true, apart := false }
def FnExactDropSaid : Prop := fnExactDropRow.holds Try.pinned (OpenSpec.ofChange fnExactDropSpec)

/-- ITS FALSE NEIGHBOUR: 'it returns false'. Refute it at one input. -/
def fnExactDropWrong : ChangeSpec := { name := "fnExactDrop", fn := fun _ => fun
  | [d1, d2] => { results := [.lit (.bool false)], args := [d1, d2] }
  | _ => none }
def FnExactDropWrongFalsely : Prop := fnExactDropRow.holds Try.pinned (OpenSpec.ofChange fnExactDropWrong)

/-- 'laws.FnExactReplicate': WHATEVER THE INPUT: true; the input reads as it did. -/
def fnExactReplicateSpec : ChangeSpec := { name := "fnExactReplicate", fn := fun _ => fun
  | [d1, d2, d3] => { results := [.lit (.bool true)], args := [d1, d2, d3] }
  | _ => none }
def fnExactReplicateRow : OpenClaim := { program := "ytehfcnndjhjkoaa", sum := "e836f90e945d64d24c6394a3a65a82d7a7695b8f1a22eb67d5f9df9bc1c36340", func := "loop.example/s02542/laws.FnExactReplicate", spec := "fnExactReplicate", unfollowed := true, recurses := true, apart := false }
def FnExactReplicateSaid : Prop := fnExactReplicateRow.holds Try.pinned (OpenSpec.ofChange fnExactReplicateSpec)

/-- ITS FALSE NEIGHBOUR: 'it returns false'. Refute it at one input. -/
def fnExactReplicateWrong : ChangeSpec := { name := "fnExactReplicate", fn := fun _ => fun
  | [d1, d2, d3] => { results := [.lit (.bool false)], args := [d1, d2, d3] }
  | _ => none }
def FnExactReplicateWrongFalsely : Prop := fnExactReplicateRow.holds Try.pinned (OpenSpec.ofChange fnExactReplicateWrong)

/-- 'laws.FnExactTake': WHATEVER THE INPUT: true; the input reads as it did. -/
def fnExactTakeSpec : ChangeSpec := { name := "fnExactTake", fn := fun _ => fun
  | [d1, d2] => { results := [.lit (.bool true)], args := [d1, d2] }
  | _ => none }
def fnExactTakeRow : OpenClaim := { program := "ytehfcnndjhjkoaa", sum := "e836f90e945d64d24c6394a3a65a82d7a7695b8f1a22eb67d5f9df9bc1c36340", func := "loop.example/s02542/laws.FnExactTake", spec := "fnExactTake", unfollowed := true, recurses := true, apart := false }
def FnExactTakeSaid : Prop := fnExactTakeRow.holds Try.pinned (OpenSpec.ofChange fnExactTakeSpec)

/-- ITS FALSE NEIGHBOUR: 'it returns false'. Refute it at one input. -/
def fnExactTakeWrong : ChangeSpec := { name := "fnExactTake", fn := fun _ => fun
  | [d1, d2] => { results := [.lit (.bool false)], args := [d1, d2] }
  | _ => none }
def FnExactTakeWrongFalsely : Prop := fnExactTakeRow.holds Try.pinned (OpenSpec.ofChange fnExactTakeWrong)

/-- 'laws.FnCut': WHATEVER THE INPUT: true; the input reads as it did. -/
def fnCutSpec : ChangeSpec := { name := "fnCut", fn := fun _ => fun
  | [d] => { results := [.lit (.bool true)], args := [d] }
  | _ => none }
def fnCutRow : OpenClaim := { program := "ytehfcnndjhjkoaa", sum := "e836f90e945d64d24c6394a3a65a82d7a7695b8f1a22eb67d5f9df9bc1c36340", func := "loop.example/s02542/laws.FnCut", spec := "fnCut", unfollowed := true, recurses := true, apart := false }
def FnCutSaid : Prop := fnCutRow.holds Try.pinned (OpenSpec.ofChange fnCutSpec)

/-- ITS FALSE NEIGHBOUR: 'it returns false'. Refute it at one input. -/
def fnCutWrong : ChangeSpec := { name := "fnCut", fn := fun _ => fun
  | [d] => { results := [.lit (.bool false)], args := [d] }
  | _ => none }
def FnCutWrongFalsely : Prop := fnCutRow.holds Try.pinned (OpenSpec.ofChange fnCutWrong)

/-- 'laws.FnExactEncode': WHATEVER THE INPUT: true; the input reads as it did. -/
def fnExactEncodeSpec : ChangeSpec := { name := "fnExactEncode", fn := fun _ => fun
  | [d1, d2] => { results := [.lit (.bool true)], args := [d1, d2] }
  | _ => none }
def fnExactEncodeRow : OpenClaim := { program := "ytehfcnndjhjkoaa", sum := "e836f90e945d64d24c6394a3a65a82d7a7695b8f1a22eb67d5f9df9bc1c36340", func := "loop.example/s02542/laws.FnExactEncode", spec := "fnExactEncode", unfollowed := true, recurses := true, apart := false }
def FnExactEncodeSaid : Prop := fnExactEncodeRow.holds Try.pinned (OpenSpec.ofChange fnExactEncodeSpec)

/-- ITS FALSE NEIGHBOUR: 'it returns false'. Refute it at one input. -/
def fnExactEncodeWrong : ChangeSpec := { name := "fnExactEncode", fn := fun _ => fun
  | [d1, d2] => { results := [.lit (.bool false)], args := [d1, d2] }
  | _ => none }
def FnExactEncodeWrongFalsely : Prop := fnExactEncodeRow.holds Try.pinned (OpenSpec.ofChange fnExactEncodeWrong)

/- THE SECOND FORM. 'bulk': how many values and letters a reading holds, each counted each time it is reached (what is shared counts as often as it is met; a slice's spare places count too). A statement '..UptoSaid' is the law's where the arguments, and the package variables that the reading takes, are together of bulk at most 1048576: NARROWER than '..Said'. Prove '..Said' where nothing that the law and all that it calls make is longer than what came in: it says more and counts as full. Else prove '..UptoSaid'. A law counts once. -/
mutual
def uptoBulk {H : Type} : DataW H → Nat
  | .lit (.string bytes) => bytes.length + 1
  | .lit _ => 1
  | .nil => 1
  | .ptr d => uptoBulk d + 1
  | .slice elems spare => uptoBulkAll elems + uptoBulkAll spare + 1
  | .agg parts => uptoBulkAll parts + 1
  | .iface _ d => uptoBulk d + 1
  | .map entries => uptoBulkEntries entries + 1
  | .held _ => 1
def uptoBulkAll {H : Type} : List (DataW H) → Nat
  | [] => 0
  | d :: r => uptoBulk d + uptoBulkAll r
def uptoBulkEntries {H : Type} : List (Lit × DataW H) → Nat
  | [] => 0
  | x :: r => uptoBulkEntry x + uptoBulkEntries r
def uptoBulkEntry {H : Type} : Lit × DataW H → Nat
  | (.string bytes, d) => bytes.length + uptoBulk d + 1
  | (_, d) => uptoBulk d + 1
 end
def uptoSmall : (H : Type) → List (DataW H) → Bool := fun _ ds => decide (uptoBulkAll ds ≤ 1048576)
def OpenSpec.upto (s : _root_.Go.ChangeSpec) : _root_.Go.OpenSpec := { _root_.Go.OpenSpec.ofChange s with cond := some uptoSmall }

/-- 'laws.FnExactReplace', WHERE WHAT IT READS IS OF BULK AT MOST 1048576: true; the input reads as it did. -/
def fnExactReplaceUptoRow : OpenClaim := { program := "ytehfcnndjhjkoaa", sum := "e836f90e945d64d24c6394a3a65a82d7a7695b8f1a22eb67d5f9df9bc1c36340", func := "loop.example/s02542/laws.FnExactReplace", spec := "fnExactReplace", unfollowed := true, recurses := true, apart := false, narrowed := true }
def FnExactReplaceUptoSaid : Prop := fnExactReplaceUptoRow.holds Try.pinned (OpenSpec.upto fnExactReplaceSpec)

/-- 'laws.FnWritten', WHERE WHAT IT READS IS OF BULK AT MOST 1048576: true; the input reads as it did. -/
def fnWrittenUptoRow : OpenClaim := { program := "ytehfcnndjhjkoaa", sum := "e836f90e945d64d24c6394a3a65a82d7a7695b8f1a22eb67d5f9df9bc1c36340", func := "loop.example/s02542/laws.FnWritten", spec := "fnWritten", unfollowed := true, recurses := true, apart := false, narrowed := true }
def FnWrittenUptoSaid : Prop := fnWrittenUptoRow.holds Try.pinned (OpenSpec.upto fnWrittenSpec)

/-- 'laws.FnExactReshape', WHERE WHAT IT READS IS OF BULK AT MOST 1048576: true; the input reads as it did. -/
def fnExactReshapeUptoRow : OpenClaim := { program := "ytehfcnndjhjkoaa", sum := "e836f90e945d64d24c6394a3a65a82d7a7695b8f1a22eb67d5f9df9bc1c36340", func := "loop.example/s02542/laws.FnExactReshape", spec := "fnExactReshape", apart := false, narrowed := true }
def FnExactReshapeUptoSaid : Prop := fnExactReshapeUptoRow.holds Try.pinned (OpenSpec.upto fnExactReshapeSpec)

/-- 'laws.FnExactTranspose', WHERE WHAT IT READS IS OF BULK AT MOST 1048576: true; the input reads as it did. -/
def fnExactTransposeUptoRow : OpenClaim := { program := "ytehfcnndjhjkoaa", sum := "e836f90e945d64d24c6394a3a65a82d7a7695b8f1a22eb67d5f9df9bc1c36340", func := "loop.example/s02542/laws.FnExactTranspose", spec := "fnExactTranspose", unfollowed := true, recurses := true, apart := false, narrowed := true }
def FnExactTransposeUptoSaid : Prop := fnExactTransposeUptoRow.holds Try.pinned (OpenSpec.upto fnExactTransposeSpec)

/-- 'laws.FnExactRotate', WHERE WHAT IT READS IS OF BULK AT MOST 1048576: true; the input reads as it did. -/
def fnExactRotateUptoRow : OpenClaim := { program := "ytehfcnndjhjkoaa", sum := "e836f90e945d64d24c6394a3a65a82d7a7695b8f1a22eb67d5f9df9bc1c36340", func := "loop.example/s02542/laws.FnExactRotate", spec := "fnExactRotate", unfollowed := true, recurses := true, apart := false, narrowed := true }
def FnExactRotateUptoSaid : Prop := fnExactRotateUptoRow.holds Try.pinned (OpenSpec.upto fnExactRotateSpec)

/-- 'laws.FnExactCatenate', WHERE WHAT IT READS IS OF BULK AT MOST 1048576: true; the input reads as it did. -/
def fnExactCatenateUptoRow : OpenClaim := { program := "ytehfcnndjhjkoaa", sum := "e836f90e945d64d24c6394a3a65a82d7a7695b8f1a22eb67d5f9df9bc1c36340", func := "loop.example/s02542/laws.FnExactCatenate", spec := "fnExactCatenate", apart := false, narrowed := true }
def FnExactCatenateUptoSaid : Prop := fnExactCatenateUptoRow.holds Try.pinned (OpenSpec.upto fnExactCatenateSpec)

/-- 'laws.FnExactIndex', WHERE WHAT IT READS IS OF BULK AT MOST 1048576: true; the input reads as it did. -/
def fnExactIndexUptoRow : OpenClaim := { program := "ytehfcnndjhjkoaa", sum := "e836f90e945d64d24c6394a3a65a82d7a7695b8f1a22eb67d5f9df9bc1c36340", func := "loop.example/s02542/laws.FnExactIndex", spec := "fnExactIndex", unfollowed := true, recurses := true, apart := false, narrowed := true }
def FnExactIndexUptoSaid : Prop := fnExactIndexUptoRow.holds Try.pinned (OpenSpec.upto fnExactIndexSpec)

/-- 'laws.FnExactDrop', WHERE WHAT IT READS IS OF BULK AT MOST 1048576: true; the input reads as it did. -/
def fnExactDropUptoRow : OpenClaim := { program := "ytehfcnndjhjkoaa", sum := "e836f90e945d64d24c6394a3a65a82d7a7695b8f1a22eb67d5f9df9bc1c36340", func := "loop.example/s02542/laws.FnExactDrop", spec := "fnExactDrop", unfollowed := true, recurses := true, apart := false, narrowed := true }
def FnExactDropUptoSaid : Prop := fnExactDropUptoRow.holds Try.pinned (OpenSpec.upto fnExactDropSpec)

/-- 'laws.FnExactReplicate', WHERE WHAT IT READS IS OF BULK AT MOST 1048576: true; the input reads as it did. -/
def fnExactReplicateUptoRow : OpenClaim := { program := "ytehfcnndjhjkoaa", sum := "e836f90e945d64d24c6394a3a65a82d7a7695b8f1a22eb67d5f9df9bc1c36340", func := "loop.example/s02542/laws.FnExactReplicate", spec := "fnExactReplicate", unfollowed := true, recurses := true, apart := false, narrowed := true }
def FnExactReplicateUptoSaid : Prop := fnExactReplicateUptoRow.holds Try.pinned (OpenSpec.upto fnExactReplicateSpec)

/-- 'laws.FnExactTake', WHERE WHAT IT READS IS OF BULK AT MOST 1048576: true; the input reads as it did. -/
def fnExactTakeUptoRow : OpenClaim := { program := "ytehfcnndjhjkoaa", sum := "e836f90e945d64d24c6394a3a65a82d7a7695b8f1a22eb67d5f9df9bc1c36340", func := "loop.example/s02542/laws.FnExactTake", spec := "fnExactTake", unfollowed := true, recurses := true, apart := false, narrowed := true }
def FnExactTakeUptoSaid : Prop := fnExactTakeUptoRow.holds Try.pinned (OpenSpec.upto fnExactTakeSpec)

/-- 'laws.FnCut', WHERE WHAT IT READS IS OF BULK AT MOST 1048576: true; the input reads as it did. -/
def fnCutUptoRow : OpenClaim := { program := "ytehfcnndjhjkoaa", sum := "e836f90e945d64d24c6394a3a65a82d7a7695b8f1a22eb67d5f9df9bc1c36340", func := "loop.example/s02542/laws.FnCut", spec := "fnCut", unfollowed := true, recurses := true, apart := false, narrowed := true }
def FnCutUptoSaid : Prop := fnCutUptoRow.holds Try.pinned (OpenSpec.upto fnCutSpec)

/-- 'laws.FnExactEncode', WHERE WHAT IT READS IS OF BULK AT MOST 1048576: true; the input reads as it did. -/
def fnExactEncodeUptoRow : OpenClaim := { program := "ytehfcnndjhjkoaa", sum := "e836f90e945d64d24c6394a3a65a82d7a7695b8f1a22eb67d5f9df9bc1c36340", func := "loop.example/s02542/laws.FnExactEncode", spec := "fnExactEncode", unfollowed := true, recurses := true, apart := false, narrowed := true }
def FnExactEncodeUptoSaid : Prop := fnExactEncodeUptoRow.holds Try.pinned (OpenSpec.upto fnExactEncodeSpec)

end Rows
end Go.Proofs.Ytehfcnndjhjkoaa
