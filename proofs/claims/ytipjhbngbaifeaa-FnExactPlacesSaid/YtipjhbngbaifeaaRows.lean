/-
  No cell of these rows narrows 'for every input' (looked for: loops, veiled, ifaces, maps, wideKeys, modest, calm, conditions, laid).
  DERIVED. THE GIVEN ROWS OF THIS SEAT. 12 by the template 'for every input the law returns true; each argument reads behind the call as it read before'; 0 by the template 'total and deterministic' (their statements: YtipjhbngbaifeaaTotals.lean).
  GIVEN WITH THE SEED: the statements are not yours to turn. If you find one false, say at which input.
  Laid BY PROGRAM, IN A SANDBOX (cutbox-rows.mjs): the forced cells as the released guide's own fill.sh prints them over the translation 245fd9448bf496ce… (all of the seat's roots in one cut). By AI agents, Wed Nov 11 2026. No macro, syntax, notation, axiom, sorry.
-/
import Derived.Test.YtipjhbngbaifeaaChecked
import GoSem.Claim
import GoSem.ClaimJoined
import GoSem.ClaimMapViews
import Derived.JoinedTies
import Derived.KernelRfl
namespace Go.Proofs.Ytipjhbngbaifeaa
/- THE CELL 'sum', in the pinned program and in every row, IS THE sha256 OF THE DUMP (.gsa) THAT YtipjhbngbaifeaaProg.lean LOADS. Nothing in Lean hashes anything: it is a label: what it is worth is what the hold of that sum in a sandbox is worth. -/
noncomputable def Try.pinned : Pinned := { name := "ytipjhbngbaifeaa", sum := "245fd9448bf496cedd7ce018b2fc5550f0a6cf1a4221b7cefaa487132f302d29", checked := Try.checked }
namespace Rows
def none {H : Type} : Left H := { results := [], args := [] }

/-- 'laws.FnExactConstants': WHATEVER THE INPUT: true; the input reads as it did. -/
def fnExactConstantsSpec : ChangeSpec := { name := "fnExactConstants", fn := fun _ => fun
  | [] => { results := [.lit (.bool true)], args := [] }
  | _ => none }
def fnExactConstantsRow : OpenClaim := { program := "ytipjhbngbaifeaa", sum := "245fd9448bf496cedd7ce018b2fc5550f0a6cf1a4221b7cefaa487132f302d29", func := "loop.example/s02542/laws.FnExactConstants", spec := "fnExactConstants", apart := false }
def FnExactConstantsSaid : Prop := fnExactConstantsRow.holds Try.pinned (OpenSpec.ofChange fnExactConstantsSpec)

/-- ITS FALSE NEIGHBOUR: 'it returns false'. Refute it at one input. -/
def fnExactConstantsWrong : ChangeSpec := { name := "fnExactConstants", fn := fun _ => fun
  | [] => { results := [.lit (.bool false)], args := [] }
  | _ => none }
def FnExactConstantsWrongFalsely : Prop := fnExactConstantsRow.holds Try.pinned (OpenSpec.ofChange fnExactConstantsWrong)

/-- 'laws.FnExactArrayOk': WHATEVER THE INPUT: true; the input reads as it did. -/
def fnExactArrayOkSpec : ChangeSpec := { name := "fnExactArrayOk", fn := fun _ => fun
  | [d] => { results := [.lit (.bool true)], args := [d] }
  | _ => none }
def fnExactArrayOkRow : OpenClaim := { program := "ytipjhbngbaifeaa", sum := "245fd9448bf496cedd7ce018b2fc5550f0a6cf1a4221b7cefaa487132f302d29", func := "loop.example/s02542/laws.FnExactArrayOk", spec := "fnExactArrayOk", apart := false }
def FnExactArrayOkSaid : Prop := fnExactArrayOkRow.holds Try.pinned (OpenSpec.ofChange fnExactArrayOkSpec)

/-- ITS FALSE NEIGHBOUR: 'it returns false'. Refute it at one input. -/
def fnExactArrayOkWrong : ChangeSpec := { name := "fnExactArrayOk", fn := fun _ => fun
  | [d] => { results := [.lit (.bool false)], args := [d] }
  | _ => none }
def FnExactArrayOkWrongFalsely : Prop := fnExactArrayOkRow.holds Try.pinned (OpenSpec.ofChange fnExactArrayOkWrong)

/-- 'laws.FnExactWholeView': WHATEVER THE INPUT: true; the input reads as it did. -/
def fnExactWholeViewSpec : ChangeSpec := { name := "fnExactWholeView", fn := fun _ => fun
  | [d] => { results := [.lit (.bool true)], args := [d] }
  | _ => none }
def fnExactWholeViewRow : OpenClaim := { program := "ytipjhbngbaifeaa", sum := "245fd9448bf496cedd7ce018b2fc5550f0a6cf1a4221b7cefaa487132f302d29", func := "loop.example/s02542/laws.FnExactWholeView", spec := "fnExactWholeView", apart := false }
def FnExactWholeViewSaid : Prop := fnExactWholeViewRow.holds Try.pinned (OpenSpec.ofChange fnExactWholeViewSpec)

/-- ITS FALSE NEIGHBOUR: 'it returns false'. Refute it at one input. -/
def fnExactWholeViewWrong : ChangeSpec := { name := "fnExactWholeView", fn := fun _ => fun
  | [d] => { results := [.lit (.bool false)], args := [d] }
  | _ => none }
def FnExactWholeViewWrongFalsely : Prop := fnExactWholeViewRow.holds Try.pinned (OpenSpec.ofChange fnExactWholeViewWrong)

/-- 'laws.FnExactSame': WHATEVER THE INPUT: true; the input reads as it did. -/
def fnExactSameSpec : ChangeSpec := { name := "fnExactSame", fn := fun _ => fun
  | [d1, d2] => { results := [.lit (.bool true)], args := [d1, d2] }
  | _ => none }
def fnExactSameRow : OpenClaim := { program := "ytipjhbngbaifeaa", sum := "245fd9448bf496cedd7ce018b2fc5550f0a6cf1a4221b7cefaa487132f302d29", func := "loop.example/s02542/laws.FnExactSame", spec := "fnExactSame", apart := false }
def FnExactSameSaid : Prop := fnExactSameRow.holds Try.pinned (OpenSpec.ofChange fnExactSameSpec)

/-- ITS FALSE NEIGHBOUR: 'it returns false'. Refute it at one input. -/
def fnExactSameWrong : ChangeSpec := { name := "fnExactSame", fn := fun _ => fun
  | [d1, d2] => { results := [.lit (.bool false)], args := [d1, d2] }
  | _ => none }
def FnExactSameWrongFalsely : Prop := fnExactSameRow.holds Try.pinned (OpenSpec.ofChange fnExactSameWrong)

/-- 'laws.FnExactViewOk': WHATEVER THE INPUT: true; the input reads as it did. -/
def fnExactViewOkSpec : ChangeSpec := { name := "fnExactViewOk", fn := fun _ => fun
  | [d1, d2] => { results := [.lit (.bool true)], args := [d1, d2] }
  | _ => none }
def fnExactViewOkRow : OpenClaim := { program := "ytipjhbngbaifeaa", sum := "245fd9448bf496cedd7ce018b2fc5550f0a6cf1a4221b7cefaa487132f302d29", func := "loop.example/s02542/laws.FnExactViewOk", spec := "fnExactViewOk", unfollowed := true, recurses := true, apart := false }
def FnExactViewOkSaid : Prop := fnExactViewOkRow.holds Try.pinned (OpenSpec.ofChange fnExactViewOkSpec)

/-- ITS FALSE NEIGHBOUR: 'it returns false'. Refute it at one input. -/
def fnExactViewOkWrong : ChangeSpec := { name := "fnExactViewOk", fn := fun _ => fun
  | [d1, d2] => { results := [.lit (.bool false)], args := [d1, d2] }
  | _ => none }
def FnExactViewOkWrongFalsely : Prop := fnExactViewOkRow.holds Try.pinned (OpenSpec.ofChange fnExactViewOkWrong)

/-- 'laws.FnExactLineView': WHATEVER THE INPUT: true; the input reads as it did. -/
def fnExactLineViewSpec : ChangeSpec := { name := "fnExactLineView", fn := fun _ => fun
  | [d] => { results := [.lit (.bool true)], args := [d] }
  | _ => none }
def fnExactLineViewRow : OpenClaim := { program := "ytipjhbngbaifeaa", sum := "245fd9448bf496cedd7ce018b2fc5550f0a6cf1a4221b7cefaa487132f302d29", func := "loop.example/s02542/laws.FnExactLineView", spec := "fnExactLineView", unfollowed := true, recurses := true, apart := false }
def FnExactLineViewSaid : Prop := fnExactLineViewRow.holds Try.pinned (OpenSpec.ofChange fnExactLineViewSpec)

/-- ITS FALSE NEIGHBOUR: 'it returns false'. Refute it at one input. -/
def fnExactLineViewWrong : ChangeSpec := { name := "fnExactLineView", fn := fun _ => fun
  | [d] => { results := [.lit (.bool false)], args := [d] }
  | _ => none }
def FnExactLineViewWrongFalsely : Prop := fnExactLineViewRow.holds Try.pinned (OpenSpec.ofChange fnExactLineViewWrong)

/-- 'laws.FnExactFlipView': WHATEVER THE INPUT: true; the input reads as it did. -/
def fnExactFlipViewSpec : ChangeSpec := { name := "fnExactFlipView", fn := fun _ => fun
  | [d1, d2] => { results := [.lit (.bool true)], args := [d1, d2] }
  | _ => none }
def fnExactFlipViewRow : OpenClaim := { program := "ytipjhbngbaifeaa", sum := "245fd9448bf496cedd7ce018b2fc5550f0a6cf1a4221b7cefaa487132f302d29", func := "loop.example/s02542/laws.FnExactFlipView", spec := "fnExactFlipView", apart := false }
def FnExactFlipViewSaid : Prop := fnExactFlipViewRow.holds Try.pinned (OpenSpec.ofChange fnExactFlipViewSpec)

/-- ITS FALSE NEIGHBOUR: 'it returns false'. Refute it at one input. -/
def fnExactFlipViewWrong : ChangeSpec := { name := "fnExactFlipView", fn := fun _ => fun
  | [d1, d2] => { results := [.lit (.bool false)], args := [d1, d2] }
  | _ => none }
def FnExactFlipViewWrongFalsely : Prop := fnExactFlipViewRow.holds Try.pinned (OpenSpec.ofChange fnExactFlipViewWrong)

/-- 'laws.FnExactCutView': WHATEVER THE INPUT: true; the input reads as it did. -/
def fnExactCutViewSpec : ChangeSpec := { name := "fnExactCutView", fn := fun _ => fun
  | [d1, d2, d3] => { results := [.lit (.bool true)], args := [d1, d2, d3] }
  | _ => none }
def fnExactCutViewRow : OpenClaim := { program := "ytipjhbngbaifeaa", sum := "245fd9448bf496cedd7ce018b2fc5550f0a6cf1a4221b7cefaa487132f302d29", func := "loop.example/s02542/laws.FnExactCutView", spec := "fnExactCutView", apart := false }
def FnExactCutViewSaid : Prop := fnExactCutViewRow.holds Try.pinned (OpenSpec.ofChange fnExactCutViewSpec)

/-- ITS FALSE NEIGHBOUR: 'it returns false'. Refute it at one input. -/
def fnExactCutViewWrong : ChangeSpec := { name := "fnExactCutView", fn := fun _ => fun
  | [d1, d2, d3] => { results := [.lit (.bool false)], args := [d1, d2, d3] }
  | _ => none }
def FnExactCutViewWrongFalsely : Prop := fnExactCutViewRow.holds Try.pinned (OpenSpec.ofChange fnExactCutViewWrong)

/-- 'laws.FnExactPickView': WHATEVER THE INPUT: true; the input reads as it did. -/
def fnExactPickViewSpec : ChangeSpec := { name := "fnExactPickView", fn := fun _ => fun
  | [d1, d2, d3, d4, d5] => { results := [.lit (.bool true)], args := [d1, d2, d3, d4, d5] }
  | _ => none }
def fnExactPickViewRow : OpenClaim := { program := "ytipjhbngbaifeaa", sum := "245fd9448bf496cedd7ce018b2fc5550f0a6cf1a4221b7cefaa487132f302d29", func := "loop.example/s02542/laws.FnExactPickView", spec := "fnExactPickView", apart := false }
def FnExactPickViewSaid : Prop := fnExactPickViewRow.holds Try.pinned (OpenSpec.ofChange fnExactPickViewSpec)

/-- ITS FALSE NEIGHBOUR: 'it returns false'. Refute it at one input. -/
def fnExactPickViewWrong : ChangeSpec := { name := "fnExactPickView", fn := fun _ => fun
  | [d1, d2, d3, d4, d5] => { results := [.lit (.bool false)], args := [d1, d2, d3, d4, d5] }
  | _ => none }
def FnExactPickViewWrongFalsely : Prop := fnExactPickViewRow.holds Try.pinned (OpenSpec.ofChange fnExactPickViewWrong)

/-- 'laws.FnExactTurnView': WHATEVER THE INPUT: true; the input reads as it did. -/
def fnExactTurnViewSpec : ChangeSpec := { name := "fnExactTurnView", fn := fun _ => fun
  | [d1, d2] => { results := [.lit (.bool true)], args := [d1, d2] }
  | _ => none }
def fnExactTurnViewRow : OpenClaim := { program := "ytipjhbngbaifeaa", sum := "245fd9448bf496cedd7ce018b2fc5550f0a6cf1a4221b7cefaa487132f302d29", func := "loop.example/s02542/laws.FnExactTurnView", spec := "fnExactTurnView", apart := false }
def FnExactTurnViewSaid : Prop := fnExactTurnViewRow.holds Try.pinned (OpenSpec.ofChange fnExactTurnViewSpec)

/-- ITS FALSE NEIGHBOUR: 'it returns false'. Refute it at one input. -/
def fnExactTurnViewWrong : ChangeSpec := { name := "fnExactTurnView", fn := fun _ => fun
  | [d1, d2] => { results := [.lit (.bool false)], args := [d1, d2] }
  | _ => none }
def FnExactTurnViewWrongFalsely : Prop := fnExactTurnViewRow.holds Try.pinned (OpenSpec.ofChange fnExactTurnViewWrong)

/-- 'laws.FnExactPlaces': WHATEVER THE INPUT: true; the input reads as it did. -/
def fnExactPlacesSpec : ChangeSpec := { name := "fnExactPlaces", fn := fun _ => fun
  | [d1, d2] => { results := [.lit (.bool true)], args := [d1, d2] }
  | _ => none }
def fnExactPlacesRow : OpenClaim := { program := "ytipjhbngbaifeaa", sum := "245fd9448bf496cedd7ce018b2fc5550f0a6cf1a4221b7cefaa487132f302d29", func := "loop.example/s02542/laws.FnExactPlaces", spec := "fnExactPlaces", unfollowed := true, recurses := true, apart := false }
def FnExactPlacesSaid : Prop := fnExactPlacesRow.holds Try.pinned (OpenSpec.ofChange fnExactPlacesSpec)

/-- ITS FALSE NEIGHBOUR: 'it returns false'. Refute it at one input. -/
def fnExactPlacesWrong : ChangeSpec := { name := "fnExactPlaces", fn := fun _ => fun
  | [d1, d2] => { results := [.lit (.bool false)], args := [d1, d2] }
  | _ => none }
def FnExactPlacesWrongFalsely : Prop := fnExactPlacesRow.holds Try.pinned (OpenSpec.ofChange fnExactPlacesWrong)

/-- 'laws.FnExactFoldView': WHATEVER THE INPUT: true; the input reads as it did. -/
def fnExactFoldViewSpec : ChangeSpec := { name := "fnExactFoldView", fn := fun _ => fun
  | [d1, d2] => { results := [.lit (.bool true)], args := [d1, d2] }
  | _ => none }
def fnExactFoldViewRow : OpenClaim := { program := "ytipjhbngbaifeaa", sum := "245fd9448bf496cedd7ce018b2fc5550f0a6cf1a4221b7cefaa487132f302d29", func := "loop.example/s02542/laws.FnExactFoldView", spec := "fnExactFoldView", unfollowed := true, recurses := true, apart := false }
def FnExactFoldViewSaid : Prop := fnExactFoldViewRow.holds Try.pinned (OpenSpec.ofChange fnExactFoldViewSpec)

/-- ITS FALSE NEIGHBOUR: 'it returns false'. Refute it at one input. -/
def fnExactFoldViewWrong : ChangeSpec := { name := "fnExactFoldView", fn := fun _ => fun
  | [d1, d2] => { results := [.lit (.bool false)], args := [d1, d2] }
  | _ => none }
def FnExactFoldViewWrongFalsely : Prop := fnExactFoldViewRow.holds Try.pinned (OpenSpec.ofChange fnExactFoldViewWrong)

/- THE SECOND FORM. 'bulk': how many values and letters a reading holds, each counted each time it is reached (what is shared counts as often as it is met; a slice's spare places count too). A statement '..UptoSaid' is the law's where the arguments, and the package variables that the reading takes, are together of bulk at most 1048576: NARROWER than '..Said'. Prove '..Said' where nothing that the law and all that it calls make is longer than what came in: it says more and counts as full. Else prove '..UptoSaid'. A law counts once. -/
mutual
def uptoBulk {H : Type} : DataW H → Nat
  | .lit (.string bytes) => bytes.length + 1
  | .lit _ => 1
  | .nil => 1
  | .ptr d => uptoBulk d + 1
  | .slice elems spare => uptoBulkAll elems + uptoBulkAll spare + 1
  | .agg parts => uptoBulkAll parts + 1
  | .iface _ d => uptoBulk d + 1
  | .map entries => uptoBulkEntries entries + 1
  | .held _ => 1
def uptoBulkAll {H : Type} : List (DataW H) → Nat
  | [] => 0
  | d :: r => uptoBulk d + uptoBulkAll r
def uptoBulkEntries {H : Type} : List (Lit × DataW H) → Nat
  | [] => 0
  | x :: r => uptoBulkEntry x + uptoBulkEntries r
def uptoBulkEntry {H : Type} : Lit × DataW H → Nat
  | (.string bytes, d) => bytes.length + uptoBulk d + 1
  | (_, d) => uptoBulk d + 1
 end
def uptoSmall : (H : Type) → List (DataW H) → Bool := fun _ ds => decide (uptoBulkAll ds ≤ 1048576)
def OpenSpec.upto (s : _root_.Go.ChangeSpec) : _root_.Go.OpenSpec := { _root_.Go.OpenSpec.ofChange s with cond := some uptoSmall }

/-- 'laws.FnExactConstants', WHERE WHAT IT READS IS OF BULK AT MOST 1048576: true; the input reads as it did. -/
def fnExactConstantsUptoRow : OpenClaim := { program := "ytipjhbngbaifeaa", sum := "245fd9448bf496cedd7ce018b2fc5550f0a6cf1a4221b7cefaa487132f302d29", func := "loop.example/s02542/laws.FnExactConstants", spec := "fnExactConstants", apart := false, narrowed := true }
def FnExactConstantsUptoSaid : Prop := fnExactConstantsUptoRow.holds Try.pinned (OpenSpec.upto fnExactConstantsSpec)

/-- 'laws.FnExactArrayOk', WHERE WHAT IT READS IS OF BULK AT MOST 1048576: true; the input reads as it did. -/
def fnExactArrayOkUptoRow : OpenClaim := { program := "ytipjhbngbaifeaa", sum := "245fd9448bf496cedd7ce018b2fc5550f0a6cf1a4221b7cefaa487132f302d29", func := "loop.example/s02542/laws.FnExactArrayOk", spec := "fnExactArrayOk", apart := false, narrowed := true }
def FnExactArrayOkUptoSaid : Prop := fnExactArrayOkUptoRow.holds Try.pinned (OpenSpec.upto fnExactArrayOkSpec)

/-- 'laws.FnExactWholeView', WHERE WHAT IT READS IS OF BULK AT MOST 1048576: true; the input reads as it did. -/
def fnExactWholeViewUptoRow : OpenClaim := { program := "ytipjhbngbaifeaa", sum := "245fd9448bf496cedd7ce018b2fc5550f0a6cf1a4221b7cefaa487132f302d29", func := "loop.example/s02542/laws.FnExactWholeView", spec := "fnExactWholeView", apart := false, narrowed := true }
def FnExactWholeViewUptoSaid : Prop := fnExactWholeViewUptoRow.holds Try.pinned (OpenSpec.upto fnExactWholeViewSpec)

/-- 'laws.FnExactSame', WHERE WHAT IT READS IS OF BULK AT MOST 1048576: true; the input reads as it did. -/
def fnExactSameUptoRow : OpenClaim := { program := "ytipjhbngbaifeaa", sum := "245fd9448bf496cedd7ce018b2fc5550f0a6cf1a4221b7cefaa487132f302d29", func := "loop.example/s02542/laws.FnExactSame", spec := "fnExactSame", apart := false, narrowed := true }
def FnExactSameUptoSaid : Prop := fnExactSameUptoRow.holds Try.pinned (OpenSpec.upto fnExactSameSpec)

/-- 'laws.FnExactViewOk', WHERE WHAT IT READS IS OF BULK AT MOST 1048576: true; the input reads as it did. -/
def fnExactViewOkUptoRow : OpenClaim := { program := "ytipjhbngbaifeaa", sum := "245fd9448bf496cedd7ce018b2fc5550f0a6cf1a4221b7cefaa487132f302d29", func := "loop.example/s02542/laws.FnExactViewOk", spec := "fnExactViewOk", unfollowed := true, recurses := true, apart := false, narrowed := true }
def FnExactViewOkUptoSaid : Prop := fnExactViewOkUptoRow.holds Try.pinned (OpenSpec.upto fnExactViewOkSpec)

/-- 'laws.FnExactLineView', WHERE WHAT IT READS IS OF BULK AT MOST 1048576: true; the input reads as it did. -/
def fnExactLineViewUptoRow : OpenClaim := { program := "ytipjhbngbaifeaa", sum := "245fd9448bf496cedd7ce018b2fc5550f0a6cf1a4221b7cefaa487132f302d29", func := "loop.example/s02542/laws.FnExactLineView", spec := "fnExactLineView", unfollowed := true, recurses := true, apart := false, narrowed := true }
def FnExactLineViewUptoSaid : Prop := fnExactLineViewUptoRow.holds Try.pinned (OpenSpec.upto fnExactLineViewSpec)

/-- 'laws.FnExactFlipView', WHERE WHAT IT READS IS OF BULK AT MOST 1048576: true; the input reads as it did. -/
def fnExactFlipViewUptoRow : OpenClaim := { program := "ytipjhbngbaifeaa", sum := "245fd9448bf496cedd7ce018b2fc5550f0a6cf1a4221b7cefaa487132f302d29", func := "loop.example/s02542/laws.FnExactFlipView", spec := "fnExactFlipView", apart := false, narrowed := true }
def FnExactFlipViewUptoSaid : Prop := fnExactFlipViewUptoRow.holds Try.pinned (OpenSpec.upto fnExactFlipViewSpec)

/-- 'laws.FnExactCutView', WHERE WHAT IT READS IS OF BULK AT MOST 1048576: true; the input reads as it did. -/
def fnExactCutViewUptoRow : OpenClaim := { program := "ytipjhbngbaifeaa", sum := "245fd9448bf496cedd7ce018b2fc5550f0a6cf1a4221b7cefaa487132f302d29", func := "loop.example/s02542/laws.FnExactCutView", spec := "fnExactCutView", apart := false, narrowed := true }
def FnExactCutViewUptoSaid : Prop := fnExactCutViewUptoRow.holds Try.pinned (OpenSpec.upto fnExactCutViewSpec)

/-- 'laws.FnExactPickView', WHERE WHAT IT READS IS OF BULK AT MOST 1048576: true; the input reads as it did. -/
def fnExactPickViewUptoRow : OpenClaim := { program := "ytipjhbngbaifeaa", sum := "245fd9448bf496cedd7ce018b2fc5550f0a6cf1a4221b7cefaa487132f302d29", func := "loop.example/s02542/laws.FnExactPickView", spec := "fnExactPickView", apart := false, narrowed := true }
def FnExactPickViewUptoSaid : Prop := fnExactPickViewUptoRow.holds Try.pinned (OpenSpec.upto fnExactPickViewSpec)

/-- 'laws.FnExactTurnView', WHERE WHAT IT READS IS OF BULK AT MOST 1048576: true; the input reads as it did. -/
def fnExactTurnViewUptoRow : OpenClaim := { program := "ytipjhbngbaifeaa", sum := "245fd9448bf496cedd7ce018b2fc5550f0a6cf1a4221b7cefaa487132f302d29", func := "loop.example/s02542/laws.FnExactTurnView", spec := "fnExactTurnView", apart := false, narrowed := true }
def FnExactTurnViewUptoSaid : Prop := fnExactTurnViewUptoRow.holds Try.pinned (OpenSpec.upto fnExactTurnViewSpec)

/-- 'laws.FnExactPlaces', WHERE WHAT IT READS IS OF BULK AT MOST 1048576: true; the input reads as it did. -/
def fnExactPlacesUptoRow : OpenClaim := { program := "ytipjhbngbaifeaa", sum := "245fd9448bf496cedd7ce018b2fc5550f0a6cf1a4221b7cefaa487132f302d29", func := "loop.example/s02542/laws.FnExactPlaces", spec := "fnExactPlaces", unfollowed := true, recurses := true, apart := false, narrowed := true }
def FnExactPlacesUptoSaid : Prop := fnExactPlacesUptoRow.holds Try.pinned (OpenSpec.upto fnExactPlacesSpec)

/-- 'laws.FnExactFoldView', WHERE WHAT IT READS IS OF BULK AT MOST 1048576: true; the input reads as it did. -/
def fnExactFoldViewUptoRow : OpenClaim := { program := "ytipjhbngbaifeaa", sum := "245fd9448bf496cedd7ce018b2fc5550f0a6cf1a4221b7cefaa487132f302d29", func := "loop.example/s02542/laws.FnExactFoldView", spec := "fnExactFoldView", unfollowed := true, recurses := true, apart := false, narrowed := true }
def FnExactFoldViewUptoSaid : Prop := fnExactFoldViewUptoRow.holds Try.pinned (OpenSpec.upto fnExactFoldViewSpec)

end Rows
end Go.Proofs.Ytipjhbngbaifeaa
