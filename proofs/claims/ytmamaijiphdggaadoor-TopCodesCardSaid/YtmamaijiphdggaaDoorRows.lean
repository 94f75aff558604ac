/-
  NARROWER THAN 'FOR EVERY INPUT', by the rows' own cells (each row's printed sentence says how): TopCodes: laid · OpShapes: laid · OpFits: laid · OpTells: laid · OpWithin: laid · OpLacks: laid.
  DERIVED. THE GIVEN ROWS OF THIS SEAT. 6 by the template 'for every input the law returns true; each argument reads behind the call as it read before'; 0 by the template 'total and deterministic' (their statements: YtmamaijiphdggaaDoorTotals.lean).
  GIVEN WITH THE SEED: the statements are not yours to turn. If you find one false, say at which input.
  Laid BY PROGRAM, IN A SANDBOX (cutbox-rows.mjs): the forced cells as the released guide's own fill.sh prints them over the translation bbc25f9a715d8e28… (all of the seat's roots in one cut). By AI agents, Wed Nov 11 2026. No macro, syntax, notation, axiom, sorry.
-/
import Derived.Test.YtmamaijiphdggaaDoorChecked
import GoSem.Claim
import GoSem.ClaimJoined
import GoSem.ClaimMapViews
import Derived.JoinedTies
import Derived.KernelRfl
namespace Go.Proofs.YtmamaijiphdggaaDoor
/- THE CELL 'sum', in the pinned program and in every row, IS THE sha256 OF THE DUMP (.gsa) THAT YtmamaijiphdggaaDoorProg.lean LOADS. Nothing in Lean hashes anything: it is a label: what it is worth is what the hold of that sum in a sandbox is worth. -/
noncomputable def Tryd.pinned : Pinned := { name := "ytmamaijiphdggaadoor", sum := "bbc25f9a715d8e283b03f85c5ed7ba0b2203d430f9e2900af478df3793533b8c", checked := Tryd.checked }
namespace Rows
def none {H : Type} : Left H := { results := [], args := [] }

/- WHAT THE LISTED PACKAGE-LEVEL VARIABLES READ AS WHEN THE CALL BEGINS. Each datum BY PROGRAM (the guide's laid-datum.mjs) off the statement by which the dump's own 'gosem.cut.vars' lays the variable. In a bare row this is a premise. The card (YtmamaijiphdggaaDoorCards.lean) ties it to the program's text. -/
def laid_secateur_op_shapes {H : Type} : DataW H := .agg [.lit (.string []), .lit (.string []), .lit (.string [97, 107]), .lit (.string [97]), .lit (.string [97, 98]), .lit (.string [97, 98, 99, 114]), .lit (.string [116]), .lit (.string [98, 116]), .lit (.string [98, 116]), .lit (.string [97, 67]), .lit (.string [97, 98]), .lit (.string [97, 98, 67]), .lit (.string [97, 98]), .lit (.string [97, 98, 99]), .lit (.string [97, 98, 99]), .lit (.string [97, 98, 70]), .lit (.string [98, 99, 70]), .lit (.string [97, 70]), .lit (.string [99, 70]), .lit (.string [97, 77, 118]), .lit (.string [97, 77, 118]), .lit (.string [97, 77, 118]), .lit (.string [98]), .lit (.string []), .lit (.string [97, 98, 67]), .lit (.string [97, 98, 67]), .lit (.string [97]), .lit (.string [98]), .lit (.string [97, 98]), .lit (.string [97, 98]), .lit (.string [107]), .lit (.string [98]), .lit (.string [67])]

/-- 'secateurtop.TopCodes': WHATEVER THE INPUT: true; the input reads as it did. -/
def topCodesSpec : ChangeSpec := { name := "topCodes", fn := fun _ => fun
  | [d] => { results := [.lit (.bool true)], args := [d] }
  | _ => none }
def topCodesRow : OpenClaim := { program := "ytmamaijiphdggaadoor", sum := "bbc25f9a715d8e283b03f85c5ed7ba0b2203d430f9e2900af478df3793533b8c", func := "secateur/secateurtop.TopCodes", spec := "topCodes", inPlace := ["internal/bytealg.IndexByteString", "internal/bytealg.IndexString", "internal/bytealg.abigen_runtime_cmpstring"], unfollowed := true, recurses := true, named := ["internal/bytealg.MaxLen", "secateur/op.shapes"], apart := false, laid := [("secateur/op.shapes", laid_secateur_op_shapes)] }
def TopCodesSaid : Prop := topCodesRow.holds Tryd.pinned (OpenSpec.ofChange topCodesSpec)

/-- ITS FALSE NEIGHBOUR: 'it returns false'. Refute it at one input. -/
def topCodesWrong : ChangeSpec := { name := "topCodes", fn := fun _ => fun
  | [d] => { results := [.lit (.bool false)], args := [d] }
  | _ => none }
def TopCodesWrongFalsely : Prop := topCodesRow.holds Tryd.pinned (OpenSpec.ofChange topCodesWrong)

/-- 'secateurlaw07.OpShapes': WHATEVER THE INPUT: true; the input reads as it did. -/
def opShapesSpec : ChangeSpec := { name := "opShapes", fn := fun _ => fun
  | [d] => { results := [.lit (.bool true)], args := [d] }
  | _ => none }
def opShapesRow : OpenClaim := { program := "ytmamaijiphdggaadoor", sum := "bbc25f9a715d8e283b03f85c5ed7ba0b2203d430f9e2900af478df3793533b8c", func := "secateur/secateurlaw07.OpShapes", spec := "opShapes", inPlace := ["internal/bytealg.IndexByteString", "internal/bytealg.IndexString"], unfollowed := true, recurses := true, named := ["secateur/op.shapes", "internal/bytealg.MaxLen"], apart := false, laid := [("secateur/op.shapes", laid_secateur_op_shapes)] }
def OpShapesSaid : Prop := opShapesRow.holds Tryd.pinned (OpenSpec.ofChange opShapesSpec)

/-- ITS FALSE NEIGHBOUR: 'it returns false'. Refute it at one input. -/
def opShapesWrong : ChangeSpec := { name := "opShapes", fn := fun _ => fun
  | [d] => { results := [.lit (.bool false)], args := [d] }
  | _ => none }
def OpShapesWrongFalsely : Prop := opShapesRow.holds Tryd.pinned (OpenSpec.ofChange opShapesWrong)

/-- 'secateurlaw07.OpFits': WHATEVER THE INPUT: true; the input reads as it did. -/
def opFitsSpec : ChangeSpec := { name := "opFits", fn := fun _ => fun
  | [d1, d2, d3] => { results := [.lit (.bool true)], args := [d1, d2, d3] }
  | _ => none }
def opFitsRow : OpenClaim := { program := "ytmamaijiphdggaadoor", sum := "bbc25f9a715d8e283b03f85c5ed7ba0b2203d430f9e2900af478df3793533b8c", func := "secateur/secateurlaw07.OpFits", spec := "opFits", inPlace := ["internal/bytealg.IndexByteString", "internal/bytealg.IndexString"], unfollowed := true, recurses := true, named := ["secateur/op.shapes", "internal/bytealg.MaxLen"], apart := false, laid := [("secateur/op.shapes", laid_secateur_op_shapes)] }
def OpFitsSaid : Prop := opFitsRow.holds Tryd.pinned (OpenSpec.ofChange opFitsSpec)

/-- ITS FALSE NEIGHBOUR: 'it returns false'. Refute it at one input. -/
def opFitsWrong : ChangeSpec := { name := "opFits", fn := fun _ => fun
  | [d1, d2, d3] => { results := [.lit (.bool false)], args := [d1, d2, d3] }
  | _ => none }
def OpFitsWrongFalsely : Prop := opFitsRow.holds Tryd.pinned (OpenSpec.ofChange opFitsWrong)

/-- 'secateurlaw07.OpTells': WHATEVER THE INPUT: true; the input reads as it did. -/
def opTellsSpec : ChangeSpec := { name := "opTells", fn := fun _ => fun
  | [d1, d2] => { results := [.lit (.bool true)], args := [d1, d2] }
  | _ => none }
def opTellsRow : OpenClaim := { program := "ytmamaijiphdggaadoor", sum := "bbc25f9a715d8e283b03f85c5ed7ba0b2203d430f9e2900af478df3793533b8c", func := "secateur/secateurlaw07.OpTells", spec := "opTells", inPlace := ["internal/bytealg.IndexByteString", "internal/bytealg.IndexString"], unfollowed := true, recurses := true, named := ["secateur/op.shapes", "internal/bytealg.MaxLen"], apart := false, laid := [("secateur/op.shapes", laid_secateur_op_shapes)] }
def OpTellsSaid : Prop := opTellsRow.holds Tryd.pinned (OpenSpec.ofChange opTellsSpec)

/-- ITS FALSE NEIGHBOUR: 'it returns false'. Refute it at one input. -/
def opTellsWrong : ChangeSpec := { name := "opTells", fn := fun _ => fun
  | [d1, d2] => { results := [.lit (.bool false)], args := [d1, d2] }
  | _ => none }
def OpTellsWrongFalsely : Prop := opTellsRow.holds Tryd.pinned (OpenSpec.ofChange opTellsWrong)

/-- 'secateurlaw07.OpWithin': WHATEVER THE INPUT: true; the input reads as it did. -/
def opWithinSpec : ChangeSpec := { name := "opWithin", fn := fun _ => fun
  | [d1, d2, d3] => { results := [.lit (.bool true)], args := [d1, d2, d3] }
  | _ => none }
def opWithinRow : OpenClaim := { program := "ytmamaijiphdggaadoor", sum := "bbc25f9a715d8e283b03f85c5ed7ba0b2203d430f9e2900af478df3793533b8c", func := "secateur/secateurlaw07.OpWithin", spec := "opWithin", inPlace := ["internal/bytealg.IndexByteString", "internal/bytealg.IndexString"], unfollowed := true, recurses := true, named := ["secateur/op.shapes", "internal/bytealg.MaxLen"], apart := false, laid := [("secateur/op.shapes", laid_secateur_op_shapes)] }
def OpWithinSaid : Prop := opWithinRow.holds Tryd.pinned (OpenSpec.ofChange opWithinSpec)

/-- ITS FALSE NEIGHBOUR: 'it returns false'. Refute it at one input. -/
def opWithinWrong : ChangeSpec := { name := "opWithin", fn := fun _ => fun
  | [d1, d2, d3] => { results := [.lit (.bool false)], args := [d1, d2, d3] }
  | _ => none }
def OpWithinWrongFalsely : Prop := opWithinRow.holds Tryd.pinned (OpenSpec.ofChange opWithinWrong)

/-- 'secateurlaw07.OpLacks': WHATEVER THE INPUT: true; the input reads as it did. -/
def opLacksSpec : ChangeSpec := { name := "opLacks", fn := fun _ => fun
  | [d1, d2] => { results := [.lit (.bool true)], args := [d1, d2] }
  | _ => none }
def opLacksRow : OpenClaim := { program := "ytmamaijiphdggaadoor", sum := "bbc25f9a715d8e283b03f85c5ed7ba0b2203d430f9e2900af478df3793533b8c", func := "secateur/secateurlaw07.OpLacks", spec := "opLacks", inPlace := ["internal/bytealg.IndexByteString", "internal/bytealg.IndexString"], unfollowed := true, recurses := true, named := ["secateur/op.shapes", "internal/bytealg.MaxLen"], apart := false, laid := [("secateur/op.shapes", laid_secateur_op_shapes)] }
def OpLacksSaid : Prop := opLacksRow.holds Tryd.pinned (OpenSpec.ofChange opLacksSpec)

/-- ITS FALSE NEIGHBOUR: 'it returns false'. Refute it at one input. -/
def opLacksWrong : ChangeSpec := { name := "opLacks", fn := fun _ => fun
  | [d1, d2] => { results := [.lit (.bool false)], args := [d1, d2] }
  | _ => none }
def OpLacksWrongFalsely : Prop := opLacksRow.holds Tryd.pinned (OpenSpec.ofChange opLacksWrong)

/- THE SECOND FORM. 'bulk': how many values and letters a reading holds, each counted each time it is reached (what is shared counts as often as it is met; a slice's spare places count too). A statement '..UptoSaid' is the law's where the arguments, and the package variables that the reading takes, are together of bulk at most 1048576: NARROWER than '..Said'. Prove '..Said' where nothing that the law and all that it calls make is longer than what came in: it says more and counts as full. Else prove '..UptoSaid'. A law counts once. -/
mutual
def uptoBulk {H : Type} : DataW H → Nat
  | .lit (.string bytes) => bytes.length + 1
  | .lit _ => 1
  | .nil => 1
  | .ptr d => uptoBulk d + 1
  | .slice elems spare => uptoBulkAll elems + uptoBulkAll spare + 1
  | .agg parts => uptoBulkAll parts + 1
  | .iface _ d => uptoBulk d + 1
  | .map entries => uptoBulkEntries entries + 1
  | .held _ => 1
def uptoBulkAll {H : Type} : List (DataW H) → Nat
  | [] => 0
  | d :: r => uptoBulk d + uptoBulkAll r
def uptoBulkEntries {H : Type} : List (Lit × DataW H) → Nat
  | [] => 0
  | x :: r => uptoBulkEntry x + uptoBulkEntries r
def uptoBulkEntry {H : Type} : Lit × DataW H → Nat
  | (.string bytes, d) => bytes.length + uptoBulk d + 1
  | (_, d) => uptoBulk d + 1
 end
def uptoSmall : (H : Type) → List (DataW H) → Bool := fun _ ds => decide (uptoBulkAll ds ≤ 1048576)
def OpenSpec.upto (s : _root_.Go.ChangeSpec) : _root_.Go.OpenSpec := { _root_.Go.OpenSpec.ofChange s with cond := some uptoSmall }

/-- 'secateurtop.TopCodes', WHERE WHAT IT READS IS OF BULK AT MOST 1048576: true; the input reads as it did. -/
def topCodesUptoRow : OpenClaim := { program := "ytmamaijiphdggaadoor", sum := "bbc25f9a715d8e283b03f85c5ed7ba0b2203d430f9e2900af478df3793533b8c", func := "secateur/secateurtop.TopCodes", spec := "topCodes", inPlace := ["internal/bytealg.IndexByteString", "internal/bytealg.IndexString", "internal/bytealg.abigen_runtime_cmpstring"], unfollowed := true, recurses := true, named := ["internal/bytealg.MaxLen", "secateur/op.shapes"], apart := false, laid := [("secateur/op.shapes", laid_secateur_op_shapes)], narrowed := true }
def TopCodesUptoSaid : Prop := topCodesUptoRow.holds Tryd.pinned (OpenSpec.upto topCodesSpec)

/-- 'secateurlaw07.OpShapes', WHERE WHAT IT READS IS OF BULK AT MOST 1048576: true; the input reads as it did. -/
def opShapesUptoRow : OpenClaim := { program := "ytmamaijiphdggaadoor", sum := "bbc25f9a715d8e283b03f85c5ed7ba0b2203d430f9e2900af478df3793533b8c", func := "secateur/secateurlaw07.OpShapes", spec := "opShapes", inPlace := ["internal/bytealg.IndexByteString", "internal/bytealg.IndexString"], unfollowed := true, recurses := true, named := ["secateur/op.shapes", "internal/bytealg.MaxLen"], apart := false, laid := [("secateur/op.shapes", laid_secateur_op_shapes)], narrowed := true }
def OpShapesUptoSaid : Prop := opShapesUptoRow.holds Tryd.pinned (OpenSpec.upto opShapesSpec)

/-- 'secateurlaw07.OpFits', WHERE WHAT IT READS IS OF BULK AT MOST 1048576: true; the input reads as it did. -/
def opFitsUptoRow : OpenClaim := { program := "ytmamaijiphdggaadoor", sum := "bbc25f9a715d8e283b03f85c5ed7ba0b2203d430f9e2900af478df3793533b8c", func := "secateur/secateurlaw07.OpFits", spec := "opFits", inPlace := ["internal/bytealg.IndexByteString", "internal/bytealg.IndexString"], unfollowed := true, recurses := true, named := ["secateur/op.shapes", "internal/bytealg.MaxLen"], apart := false, laid := [("secateur/op.shapes", laid_secateur_op_shapes)], narrowed := true }
def OpFitsUptoSaid : Prop := opFitsUptoRow.holds Tryd.pinned (OpenSpec.upto opFitsSpec)

/-- 'secateurlaw07.OpTells', WHERE WHAT IT READS IS OF BULK AT MOST 1048576: true; the input reads as it did. -/
def opTellsUptoRow : OpenClaim := { program := "ytmamaijiphdggaadoor", sum := "bbc25f9a715d8e283b03f85c5ed7ba0b2203d430f9e2900af478df3793533b8c", func := "secateur/secateurlaw07.OpTells", spec := "opTells", inPlace := ["internal/bytealg.IndexByteString", "internal/bytealg.IndexString"], unfollowed := true, recurses := true, named := ["secateur/op.shapes", "internal/bytealg.MaxLen"], apart := false, laid := [("secateur/op.shapes", laid_secateur_op_shapes)], narrowed := true }
def OpTellsUptoSaid : Prop := opTellsUptoRow.holds Tryd.pinned (OpenSpec.upto opTellsSpec)

/-- 'secateurlaw07.OpWithin', WHERE WHAT IT READS IS OF BULK AT MOST 1048576: true; the input reads as it did. -/
def opWithinUptoRow : OpenClaim := { program := "ytmamaijiphdggaadoor", sum := "bbc25f9a715d8e283b03f85c5ed7ba0b2203d430f9e2900af478df3793533b8c", func := "secateur/secateurlaw07.OpWithin", spec := "opWithin", inPlace := ["internal/bytealg.IndexByteString", "internal/bytealg.IndexString"], unfollowed := true, recurses := true, named := ["secateur/op.shapes", "internal/bytealg.MaxLen"], apart := false, laid := [("secateur/op.shapes", laid_secateur_op_shapes)], narrowed := true }
def OpWithinUptoSaid : Prop := opWithinUptoRow.holds Tryd.pinned (OpenSpec.upto opWithinSpec)

/-- 'secateurlaw07.OpLacks', WHERE WHAT IT READS IS OF BULK AT MOST 1048576: true; the input reads as it did. -/
def opLacksUptoRow : OpenClaim := { program := "ytmamaijiphdggaadoor", sum := "bbc25f9a715d8e283b03f85c5ed7ba0b2203d430f9e2900af478df3793533b8c", func := "secateur/secateurlaw07.OpLacks", spec := "opLacks", inPlace := ["internal/bytealg.IndexByteString", "internal/bytealg.IndexString"], unfollowed := true, recurses := true, named := ["secateur/op.shapes", "internal/bytealg.MaxLen"], apart := false, laid := [("secateur/op.shapes", laid_secateur_op_shapes)], narrowed := true }
def OpLacksUptoSaid : Prop := opLacksUptoRow.holds Tryd.pinned (OpenSpec.upto opLacksSpec)

end Rows
end Go.Proofs.YtmamaijiphdggaaDoor
