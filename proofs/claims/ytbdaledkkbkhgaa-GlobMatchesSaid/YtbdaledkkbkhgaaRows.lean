/-
  No cell of these rows narrows 'for every input' (looked for: loops, veiled, ifaces, maps, wideKeys, modest, calm, conditions, laid).
  DERIVED. THE GIVEN ROWS OF THIS SEAT. 5 by the template 'for every input the law returns true; each argument reads behind the call as it read before'; 0 by the template 'total and deterministic' (their statements: YtbdaledkkbkhgaaTotals.lean).
  GIVEN WITH THE SEED: the statements are not yours to turn. If you find one false, say at which input.
  Laid BY PROGRAM, IN A SANDBOX (cutbox-rows.mjs): the forced cells as the released guide's own fill.sh prints them over the translation ec94ee0b6e9b7f85… (all of the seat's roots in one cut). By AI agents, Wed Nov 11 2026. No macro, syntax, notation, axiom, sorry.
-/
import Derived.Test.YtbdaledkkbkhgaaChecked
import GoSem.Claim
import GoSem.ClaimJoined
import GoSem.ClaimMapViews
import Derived.JoinedTies
import Derived.KernelRfl
namespace Go.Proofs.Ytbdaledkkbkhgaa
/- THE CELL 'sum', in the pinned program and in every row, IS THE sha256 OF THE DUMP (.gsa) THAT YtbdaledkkbkhgaaProg.lean LOADS. Nothing in Lean hashes anything: it is a label: what it is worth is what the hold of that sum in a sandbox is worth. -/
noncomputable def Try.pinned : Pinned := { name := "ytbdaledkkbkhgaa", sum := "ec94ee0b6e9b7f850072fa2fb8a3f73aa2a2f18ddaaed07224540bd6599a9ab3", checked := Try.checked }
namespace Rows
def none {H : Type} : Left H := { results := [], args := [] }

/-- 'secateurlaw21.GlobMatches': WHATEVER THE INPUT: true; the input reads as it did. -/
def globMatchesSpec : ChangeSpec := { name := "globMatches", fn := fun _ => fun
  | [d1, d2, d3] => { results := [.lit (.bool true)], args := [d1, d2, d3] }
  | _ => none }
def globMatchesRow : OpenClaim := { program := "ytbdaledkkbkhgaa", sum := "ec94ee0b6e9b7f850072fa2fb8a3f73aa2a2f18ddaaed07224540bd6599a9ab3", func := "secateur/secateurlaw21.GlobMatches", spec := "globMatches", inPlace := ["internal/bytealg.CountString", "internal/bytealg.IndexByteString", "internal/bytealg.IndexString"], named := ["internal/bytealg.MaxLen"], apart := false }
def GlobMatchesSaid : Prop := globMatchesRow.holds Try.pinned (OpenSpec.ofChange globMatchesSpec)

/-- ITS FALSE NEIGHBOUR: 'it returns false'. Refute it at one input. -/
def globMatchesWrong : ChangeSpec := { name := "globMatches", fn := fun _ => fun
  | [d1, d2, d3] => { results := [.lit (.bool false)], args := [d1, d2, d3] }
  | _ => none }
def GlobMatchesWrongFalsely : Prop := globMatchesRow.holds Try.pinned (OpenSpec.ofChange globMatchesWrong)

/-- 'secateurlaw21.GlobPlain': WHATEVER THE INPUT: true; the input reads as it did. -/
def globPlainSpec : ChangeSpec := { name := "globPlain", fn := fun _ => fun
  | [d1, d2] => { results := [.lit (.bool true)], args := [d1, d2] }
  | _ => none }
def globPlainRow : OpenClaim := { program := "ytbdaledkkbkhgaa", sum := "ec94ee0b6e9b7f850072fa2fb8a3f73aa2a2f18ddaaed07224540bd6599a9ab3", func := "secateur/secateurlaw21.GlobPlain", spec := "globPlain", inPlace := ["internal/bytealg.CountString", "internal/bytealg.IndexByteString", "internal/bytealg.IndexString"], named := ["internal/bytealg.MaxLen"], apart := false }
def GlobPlainSaid : Prop := globPlainRow.holds Try.pinned (OpenSpec.ofChange globPlainSpec)

/-- ITS FALSE NEIGHBOUR: 'it returns false'. Refute it at one input. -/
def globPlainWrong : ChangeSpec := { name := "globPlain", fn := fun _ => fun
  | [d1, d2] => { results := [.lit (.bool false)], args := [d1, d2] }
  | _ => none }
def GlobPlainWrongFalsely : Prop := globPlainRow.holds Try.pinned (OpenSpec.ofChange globPlainWrong)

/-- 'secateurlaw21.GlobBeside': WHATEVER THE INPUT: true; the input reads as it did. -/
def globBesideSpec : ChangeSpec := { name := "globBeside", fn := fun _ => fun
  | [d1, d2, d3] => { results := [.lit (.bool true)], args := [d1, d2, d3] }
  | _ => none }
def globBesideRow : OpenClaim := { program := "ytbdaledkkbkhgaa", sum := "ec94ee0b6e9b7f850072fa2fb8a3f73aa2a2f18ddaaed07224540bd6599a9ab3", func := "secateur/secateurlaw21.GlobBeside", spec := "globBeside", inPlace := ["internal/bytealg.CountString", "internal/bytealg.IndexByteString", "internal/bytealg.IndexString"], named := ["internal/bytealg.MaxLen"], apart := false }
def GlobBesideSaid : Prop := globBesideRow.holds Try.pinned (OpenSpec.ofChange globBesideSpec)

/-- ITS FALSE NEIGHBOUR: 'it returns false'. Refute it at one input. -/
def globBesideWrong : ChangeSpec := { name := "globBeside", fn := fun _ => fun
  | [d1, d2, d3] => { results := [.lit (.bool false)], args := [d1, d2, d3] }
  | _ => none }
def GlobBesideWrongFalsely : Prop := globBesideRow.holds Try.pinned (OpenSpec.ofChange globBesideWrong)

/-- 'secateurlaw21.GlobLong': WHATEVER THE INPUT: true; the input reads as it did. -/
def globLongSpec : ChangeSpec := { name := "globLong", fn := fun _ => fun
  | [d1, d2, d3] => { results := [.lit (.bool true)], args := [d1, d2, d3] }
  | _ => none }
def globLongRow : OpenClaim := { program := "ytbdaledkkbkhgaa", sum := "ec94ee0b6e9b7f850072fa2fb8a3f73aa2a2f18ddaaed07224540bd6599a9ab3", func := "secateur/secateurlaw21.GlobLong", spec := "globLong", inPlace := ["internal/bytealg.CountString", "internal/bytealg.IndexByteString", "internal/bytealg.IndexString"], named := ["internal/bytealg.MaxLen"], apart := false }
def GlobLongSaid : Prop := globLongRow.holds Try.pinned (OpenSpec.ofChange globLongSpec)

/-- ITS FALSE NEIGHBOUR: 'it returns false'. Refute it at one input. -/
def globLongWrong : ChangeSpec := { name := "globLong", fn := fun _ => fun
  | [d1, d2, d3] => { results := [.lit (.bool false)], args := [d1, d2, d3] }
  | _ => none }
def GlobLongWrongFalsely : Prop := globLongRow.holds Try.pinned (OpenSpec.ofChange globLongWrong)

/-- 'secateurlaw21.GlobMeets': WHATEVER THE INPUT: true; the input reads as it did. -/
def globMeetsSpec : ChangeSpec := { name := "globMeets", fn := fun _ => fun
  | [d1, d2, d3] => { results := [.lit (.bool true)], args := [d1, d2, d3] }
  | _ => none }
def globMeetsRow : OpenClaim := { program := "ytbdaledkkbkhgaa", sum := "ec94ee0b6e9b7f850072fa2fb8a3f73aa2a2f18ddaaed07224540bd6599a9ab3", func := "secateur/secateurlaw21.GlobMeets", spec := "globMeets", inPlace := ["internal/bytealg.CountString", "internal/bytealg.IndexByteString", "internal/bytealg.IndexString"], named := ["internal/bytealg.MaxLen"], apart := false }
def GlobMeetsSaid : Prop := globMeetsRow.holds Try.pinned (OpenSpec.ofChange globMeetsSpec)

/-- ITS FALSE NEIGHBOUR: 'it returns false'. Refute it at one input. -/
def globMeetsWrong : ChangeSpec := { name := "globMeets", fn := fun _ => fun
  | [d1, d2, d3] => { results := [.lit (.bool false)], args := [d1, d2, d3] }
  | _ => none }
def GlobMeetsWrongFalsely : Prop := globMeetsRow.holds Try.pinned (OpenSpec.ofChange globMeetsWrong)

/- THE SECOND FORM. 'bulk': how many values and letters a reading holds, each counted each time it is reached (what is shared counts as often as it is met; a slice's spare places count too). A statement '..UptoSaid' is the law's where the arguments, and the package variables that the reading takes, are together of bulk at most 1048576: NARROWER than '..Said'. Prove '..Said' where nothing that the law and all that it calls make is longer than what came in: it says more and counts as full. Else prove '..UptoSaid'. A law counts once. -/
mutual
def uptoBulk {H : Type} : DataW H → Nat
  | .lit (.string bytes) => bytes.length + 1
  | .lit _ => 1
  | .nil => 1
  | .ptr d => uptoBulk d + 1
  | .slice elems spare => uptoBulkAll elems + uptoBulkAll spare + 1
  | .agg parts => uptoBulkAll parts + 1
  | .iface _ d => uptoBulk d + 1
  | .map entries => uptoBulkEntries entries + 1
  | .held _ => 1
def uptoBulkAll {H : Type} : List (DataW H) → Nat
  | [] => 0
  | d :: r => uptoBulk d + uptoBulkAll r
def uptoBulkEntries {H : Type} : List (Lit × DataW H) → Nat
  | [] => 0
  | x :: r => uptoBulkEntry x + uptoBulkEntries r
def uptoBulkEntry {H : Type} : Lit × DataW H → Nat
  | (.string bytes, d) => bytes.length + uptoBulk d + 1
  | (_, d) => uptoBulk d + 1
 end
def uptoSmall : (H : Type) → List (DataW H) → Bool := fun _ ds => decide (uptoBulkAll ds ≤ 1048576)
def OpenSpec.upto (s : _root_.Go.ChangeSpec) : _root_.Go.OpenSpec := { _root_.Go.OpenSpec.ofChange s with cond := some uptoSmall }

/-- 'secateurlaw21.GlobMatches', WHERE WHAT IT READS IS OF BULK AT MOST 1048576: true; the input reads as it did. -/
def globMatchesUptoRow : OpenClaim := { program := "ytbdaledkkbkhgaa", sum := "ec94ee0b6e9b7f850072fa2fb8a3f73aa2a2f18ddaaed07224540bd6599a9ab3", func := "secateur/secateurlaw21.GlobMatches", spec := "globMatches", inPlace := ["internal/bytealg.CountString", "internal/bytealg.IndexByteString", "internal/bytealg.IndexString"], named := ["internal/bytealg.MaxLen"], apart := false, narrowed := true }
def GlobMatchesUptoSaid : Prop := globMatchesUptoRow.holds Try.pinned (OpenSpec.upto globMatchesSpec)

/-- 'secateurlaw21.GlobPlain', WHERE WHAT IT READS IS OF BULK AT MOST 1048576: true; the input reads as it did. -/
def globPlainUptoRow : OpenClaim := { program := "ytbdaledkkbkhgaa", sum := "ec94ee0b6e9b7f850072fa2fb8a3f73aa2a2f18ddaaed07224540bd6599a9ab3", func := "secateur/secateurlaw21.GlobPlain", spec := "globPlain", inPlace := ["internal/bytealg.CountString", "internal/bytealg.IndexByteString", "internal/bytealg.IndexString"], named := ["internal/bytealg.MaxLen"], apart := false, narrowed := true }
def GlobPlainUptoSaid : Prop := globPlainUptoRow.holds Try.pinned (OpenSpec.upto globPlainSpec)

/-- 'secateurlaw21.GlobBeside', WHERE WHAT IT READS IS OF BULK AT MOST 1048576: true; the input reads as it did. -/
def globBesideUptoRow : OpenClaim := { program := "ytbdaledkkbkhgaa", sum := "ec94ee0b6e9b7f850072fa2fb8a3f73aa2a2f18ddaaed07224540bd6599a9ab3", func := "secateur/secateurlaw21.GlobBeside", spec := "globBeside", inPlace := ["internal/bytealg.CountString", "internal/bytealg.IndexByteString", "internal/bytealg.IndexString"], named := ["internal/bytealg.MaxLen"], apart := false, narrowed := true }
def GlobBesideUptoSaid : Prop := globBesideUptoRow.holds Try.pinned (OpenSpec.upto globBesideSpec)

/-- 'secateurlaw21.GlobLong', WHERE WHAT IT READS IS OF BULK AT MOST 1048576: true; the input reads as it did. -/
def globLongUptoRow : OpenClaim := { program := "ytbdaledkkbkhgaa", sum := "ec94ee0b6e9b7f850072fa2fb8a3f73aa2a2f18ddaaed07224540bd6599a9ab3", func := "secateur/secateurlaw21.GlobLong", spec := "globLong", inPlace := ["internal/bytealg.CountString", "internal/bytealg.IndexByteString", "internal/bytealg.IndexString"], named := ["internal/bytealg.MaxLen"], apart := false, narrowed := true }
def GlobLongUptoSaid : Prop := globLongUptoRow.holds Try.pinned (OpenSpec.upto globLongSpec)

/-- 'secateurlaw21.GlobMeets', WHERE WHAT IT READS IS OF BULK AT MOST 1048576: true; the input reads as it did. -/
def globMeetsUptoRow : OpenClaim := { program := "ytbdaledkkbkhgaa", sum := "ec94ee0b6e9b7f850072fa2fb8a3f73aa2a2f18ddaaed07224540bd6599a9ab3", func := "secateur/secateurlaw21.GlobMeets", spec := "globMeets", inPlace := ["internal/bytealg.CountString", "internal/bytealg.IndexByteString", "internal/bytealg.IndexString"], named := ["internal/bytealg.MaxLen"], apart := false, narrowed := true }
def GlobMeetsUptoSaid : Prop := globMeetsUptoRow.holds Try.pinned (OpenSpec.upto globMeetsSpec)

end Rows
end Go.Proofs.Ytbdaledkkbkhgaa
