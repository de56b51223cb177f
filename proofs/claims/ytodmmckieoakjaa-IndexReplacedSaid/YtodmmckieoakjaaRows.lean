/-
  No cell of these rows narrows 'for every input' (looked for: loops, veiled, ifaces, maps, wideKeys, modest, calm, conditions, laid).
  DERIVED. THE GIVEN ROWS OF THIS SEAT. 7 by the template 'for every input the law returns true; each argument reads behind the call as it read before'; 0 by the template 'total and deterministic' (their statements: YtodmmckieoakjaaTotals.lean).
  GIVEN WITH THE SEED: the statements are not yours to turn. If you find one false, say at which input.
  Laid BY PROGRAM, IN A SANDBOX (cutbox-rows.mjs): the forced cells as the released guide's own fill.sh prints them over the translation c7b4da04835681ca… (all of the seat's roots in one cut). By AI agents, Wed Nov 11 2026. No macro, syntax, notation, axiom, sorry.
-/
import Derived.Test.YtodmmckieoakjaaChecked
import GoSem.Claim
import GoSem.ClaimJoined
import GoSem.ClaimMapViews
import Derived.JoinedTies
import Derived.KernelRfl
namespace Go.Proofs.Ytodmmckieoakjaa
/- THE CELL 'sum', in the pinned program and in every row, IS THE sha256 OF THE DUMP (.gsa) THAT YtodmmckieoakjaaProg.lean LOADS. Nothing in Lean hashes anything: it is a label: what it is worth is what the hold of that sum in a sandbox is worth. -/
noncomputable def Try.pinned : Pinned := { name := "ytodmmckieoakjaa", sum := "c7b4da04835681cac9125c3836479f81f4911cd436d0d9fda3f36c0decd66334", checked := Try.checked }
namespace Rows
def none {H : Type} : Left H := { results := [], args := [] }

/-- 'sizarlaw35.IndexBuildSpec': WHATEVER THE INPUT: true; the input reads as it did. -/
def indexBuildSpecSpec : ChangeSpec := { name := "indexBuildSpec", fn := fun _ => fun
  | [d] => { results := [.lit (.bool true)], args := [d] }
  | _ => none }
def indexBuildSpecRow : OpenClaim := { program := "ytodmmckieoakjaa", sum := "c7b4da04835681cac9125c3836479f81f4911cd436d0d9fda3f36c0decd66334", func := "sizar/sizarlaw35.IndexBuildSpec", spec := "indexBuildSpec", unfollowed := true, recurses := true, plainKeys := false, apart := false }
def IndexBuildSpecSaid : Prop := indexBuildSpecRow.holds Try.pinned (OpenSpec.ofChange indexBuildSpecSpec)

/-- ITS FALSE NEIGHBOUR: 'it returns false'. Refute it at one input. -/
def indexBuildSpecWrong : ChangeSpec := { name := "indexBuildSpec", fn := fun _ => fun
  | [d] => { results := [.lit (.bool false)], args := [d] }
  | _ => none }
def IndexBuildSpecWrongFalsely : Prop := indexBuildSpecRow.holds Try.pinned (OpenSpec.ofChange indexBuildSpecWrong)

/-- 'sizarlaw35.IndexReplaceSpec': WHATEVER THE INPUT: true; the input reads as it did. -/
def indexReplaceSpecSpec : ChangeSpec := { name := "indexReplaceSpec", fn := fun _ => fun
  | [d1, d2, d3, d4] => { results := [.lit (.bool true)], args := [d1, d2, d3, d4] }
  | _ => none }
def indexReplaceSpecRow : OpenClaim := { program := "ytodmmckieoakjaa", sum := "c7b4da04835681cac9125c3836479f81f4911cd436d0d9fda3f36c0decd66334", func := "sizar/sizarlaw35.IndexReplaceSpec", spec := "indexReplaceSpec", unfollowed := true, recurses := true, plainKeys := false, apart := false }
def IndexReplaceSpecSaid : Prop := indexReplaceSpecRow.holds Try.pinned (OpenSpec.ofChange indexReplaceSpecSpec)

/-- ITS FALSE NEIGHBOUR: 'it returns false'. Refute it at one input. -/
def indexReplaceSpecWrong : ChangeSpec := { name := "indexReplaceSpec", fn := fun _ => fun
  | [d1, d2, d3, d4] => { results := [.lit (.bool false)], args := [d1, d2, d3, d4] }
  | _ => none }
def IndexReplaceSpecWrongFalsely : Prop := indexReplaceSpecRow.holds Try.pinned (OpenSpec.ofChange indexReplaceSpecWrong)

/-- 'sizarlaw35.IndexAffectedSpec': WHATEVER THE INPUT: true; the input reads as it did. -/
def indexAffectedSpecSpec : ChangeSpec := { name := "indexAffectedSpec", fn := fun _ => fun
  | [d1, d2] => { results := [.lit (.bool true)], args := [d1, d2] }
  | _ => none }
def indexAffectedSpecRow : OpenClaim := { program := "ytodmmckieoakjaa", sum := "c7b4da04835681cac9125c3836479f81f4911cd436d0d9fda3f36c0decd66334", func := "sizar/sizarlaw35.IndexAffectedSpec", spec := "indexAffectedSpec", unfollowed := true, recurses := true, plainKeys := false, apart := false }
def IndexAffectedSpecSaid : Prop := indexAffectedSpecRow.holds Try.pinned (OpenSpec.ofChange indexAffectedSpecSpec)

/-- ITS FALSE NEIGHBOUR: 'it returns false'. Refute it at one input. -/
def indexAffectedSpecWrong : ChangeSpec := { name := "indexAffectedSpec", fn := fun _ => fun
  | [d1, d2] => { results := [.lit (.bool false)], args := [d1, d2] }
  | _ => none }
def IndexAffectedSpecWrongFalsely : Prop := indexAffectedSpecRow.holds Try.pinned (OpenSpec.ofChange indexAffectedSpecWrong)

/-- 'sizarlaw35.IndexBuilt': WHATEVER THE INPUT: true; the input reads as it did. -/
def indexBuiltSpec : ChangeSpec := { name := "indexBuilt", fn := fun _ => fun
  | [d] => { results := [.lit (.bool true)], args := [d] }
  | _ => none }
def indexBuiltRow : OpenClaim := { program := "ytodmmckieoakjaa", sum := "c7b4da04835681cac9125c3836479f81f4911cd436d0d9fda3f36c0decd66334", func := "sizar/sizarlaw35.IndexBuilt", spec := "indexBuilt", unfollowed := true, recurses := true, plainKeys := false, apart := false }
def IndexBuiltSaid : Prop := indexBuiltRow.holds Try.pinned (OpenSpec.ofChange indexBuiltSpec)

/-- ITS FALSE NEIGHBOUR: 'it returns false'. Refute it at one input. -/
def indexBuiltWrong : ChangeSpec := { name := "indexBuilt", fn := fun _ => fun
  | [d] => { results := [.lit (.bool false)], args := [d] }
  | _ => none }
def IndexBuiltWrongFalsely : Prop := indexBuiltRow.holds Try.pinned (OpenSpec.ofChange indexBuiltWrong)

/-- 'sizarlaw35.IndexReplaced': WHATEVER THE INPUT: true; the input reads as it did. -/
def indexReplacedSpec : ChangeSpec := { name := "indexReplaced", fn := fun _ => fun
  | [d1, d2, d3] => { results := [.lit (.bool true)], args := [d1, d2, d3] }
  | _ => none }
def indexReplacedRow : OpenClaim := { program := "ytodmmckieoakjaa", sum := "c7b4da04835681cac9125c3836479f81f4911cd436d0d9fda3f36c0decd66334", func := "sizar/sizarlaw35.IndexReplaced", spec := "indexReplaced", unfollowed := true, recurses := true, plainKeys := false, apart := false }
def IndexReplacedSaid : Prop := indexReplacedRow.holds Try.pinned (OpenSpec.ofChange indexReplacedSpec)

/-- ITS FALSE NEIGHBOUR: 'it returns false'. Refute it at one input. -/
def indexReplacedWrong : ChangeSpec := { name := "indexReplaced", fn := fun _ => fun
  | [d1, d2, d3] => { results := [.lit (.bool false)], args := [d1, d2, d3] }
  | _ => none }
def IndexReplacedWrongFalsely : Prop := indexReplacedRow.holds Try.pinned (OpenSpec.ofChange indexReplacedWrong)

/-- 'sizarlaw35.IndexMore': WHATEVER THE INPUT: true; the input reads as it did. -/
def indexMoreSpec : ChangeSpec := { name := "indexMore", fn := fun _ => fun
  | [d1, d2, d3, d4] => { results := [.lit (.bool true)], args := [d1, d2, d3, d4] }
  | _ => none }
def indexMoreRow : OpenClaim := { program := "ytodmmckieoakjaa", sum := "c7b4da04835681cac9125c3836479f81f4911cd436d0d9fda3f36c0decd66334", func := "sizar/sizarlaw35.IndexMore", spec := "indexMore", unfollowed := true, recurses := true, plainKeys := false, apart := false }
def IndexMoreSaid : Prop := indexMoreRow.holds Try.pinned (OpenSpec.ofChange indexMoreSpec)

/-- ITS FALSE NEIGHBOUR: 'it returns false'. Refute it at one input. -/
def indexMoreWrong : ChangeSpec := { name := "indexMore", fn := fun _ => fun
  | [d1, d2, d3, d4] => { results := [.lit (.bool false)], args := [d1, d2, d3, d4] }
  | _ => none }
def IndexMoreWrongFalsely : Prop := indexMoreRow.holds Try.pinned (OpenSpec.ofChange indexMoreWrong)

/-- 'sizarlaw35.IndexFinds': WHATEVER THE INPUT: true; the input reads as it did. -/
def indexFindsSpec : ChangeSpec := { name := "indexFinds", fn := fun _ => fun
  | [d1, d2, d3, d4] => { results := [.lit (.bool true)], args := [d1, d2, d3, d4] }
  | _ => none }
def indexFindsRow : OpenClaim := { program := "ytodmmckieoakjaa", sum := "c7b4da04835681cac9125c3836479f81f4911cd436d0d9fda3f36c0decd66334", func := "sizar/sizarlaw35.IndexFinds", spec := "indexFinds", unfollowed := true, recurses := true, plainKeys := false, apart := false }
def IndexFindsSaid : Prop := indexFindsRow.holds Try.pinned (OpenSpec.ofChange indexFindsSpec)

/-- ITS FALSE NEIGHBOUR: 'it returns false'. Refute it at one input. -/
def indexFindsWrong : ChangeSpec := { name := "indexFinds", fn := fun _ => fun
  | [d1, d2, d3, d4] => { results := [.lit (.bool false)], args := [d1, d2, d3, d4] }
  | _ => none }
def IndexFindsWrongFalsely : Prop := indexFindsRow.holds Try.pinned (OpenSpec.ofChange indexFindsWrong)

/- THE SECOND FORM. 'bulk': how many values and letters a reading holds, each counted each time it is reached (what is shared counts as often as it is met; a slice's spare places count too). A statement '..UptoSaid' is the law's where the arguments, and the package variables that the reading takes, are together of bulk at most 1048576: NARROWER than '..Said'. Prove '..Said' where nothing that the law and all that it calls make is longer than what came in: it says more and counts as full. Else prove '..UptoSaid'. A law counts once. -/
mutual
def uptoBulk {H : Type} : DataW H → Nat
  | .lit (.string bytes) => bytes.length + 1
  | .lit _ => 1
  | .nil => 1
  | .ptr d => uptoBulk d + 1
  | .slice elems spare => uptoBulkAll elems + uptoBulkAll spare + 1
  | .agg parts => uptoBulkAll parts + 1
  | .iface _ d => uptoBulk d + 1
  | .map entries => uptoBulkEntries entries + 1
  | .held _ => 1
def uptoBulkAll {H : Type} : List (DataW H) → Nat
  | [] => 0
  | d :: r => uptoBulk d + uptoBulkAll r
def uptoBulkEntries {H : Type} : List (Lit × DataW H) → Nat
  | [] => 0
  | x :: r => uptoBulkEntry x + uptoBulkEntries r
def uptoBulkEntry {H : Type} : Lit × DataW H → Nat
  | (.string bytes, d) => bytes.length + uptoBulk d + 1
  | (_, d) => uptoBulk d + 1
 end
def uptoSmall : (H : Type) → List (DataW H) → Bool := fun _ ds => decide (uptoBulkAll ds ≤ 1048576)
def OpenSpec.upto (s : _root_.Go.ChangeSpec) : _root_.Go.OpenSpec := { _root_.Go.OpenSpec.ofChange s with cond := some uptoSmall }

/-- 'sizarlaw35.IndexBuildSpec', WHERE WHAT IT READS IS OF BULK AT MOST 1048576: true; the input reads as it did. -/
def indexBuildSpecUptoRow : OpenClaim := { program := "ytodmmckieoakjaa", sum := "c7b4da04835681cac9125c3836479f81f4911cd436d0d9fda3f36c0decd66334", func := "sizar/sizarlaw35.IndexBuildSpec", spec := "indexBuildSpec", unfollowed := true, recurses := true, plainKeys := false, apart := false, narrowed := true }
def IndexBuildSpecUptoSaid : Prop := indexBuildSpecUptoRow.holds Try.pinned (OpenSpec.upto indexBuildSpecSpec)

/-- 'sizarlaw35.IndexReplaceSpec', WHERE WHAT IT READS IS OF BULK AT MOST 1048576: true; the input reads as it did. -/
def indexReplaceSpecUptoRow : OpenClaim := { program := "ytodmmckieoakjaa", sum := "c7b4da04835681cac9125c3836479f81f4911cd436d0d9fda3f36c0decd66334", func := "sizar/sizarlaw35.IndexReplaceSpec", spec := "indexReplaceSpec", unfollowed := true, recurses := true, plainKeys := false, apart := false, narrowed := true }
def IndexReplaceSpecUptoSaid : Prop := indexReplaceSpecUptoRow.holds Try.pinned (OpenSpec.upto indexReplaceSpecSpec)

/-- 'sizarlaw35.IndexAffectedSpec', WHERE WHAT IT READS IS OF BULK AT MOST 1048576: true; the input reads as it did. -/
def indexAffectedSpecUptoRow : OpenClaim := { program := "ytodmmckieoakjaa", sum := "c7b4da04835681cac9125c3836479f81f4911cd436d0d9fda3f36c0decd66334", func := "sizar/sizarlaw35.IndexAffectedSpec", spec := "indexAffectedSpec", unfollowed := true, recurses := true, plainKeys := false, apart := false, narrowed := true }
def IndexAffectedSpecUptoSaid : Prop := indexAffectedSpecUptoRow.holds Try.pinned (OpenSpec.upto indexAffectedSpecSpec)

/-- 'sizarlaw35.IndexBuilt', WHERE WHAT IT READS IS OF BULK AT MOST 1048576: true; the input reads as it did. -/
def indexBuiltUptoRow : OpenClaim := { program := "ytodmmckieoakjaa", sum := "c7b4da04835681cac9125c3836479f81f4911cd436d0d9fda3f36c0decd66334", func := "sizar/sizarlaw35.IndexBuilt", spec := "indexBuilt", unfollowed := true, recurses := true, plainKeys := false, apart := false, narrowed := true }
def IndexBuiltUptoSaid : Prop := indexBuiltUptoRow.holds Try.pinned (OpenSpec.upto indexBuiltSpec)

/-- 'sizarlaw35.IndexReplaced', WHERE WHAT IT READS IS OF BULK AT MOST 1048576: true; the input reads as it did. -/
def indexReplacedUptoRow : OpenClaim := { program := "ytodmmckieoakjaa", sum := "c7b4da04835681cac9125c3836479f81f4911cd436d0d9fda3f36c0decd66334", func := "sizar/sizarlaw35.IndexReplaced", spec := "indexReplaced", unfollowed := true, recurses := true, plainKeys := false, apart := false, narrowed := true }
def IndexReplacedUptoSaid : Prop := indexReplacedUptoRow.holds Try.pinned (OpenSpec.upto indexReplacedSpec)

/-- 'sizarlaw35.IndexMore', WHERE WHAT IT READS IS OF BULK AT MOST 1048576: true; the input reads as it did. -/
def indexMoreUptoRow : OpenClaim := { program := "ytodmmckieoakjaa", sum := "c7b4da04835681cac9125c3836479f81f4911cd436d0d9fda3f36c0decd66334", func := "sizar/sizarlaw35.IndexMore", spec := "indexMore", unfollowed := true, recurses := true, plainKeys := false, apart := false, narrowed := true }
def IndexMoreUptoSaid : Prop := indexMoreUptoRow.holds Try.pinned (OpenSpec.upto indexMoreSpec)

/-- 'sizarlaw35.IndexFinds', WHERE WHAT IT READS IS OF BULK AT MOST 1048576: true; the input reads as it did. -/
def indexFindsUptoRow : OpenClaim := { program := "ytodmmckieoakjaa", sum := "c7b4da04835681cac9125c3836479f81f4911cd436d0d9fda3f36c0decd66334", func := "sizar/sizarlaw35.IndexFinds", spec := "indexFinds", unfollowed := true, recurses := true, plainKeys := false, apart := false, narrowed := true }
def IndexFindsUptoSaid : Prop := indexFindsUptoRow.holds Try.pinned (OpenSpec.upto indexFindsSpec)

end Rows
end Go.Proofs.Ytodmmckieoakjaa
