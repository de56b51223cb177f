/-
  NARROWER THAN 'FOR EVERY INPUT', by the rows' own cells (each row's printed sentence says how): RulesHoldsSpec: loops, laid · RulesListsSpec: loops, laid · RulesBoolean: loops, laid · RulesMonotone: loops, laid · RulesAtoms: loops, laid · RulesOthers: loops, laid · RulesDual: loops, laid.
  DERIVED. THE GIVEN ROWS OF THIS SEAT. 7 by the template 'for every input the law returns true; each argument reads behind the call as it read before'; 0 by the template 'total and deterministic' (their statements: YtabocfninjankaaDoorTotals.lean).
  GIVEN WITH THE SEED: the statements are not yours to turn. If you find one false, say at which input.
  Laid BY PROGRAM, IN A SANDBOX (cutbox-rows.mjs): the forced cells as the released guide's own fill.sh prints them over the translation 270f36c2da155f5f… (all of the seat's roots in one cut). By AI agents, Wed Nov 11 2026. No macro, syntax, notation, axiom, sorry.
-/
import Derived.Test.YtabocfninjankaaDoorChecked
import GoSem.Claim
import GoSem.ClaimJoined
import GoSem.ClaimMapViews
import Derived.JoinedTies
import Derived.KernelRfl
namespace Go.Proofs.YtabocfninjankaaDoor
/- THE CELL 'sum', in the pinned program and in every row, IS THE sha256 OF THE DUMP (.gsa) THAT YtabocfninjankaaDoorProg.lean LOADS. Nothing in Lean hashes anything: it is a label: what it is worth is what the hold of that sum in a sandbox is worth. -/
noncomputable def Tryd.pinned : Pinned := { name := "ytabocfninjankaadoor", sum := "270f36c2da155f5f5ecf6cdfdf061abd2afddb4dc2f9a7e357f24d48b8273daa", checked := Tryd.checked }
namespace Rows
def none {H : Type} : Left H := { results := [], args := [] }

/- WHAT THE LISTED PACKAGE-LEVEL VARIABLES READ AS WHEN THE CALL BEGINS. Each datum BY PROGRAM (the guide's laid-datum.mjs) off the statement by which the dump's own 'gosem.cut.vars' lays the variable. In a bare row this is a premise. The card (YtabocfninjankaaDoorCards.lean) ties it to the program's text. -/
def laid_sizar_rules_kinds {H : Type} : DataW H := .iface "func table" (.agg [.agg [.lit (.bool false), .lit (.bool false), .lit (.bool false), .lit (.bool false), .nil, .nil], .agg [.lit (.bool false), .lit (.bool false), .lit (.bool false), .lit (.bool true), .iface "func" (.lit (.string [115, 105, 122, 97, 114, 47, 114, 117, 108, 101, 115, 46, 107, 105, 110, 100, 115, 36, 49])), .iface "func" (.lit (.string [115, 105, 122, 97, 114, 47, 114, 117, 108, 101, 115, 46, 107, 105, 110, 100, 115, 36, 50]))], .agg [.lit (.bool false), .lit (.bool false), .lit (.bool false), .lit (.bool true), .iface "func" (.lit (.string [115, 105, 122, 97, 114, 47, 114, 117, 108, 101, 115, 46, 107, 105, 110, 100, 115, 36, 51])), .iface "func" (.lit (.string [115, 105, 122, 97, 114, 47, 114, 117, 108, 101, 115, 46, 107, 105, 110, 100, 115, 36, 52]))], .agg [.lit (.bool false), .lit (.bool true), .lit (.bool false), .lit (.bool true), .iface "func" (.lit (.string [115, 105, 122, 97, 114, 47, 114, 117, 108, 101, 115, 46, 107, 105, 110, 100, 115, 36, 53])), .iface "func" (.lit (.string [115, 105, 122, 97, 114, 47, 114, 117, 108, 101, 115, 46, 107, 105, 110, 100, 115, 36, 54]))], .agg [.lit (.bool false), .lit (.bool false), .lit (.bool false), .lit (.bool true), .iface "func" (.lit (.string [115, 105, 122, 97, 114, 47, 114, 117, 108, 101, 115, 46, 107, 105, 110, 100, 115, 36, 55])), .iface "func" (.lit (.string [115, 105, 122, 97, 114, 47, 114, 117, 108, 101, 115, 46, 107, 105, 110, 100, 115, 36, 56]))], .agg [.lit (.bool true), .lit (.bool true), .lit (.bool false), .lit (.bool false), .iface "func" (.lit (.string [115, 105, 122, 97, 114, 47, 114, 117, 108, 101, 115, 46, 107, 105, 110, 100, 115, 36, 57])), .iface "func" (.lit (.string [115, 105, 122, 97, 114, 47, 114, 117, 108, 101, 115, 46, 107, 105, 110, 100, 115, 36, 49, 48]))], .agg [.lit (.bool true), .lit (.bool true), .lit (.bool false), .lit (.bool false), .iface "func" (.lit (.string [115, 105, 122, 97, 114, 47, 114, 117, 108, 101, 115, 46, 107, 105, 110, 100, 115, 36, 49, 49])), .iface "func" (.lit (.string [115, 105, 122, 97, 114, 47, 114, 117, 108, 101, 115, 46, 107, 105, 110, 100, 115, 36, 49, 50]))], .agg [.lit (.bool false), .lit (.bool true), .lit (.bool false), .lit (.bool false), .iface "func" (.lit (.string [115, 105, 122, 97, 114, 47, 114, 117, 108, 101, 115, 46, 107, 105, 110, 100, 115, 36, 49, 51])), .iface "func" (.lit (.string [115, 105, 122, 97, 114, 47, 114, 117, 108, 101, 115, 46, 107, 105, 110, 100, 115, 36, 49, 52]))], .agg [.lit (.bool false), .lit (.bool true), .lit (.bool true), .lit (.bool false), .iface "func" (.lit (.string [115, 105, 122, 97, 114, 47, 114, 117, 108, 101, 115, 46, 107, 105, 110, 100, 115, 36, 49, 53])), .iface "func" (.lit (.string [115, 105, 122, 97, 114, 47, 114, 117, 108, 101, 115, 46, 107, 105, 110, 100, 115, 36, 49, 54]))], .agg [.lit (.bool true), .lit (.bool false), .lit (.bool false), .lit (.bool false), .iface "func" (.lit (.string [115, 105, 122, 97, 114, 47, 114, 117, 108, 101, 115, 46, 99, 111, 117, 114, 115, 101])), .iface "func" (.lit (.string [115, 105, 122, 97, 114, 47, 114, 117, 108, 101, 115, 46, 107, 105, 110, 100, 115, 36, 49, 55]))]])

/-- 'sizarlaw12.RulesHoldsSpec': WHATEVER THE INPUT: true; the input reads as it did. -/
def rulesHoldsSpecSpec : ChangeSpec := { name := "rulesHoldsSpec", fn := fun _ => fun
  | [d1, d2] => { results := [.lit (.bool true)], args := [d1, d2] }
  | _ => none }
def rulesHoldsSpecRow : OpenClaim := { program := "ytabocfninjankaadoor", sum := "270f36c2da155f5f5ecf6cdfdf061abd2afddb4dc2f9a7e357f24d48b8273daa", func := "sizar/sizarlaw12.RulesHoldsSpec", spec := "rulesHoldsSpec", unfollowed := true, recurses := true, named := ["sizar/rules.kinds"], loops := true, plainKeys := false, apart := false, laid := [("sizar/rules.kinds", laid_sizar_rules_kinds)] }
def RulesHoldsSpecSaid : Prop := rulesHoldsSpecRow.holds Tryd.pinned (OpenSpec.ofChange rulesHoldsSpecSpec)

/-- ITS FALSE NEIGHBOUR: 'it returns false'. Refute it at one input. -/
def rulesHoldsSpecWrong : ChangeSpec := { name := "rulesHoldsSpec", fn := fun _ => fun
  | [d1, d2] => { results := [.lit (.bool false)], args := [d1, d2] }
  | _ => none }
def RulesHoldsSpecWrongFalsely : Prop := rulesHoldsSpecRow.holds Tryd.pinned (OpenSpec.ofChange rulesHoldsSpecWrong)

/-- 'sizarlaw12.RulesListsSpec': WHATEVER THE INPUT: true; the input reads as it did. -/
def rulesListsSpecSpec : ChangeSpec := { name := "rulesListsSpec", fn := fun _ => fun
  | [d] => { results := [.lit (.bool true)], args := [d] }
  | _ => none }
def rulesListsSpecRow : OpenClaim := { program := "ytabocfninjankaadoor", sum := "270f36c2da155f5f5ecf6cdfdf061abd2afddb4dc2f9a7e357f24d48b8273daa", func := "sizar/sizarlaw12.RulesListsSpec", spec := "rulesListsSpec", unfollowed := true, recurses := true, named := ["sizar/rules.kinds"], loops := true, plainKeys := false, apart := false, laid := [("sizar/rules.kinds", laid_sizar_rules_kinds)] }
def RulesListsSpecSaid : Prop := rulesListsSpecRow.holds Tryd.pinned (OpenSpec.ofChange rulesListsSpecSpec)

/-- ITS FALSE NEIGHBOUR: 'it returns false'. Refute it at one input. -/
def rulesListsSpecWrong : ChangeSpec := { name := "rulesListsSpec", fn := fun _ => fun
  | [d] => { results := [.lit (.bool false)], args := [d] }
  | _ => none }
def RulesListsSpecWrongFalsely : Prop := rulesListsSpecRow.holds Tryd.pinned (OpenSpec.ofChange rulesListsSpecWrong)

/-- 'sizarlaw12.RulesBoolean': WHATEVER THE INPUT: true; the input reads as it did. -/
def rulesBooleanSpec : ChangeSpec := { name := "rulesBoolean", fn := fun _ => fun
  | [d1, d2, d3] => { results := [.lit (.bool true)], args := [d1, d2, d3] }
  | _ => none }
def rulesBooleanRow : OpenClaim := { program := "ytabocfninjankaadoor", sum := "270f36c2da155f5f5ecf6cdfdf061abd2afddb4dc2f9a7e357f24d48b8273daa", func := "sizar/sizarlaw12.RulesBoolean", spec := "rulesBoolean", unfollowed := true, recurses := true, named := ["sizar/rules.kinds"], loops := true, plainKeys := false, apart := false, laid := [("sizar/rules.kinds", laid_sizar_rules_kinds)] }
def RulesBooleanSaid : Prop := rulesBooleanRow.holds Tryd.pinned (OpenSpec.ofChange rulesBooleanSpec)

/-- ITS FALSE NEIGHBOUR: 'it returns false'. Refute it at one input. -/
def rulesBooleanWrong : ChangeSpec := { name := "rulesBoolean", fn := fun _ => fun
  | [d1, d2, d3] => { results := [.lit (.bool false)], args := [d1, d2, d3] }
  | _ => none }
def RulesBooleanWrongFalsely : Prop := rulesBooleanRow.holds Tryd.pinned (OpenSpec.ofChange rulesBooleanWrong)

/-- 'sizarlaw12.RulesMonotone': WHATEVER THE INPUT: true; the input reads as it did. -/
def rulesMonotoneSpec : ChangeSpec := { name := "rulesMonotone", fn := fun _ => fun
  | [d1, d2, d3] => { results := [.lit (.bool true)], args := [d1, d2, d3] }
  | _ => none }
def rulesMonotoneRow : OpenClaim := { program := "ytabocfninjankaadoor", sum := "270f36c2da155f5f5ecf6cdfdf061abd2afddb4dc2f9a7e357f24d48b8273daa", func := "sizar/sizarlaw12.RulesMonotone", spec := "rulesMonotone", unfollowed := true, recurses := true, named := ["sizar/rules.kinds"], loops := true, plainKeys := false, apart := false, laid := [("sizar/rules.kinds", laid_sizar_rules_kinds)] }
def RulesMonotoneSaid : Prop := rulesMonotoneRow.holds Tryd.pinned (OpenSpec.ofChange rulesMonotoneSpec)

/-- ITS FALSE NEIGHBOUR: 'it returns false'. Refute it at one input. -/
def rulesMonotoneWrong : ChangeSpec := { name := "rulesMonotone", fn := fun _ => fun
  | [d1, d2, d3] => { results := [.lit (.bool false)], args := [d1, d2, d3] }
  | _ => none }
def RulesMonotoneWrongFalsely : Prop := rulesMonotoneRow.holds Tryd.pinned (OpenSpec.ofChange rulesMonotoneWrong)

/-- 'sizarlaw12.RulesAtoms': WHATEVER THE INPUT: true; the input reads as it did. -/
def rulesAtomsSpec : ChangeSpec := { name := "rulesAtoms", fn := fun _ => fun
  | [d1, d2, d3] => { results := [.lit (.bool true)], args := [d1, d2, d3] }
  | _ => none }
def rulesAtomsRow : OpenClaim := { program := "ytabocfninjankaadoor", sum := "270f36c2da155f5f5ecf6cdfdf061abd2afddb4dc2f9a7e357f24d48b8273daa", func := "sizar/sizarlaw12.RulesAtoms", spec := "rulesAtoms", unfollowed := true, recurses := true, named := ["sizar/rules.kinds"], loops := true, plainKeys := false, apart := false, laid := [("sizar/rules.kinds", laid_sizar_rules_kinds)] }
def RulesAtomsSaid : Prop := rulesAtomsRow.holds Tryd.pinned (OpenSpec.ofChange rulesAtomsSpec)

/-- ITS FALSE NEIGHBOUR: 'it returns false'. Refute it at one input. -/
def rulesAtomsWrong : ChangeSpec := { name := "rulesAtoms", fn := fun _ => fun
  | [d1, d2, d3] => { results := [.lit (.bool false)], args := [d1, d2, d3] }
  | _ => none }
def RulesAtomsWrongFalsely : Prop := rulesAtomsRow.holds Tryd.pinned (OpenSpec.ofChange rulesAtomsWrong)

/-- 'sizarlaw12.RulesOthers': WHATEVER THE INPUT: true; the input reads as it did. -/
def rulesOthersSpec : ChangeSpec := { name := "rulesOthers", fn := fun _ => fun
  | [d1, d2] => { results := [.lit (.bool true)], args := [d1, d2] }
  | _ => none }
def rulesOthersRow : OpenClaim := { program := "ytabocfninjankaadoor", sum := "270f36c2da155f5f5ecf6cdfdf061abd2afddb4dc2f9a7e357f24d48b8273daa", func := "sizar/sizarlaw12.RulesOthers", spec := "rulesOthers", unfollowed := true, recurses := true, named := ["sizar/rules.kinds"], loops := true, plainKeys := false, apart := false, laid := [("sizar/rules.kinds", laid_sizar_rules_kinds)] }
def RulesOthersSaid : Prop := rulesOthersRow.holds Tryd.pinned (OpenSpec.ofChange rulesOthersSpec)

/-- ITS FALSE NEIGHBOUR: 'it returns false'. Refute it at one input. -/
def rulesOthersWrong : ChangeSpec := { name := "rulesOthers", fn := fun _ => fun
  | [d1, d2] => { results := [.lit (.bool false)], args := [d1, d2] }
  | _ => none }
def RulesOthersWrongFalsely : Prop := rulesOthersRow.holds Tryd.pinned (OpenSpec.ofChange rulesOthersWrong)

/-- 'sizarlaw12.RulesDual': WHATEVER THE INPUT: true; the input reads as it did. -/
def rulesDualSpec : ChangeSpec := { name := "rulesDual", fn := fun _ => fun
  | [d1, d2] => { results := [.lit (.bool true)], args := [d1, d2] }
  | _ => none }
def rulesDualRow : OpenClaim := { program := "ytabocfninjankaadoor", sum := "270f36c2da155f5f5ecf6cdfdf061abd2afddb4dc2f9a7e357f24d48b8273daa", func := "sizar/sizarlaw12.RulesDual", spec := "rulesDual", unfollowed := true, recurses := true, named := ["sizar/rules.kinds"], loops := true, plainKeys := false, apart := false, laid := [("sizar/rules.kinds", laid_sizar_rules_kinds)] }
def RulesDualSaid : Prop := rulesDualRow.holds Tryd.pinned (OpenSpec.ofChange rulesDualSpec)

/-- ITS FALSE NEIGHBOUR: 'it returns false'. Refute it at one input. -/
def rulesDualWrong : ChangeSpec := { name := "rulesDual", fn := fun _ => fun
  | [d1, d2] => { results := [.lit (.bool false)], args := [d1, d2] }
  | _ => none }
def RulesDualWrongFalsely : Prop := rulesDualRow.holds Tryd.pinned (OpenSpec.ofChange rulesDualWrong)

/- THE SECOND FORM. 'bulk': how many values and letters a reading holds, each counted each time it is reached (what is shared counts as often as it is met; a slice's spare places count too). A statement '..UptoSaid' is the law's where the arguments, and the package variables that the reading takes, are together of bulk at most 1048576: NARROWER than '..Said'. Prove '..Said' where nothing that the law and all that it calls make is longer than what came in: it says more and counts as full. Else prove '..UptoSaid'. A law counts once. -/
mutual
def uptoBulk {H : Type} : DataW H → Nat
  | .lit (.string bytes) => bytes.length + 1
  | .lit _ => 1
  | .nil => 1
  | .ptr d => uptoBulk d + 1
  | .slice elems spare => uptoBulkAll elems + uptoBulkAll spare + 1
  | .agg parts => uptoBulkAll parts + 1
  | .iface _ d => uptoBulk d + 1
  | .map entries => uptoBulkEntries entries + 1
  | .held _ => 1
def uptoBulkAll {H : Type} : List (DataW H) → Nat
  | [] => 0
  | d :: r => uptoBulk d + uptoBulkAll r
def uptoBulkEntries {H : Type} : List (Lit × DataW H) → Nat
  | [] => 0
  | x :: r => uptoBulkEntry x + uptoBulkEntries r
def uptoBulkEntry {H : Type} : Lit × DataW H → Nat
  | (.string bytes, d) => bytes.length + uptoBulk d + 1
  | (_, d) => uptoBulk d + 1
 end
def uptoSmall : (H : Type) → List (DataW H) → Bool := fun _ ds => decide (uptoBulkAll ds ≤ 1048576)
def OpenSpec.upto (s : _root_.Go.ChangeSpec) : _root_.Go.OpenSpec := { _root_.Go.OpenSpec.ofChange s with cond := some uptoSmall }

/-- 'sizarlaw12.RulesHoldsSpec', WHERE WHAT IT READS IS OF BULK AT MOST 1048576: true; the input reads as it did. -/
def rulesHoldsSpecUptoRow : OpenClaim := { program := "ytabocfninjankaadoor", sum := "270f36c2da155f5f5ecf6cdfdf061abd2afddb4dc2f9a7e357f24d48b8273daa", func := "sizar/sizarlaw12.RulesHoldsSpec", spec := "rulesHoldsSpec", unfollowed := true, recurses := true, named := ["sizar/rules.kinds"], loops := true, plainKeys := false, apart := false, laid := [("sizar/rules.kinds", laid_sizar_rules_kinds)], narrowed := true }
def RulesHoldsSpecUptoSaid : Prop := rulesHoldsSpecUptoRow.holds Tryd.pinned (OpenSpec.upto rulesHoldsSpecSpec)

/-- 'sizarlaw12.RulesListsSpec', WHERE WHAT IT READS IS OF BULK AT MOST 1048576: true; the input reads as it did. -/
def rulesListsSpecUptoRow : OpenClaim := { program := "ytabocfninjankaadoor", sum := "270f36c2da155f5f5ecf6cdfdf061abd2afddb4dc2f9a7e357f24d48b8273daa", func := "sizar/sizarlaw12.RulesListsSpec", spec := "rulesListsSpec", unfollowed := true, recurses := true, named := ["sizar/rules.kinds"], loops := true, plainKeys := false, apart := false, laid := [("sizar/rules.kinds", laid_sizar_rules_kinds)], narrowed := true }
def RulesListsSpecUptoSaid : Prop := rulesListsSpecUptoRow.holds Tryd.pinned (OpenSpec.upto rulesListsSpecSpec)

/-- 'sizarlaw12.RulesBoolean', WHERE WHAT IT READS IS OF BULK AT MOST 1048576: true; the input reads as it did. -/
def rulesBooleanUptoRow : OpenClaim := { program := "ytabocfninjankaadoor", sum := "270f36c2da155f5f5ecf6cdfdf061abd2afddb4dc2f9a7e357f24d48b8273daa", func := "sizar/sizarlaw12.RulesBoolean", spec := "rulesBoolean", unfollowed := true, recurses := true, named := ["sizar/rules.kinds"], loops := true, plainKeys := false, apart := false, laid := [("sizar/rules.kinds", laid_sizar_rules_kinds)], narrowed := true }
def RulesBooleanUptoSaid : Prop := rulesBooleanUptoRow.holds Tryd.pinned (OpenSpec.upto rulesBooleanSpec)

/-- 'sizarlaw12.RulesMonotone', WHERE WHAT IT READS IS OF BULK AT MOST 1048576: true; the input reads as it did. -/
def rulesMonotoneUptoRow : OpenClaim := { program := "ytabocfninjankaadoor", sum := "270f36c2da155f5f5ecf6cdfdf061abd2afddb4dc2f9a7e357f24d48b8273daa", func := "sizar/sizarlaw12.RulesMonotone", spec := "rulesMonotone", unfollowed := true, recurses := true, named := ["sizar/rules.kinds"], loops := true, plainKeys := false, apart := false, laid := [("sizar/rules.kinds", laid_sizar_rules_kinds)], narrowed := true }
def RulesMonotoneUptoSaid : Prop := rulesMonotoneUptoRow.holds Tryd.pinned (OpenSpec.upto rulesMonotoneSpec)

/-- 'sizarlaw12.RulesAtoms', WHERE WHAT IT READS IS OF BULK AT MOST 1048576: true; the input reads as it did. -/
def rulesAtomsUptoRow : OpenClaim := { program := "ytabocfninjankaadoor", sum := "270f36c2da155f5f5ecf6cdfdf061abd2afddb4dc2f9a7e357f24d48b8273daa", func := "sizar/sizarlaw12.RulesAtoms", spec := "rulesAtoms", unfollowed := true, recurses := true, named := ["sizar/rules.kinds"], loops := true, plainKeys := false, apart := false, laid := [("sizar/rules.kinds", laid_sizar_rules_kinds)], narrowed := true }
def RulesAtomsUptoSaid : Prop := rulesAtomsUptoRow.holds Tryd.pinned (OpenSpec.upto rulesAtomsSpec)

/-- 'sizarlaw12.RulesOthers', WHERE WHAT IT READS IS OF BULK AT MOST 1048576: true; the input reads as it did. -/
def rulesOthersUptoRow : OpenClaim := { program := "ytabocfninjankaadoor", sum := "270f36c2da155f5f5ecf6cdfdf061abd2afddb4dc2f9a7e357f24d48b8273daa", func := "sizar/sizarlaw12.RulesOthers", spec := "rulesOthers", unfollowed := true, recurses := true, named := ["sizar/rules.kinds"], loops := true, plainKeys := false, apart := false, laid := [("sizar/rules.kinds", laid_sizar_rules_kinds)], narrowed := true }
def RulesOthersUptoSaid : Prop := rulesOthersUptoRow.holds Tryd.pinned (OpenSpec.upto rulesOthersSpec)

/-- 'sizarlaw12.RulesDual', WHERE WHAT IT READS IS OF BULK AT MOST 1048576: true; the input reads as it did. -/
def rulesDualUptoRow : OpenClaim := { program := "ytabocfninjankaadoor", sum := "270f36c2da155f5f5ecf6cdfdf061abd2afddb4dc2f9a7e357f24d48b8273daa", func := "sizar/sizarlaw12.RulesDual", spec := "rulesDual", unfollowed := true, recurses := true, named := ["sizar/rules.kinds"], loops := true, plainKeys := false, apart := false, laid := [("sizar/rules.kinds", laid_sizar_rules_kinds)], narrowed := true }
def RulesDualUptoSaid : Prop := rulesDualUptoRow.holds Tryd.pinned (OpenSpec.upto rulesDualSpec)

end Rows
end Go.Proofs.YtabocfninjankaaDoor
