/-
  NARROWER THAN 'FOR EVERY INPUT', by the rows' own cells (each row's printed sentence says how): RewriteTells: loops · RewriteBack: loops · TreeTells: loops · RefsTell: loops · DepsTell: loops · DepsMeet: loops · KnotsTell: loops · KnotsOrder: loops.
  DERIVED. THE GIVEN ROWS OF THIS SEAT. 29 by the template 'for every input the law returns true; each argument reads behind the call as it read before'; 0 by the template 'total and deterministic' (their statements: YtkgjfcjciigcgaaTotals.lean).
  GIVEN WITH THE SEED: the statements are not yours to turn. If you find one false, say at which input.
  Laid BY PROGRAM, IN A SANDBOX (cutbox-rows.mjs): the forced cells as the released guide's own fill.sh prints them over the translation f1ddf06f8879b33b… (all of the seat's roots in one cut). By AI agents, Wed Nov 11 2026. No macro, syntax, notation, axiom, sorry.
-/
import Derived.Test.YtkgjfcjciigcgaaChecked
import GoSem.Claim
import GoSem.ClaimJoined
import GoSem.ClaimMapViews
import Derived.JoinedTies
import Derived.KernelRfl
namespace Go.Proofs.Ytkgjfcjciigcgaa
/- THE CELL 'sum', in the pinned program and in every row, IS THE sha256 OF THE DUMP (.gsa) THAT YtkgjfcjciigcgaaProg.lean LOADS. Nothing in Lean hashes anything: it is a label: what it is worth is what the hold of that sum in a sandbox is worth. -/
noncomputable def Try.pinned : Pinned := { name := "ytkgjfcjciigcgaa", sum := "f1ddf06f8879b33b3884d8f82bdd90ff977f6161d3227d235b37433967fa282d", checked := Try.checked }
namespace Rows
def none {H : Type} : Left H := { results := [], args := [] }

/-- 'abacistlaw9.RewriteTells': WHATEVER THE INPUT: true; the input reads as it did. -/
def rewriteTellsSpec : ChangeSpec := { name := "rewriteTells", fn := fun _ => fun
  | [d1, d2, d3] => { results := [.lit (.bool true)], args := [d1, d2, d3] }
  | _ => none }
def rewriteTellsRow : OpenClaim := { program := "ytkgjfcjciigcgaa", sum := "f1ddf06f8879b33b3884d8f82bdd90ff977f6161d3227d235b37433967fa282d", func := "abacist/abacistlaw9.RewriteTells", spec := "rewriteTells", unfollowed := true, recurses := true, loops := true, plainKeys := false, apart := false }
def RewriteTellsSaid : Prop := rewriteTellsRow.holds Try.pinned (OpenSpec.ofChange rewriteTellsSpec)

/-- ITS FALSE NEIGHBOUR: 'it returns false'. Refute it at one input. -/
def rewriteTellsWrong : ChangeSpec := { name := "rewriteTells", fn := fun _ => fun
  | [d1, d2, d3] => { results := [.lit (.bool false)], args := [d1, d2, d3] }
  | _ => none }
def RewriteTellsWrongFalsely : Prop := rewriteTellsRow.holds Try.pinned (OpenSpec.ofChange rewriteTellsWrong)

/-- 'abacistlaw9.RewriteBack': WHATEVER THE INPUT: true; the input reads as it did. -/
def rewriteBackSpec : ChangeSpec := { name := "rewriteBack", fn := fun _ => fun
  | [d1, d2, d3] => { results := [.lit (.bool true)], args := [d1, d2, d3] }
  | _ => none }
def rewriteBackRow : OpenClaim := { program := "ytkgjfcjciigcgaa", sum := "f1ddf06f8879b33b3884d8f82bdd90ff977f6161d3227d235b37433967fa282d", func := "abacist/abacistlaw9.RewriteBack", spec := "rewriteBack", unfollowed := true, recurses := true, loops := true, plainKeys := false, apart := false }
def RewriteBackSaid : Prop := rewriteBackRow.holds Try.pinned (OpenSpec.ofChange rewriteBackSpec)

/-- ITS FALSE NEIGHBOUR: 'it returns false'. Refute it at one input. -/
def rewriteBackWrong : ChangeSpec := { name := "rewriteBack", fn := fun _ => fun
  | [d1, d2, d3] => { results := [.lit (.bool false)], args := [d1, d2, d3] }
  | _ => none }
def RewriteBackWrongFalsely : Prop := rewriteBackRow.holds Try.pinned (OpenSpec.ofChange rewriteBackWrong)

/-- 'abacistlaw15.StampOrder': WHATEVER THE INPUT: true; the input reads as it did. -/
def stampOrderSpec : ChangeSpec := { name := "stampOrder", fn := fun _ => fun
  | [d1, d2, d3] => { results := [.lit (.bool true)], args := [d1, d2, d3] }
  | _ => none }
def stampOrderRow : OpenClaim := { program := "ytkgjfcjciigcgaa", sum := "f1ddf06f8879b33b3884d8f82bdd90ff977f6161d3227d235b37433967fa282d", func := "abacist/abacistlaw15.StampOrder", spec := "stampOrder", plainKeys := false, apart := false }
def StampOrderSaid : Prop := stampOrderRow.holds Try.pinned (OpenSpec.ofChange stampOrderSpec)

/-- ITS FALSE NEIGHBOUR: 'it returns false'. Refute it at one input. -/
def stampOrderWrong : ChangeSpec := { name := "stampOrder", fn := fun _ => fun
  | [d1, d2, d3] => { results := [.lit (.bool false)], args := [d1, d2, d3] }
  | _ => none }
def StampOrderWrongFalsely : Prop := stampOrderRow.holds Try.pinned (OpenSpec.ofChange stampOrderWrong)

/-- 'abacistlaw15.StampGoes': WHATEVER THE INPUT: true; the input reads as it did. -/
def stampGoesSpec : ChangeSpec := { name := "stampGoes", fn := fun _ => fun
  | [d1, d2, d3] => { results := [.lit (.bool true)], args := [d1, d2, d3] }
  | _ => none }
def stampGoesRow : OpenClaim := { program := "ytkgjfcjciigcgaa", sum := "f1ddf06f8879b33b3884d8f82bdd90ff977f6161d3227d235b37433967fa282d", func := "abacist/abacistlaw15.StampGoes", spec := "stampGoes", plainKeys := false, apart := false }
def StampGoesSaid : Prop := stampGoesRow.holds Try.pinned (OpenSpec.ofChange stampGoesSpec)

/-- ITS FALSE NEIGHBOUR: 'it returns false'. Refute it at one input. -/
def stampGoesWrong : ChangeSpec := { name := "stampGoes", fn := fun _ => fun
  | [d1, d2, d3] => { results := [.lit (.bool false)], args := [d1, d2, d3] }
  | _ => none }
def StampGoesWrongFalsely : Prop := stampGoesRow.holds Try.pinned (OpenSpec.ofChange stampGoesWrong)

/-- 'abacistlaw18.ShardTells': WHATEVER THE INPUT: true; the input reads as it did. -/
def shardTellsSpec : ChangeSpec := { name := "shardTells", fn := fun _ => fun
  | [d1, d2, d3, d4] => { results := [.lit (.bool true)], args := [d1, d2, d3, d4] }
  | _ => none }
def shardTellsRow : OpenClaim := { program := "ytkgjfcjciigcgaa", sum := "f1ddf06f8879b33b3884d8f82bdd90ff977f6161d3227d235b37433967fa282d", func := "abacist/abacistlaw18.ShardTells", spec := "shardTells", plainKeys := false, apart := false }
def ShardTellsSaid : Prop := shardTellsRow.holds Try.pinned (OpenSpec.ofChange shardTellsSpec)

/-- ITS FALSE NEIGHBOUR: 'it returns false'. Refute it at one input. -/
def shardTellsWrong : ChangeSpec := { name := "shardTells", fn := fun _ => fun
  | [d1, d2, d3, d4] => { results := [.lit (.bool false)], args := [d1, d2, d3, d4] }
  | _ => none }
def ShardTellsWrongFalsely : Prop := shardTellsRow.holds Try.pinned (OpenSpec.ofChange shardTellsWrong)

/-- 'abacistlaw18.ShardAll': WHATEVER THE INPUT: true; the input reads as it did. -/
def shardAllSpec : ChangeSpec := { name := "shardAll", fn := fun _ => fun
  | [d1, d2] => { results := [.lit (.bool true)], args := [d1, d2] }
  | _ => none }
def shardAllRow : OpenClaim := { program := "ytkgjfcjciigcgaa", sum := "f1ddf06f8879b33b3884d8f82bdd90ff977f6161d3227d235b37433967fa282d", func := "abacist/abacistlaw18.ShardAll", spec := "shardAll", plainKeys := false, apart := false }
def ShardAllSaid : Prop := shardAllRow.holds Try.pinned (OpenSpec.ofChange shardAllSpec)

/-- ITS FALSE NEIGHBOUR: 'it returns false'. Refute it at one input. -/
def shardAllWrong : ChangeSpec := { name := "shardAll", fn := fun _ => fun
  | [d1, d2] => { results := [.lit (.bool false)], args := [d1, d2] }
  | _ => none }
def ShardAllWrongFalsely : Prop := shardAllRow.holds Try.pinned (OpenSpec.ofChange shardAllWrong)

/-- 'abacistlaw26.SessionFull': WHATEVER THE INPUT: true; the input reads as it did. -/
def sessionFullSpec : ChangeSpec := { name := "sessionFull", fn := fun _ => fun
  | [d1, d2] => { results := [.lit (.bool true)], args := [d1, d2] }
  | _ => none }
def sessionFullRow : OpenClaim := { program := "ytkgjfcjciigcgaa", sum := "f1ddf06f8879b33b3884d8f82bdd90ff977f6161d3227d235b37433967fa282d", func := "abacist/abacistlaw26.SessionFull", spec := "sessionFull", plainKeys := false, apart := false }
def SessionFullSaid : Prop := sessionFullRow.holds Try.pinned (OpenSpec.ofChange sessionFullSpec)

/-- ITS FALSE NEIGHBOUR: 'it returns false'. Refute it at one input. -/
def sessionFullWrong : ChangeSpec := { name := "sessionFull", fn := fun _ => fun
  | [d1, d2] => { results := [.lit (.bool false)], args := [d1, d2] }
  | _ => none }
def SessionFullWrongFalsely : Prop := sessionFullRow.holds Try.pinned (OpenSpec.ofChange sessionFullWrong)

/-- 'abacisttop.TopNames': WHATEVER THE INPUT: true; the input reads as it did. -/
def topNamesSpec : ChangeSpec := { name := "topNames", fn := fun _ => fun
  | [] => { results := [.lit (.bool true)], args := [] }
  | _ => none }
def topNamesRow : OpenClaim := { program := "ytkgjfcjciigcgaa", sum := "f1ddf06f8879b33b3884d8f82bdd90ff977f6161d3227d235b37433967fa282d", func := "abacist/abacisttop.TopNames", spec := "topNames", plainKeys := false, apart := false }
def TopNamesSaid : Prop := topNamesRow.holds Try.pinned (OpenSpec.ofChange topNamesSpec)

/-- ITS FALSE NEIGHBOUR: 'it returns false'. Refute it at one input. -/
def topNamesWrong : ChangeSpec := { name := "topNames", fn := fun _ => fun
  | [] => { results := [.lit (.bool false)], args := [] }
  | _ => none }
def TopNamesWrongFalsely : Prop := topNamesRow.holds Try.pinned (OpenSpec.ofChange topNamesWrong)

/-- 'abacistlaw5.TreeDeep': WHATEVER THE INPUT: true; the input reads as it did. -/
def treeDeepSpec : ChangeSpec := { name := "treeDeep", fn := fun _ => fun
  | [d1, d2] => { results := [.lit (.bool true)], args := [d1, d2] }
  | _ => none }
def treeDeepRow : OpenClaim := { program := "ytkgjfcjciigcgaa", sum := "f1ddf06f8879b33b3884d8f82bdd90ff977f6161d3227d235b37433967fa282d", func := "abacist/abacistlaw5.TreeDeep", spec := "treeDeep", unfollowed := true, recurses := true, plainKeys := false, apart := false }
def TreeDeepSaid : Prop := treeDeepRow.holds Try.pinned (OpenSpec.ofChange treeDeepSpec)

/-- ITS FALSE NEIGHBOUR: 'it returns false'. Refute it at one input. -/
def treeDeepWrong : ChangeSpec := { name := "treeDeep", fn := fun _ => fun
  | [d1, d2] => { results := [.lit (.bool false)], args := [d1, d2] }
  | _ => none }
def TreeDeepWrongFalsely : Prop := treeDeepRow.holds Try.pinned (OpenSpec.ofChange treeDeepWrong)

/-- 'abacistlaw5.TreeKinds': WHATEVER THE INPUT: true; the input reads as it did. -/
def treeKindsSpec : ChangeSpec := { name := "treeKinds", fn := fun _ => fun
  | [d] => { results := [.lit (.bool true)], args := [d] }
  | _ => none }
def treeKindsRow : OpenClaim := { program := "ytkgjfcjciigcgaa", sum := "f1ddf06f8879b33b3884d8f82bdd90ff977f6161d3227d235b37433967fa282d", func := "abacist/abacistlaw5.TreeKinds", spec := "treeKinds", unfollowed := true, recurses := true, plainKeys := false, apart := false }
def TreeKindsSaid : Prop := treeKindsRow.holds Try.pinned (OpenSpec.ofChange treeKindsSpec)

/-- ITS FALSE NEIGHBOUR: 'it returns false'. Refute it at one input. -/
def treeKindsWrong : ChangeSpec := { name := "treeKinds", fn := fun _ => fun
  | [d] => { results := [.lit (.bool false)], args := [d] }
  | _ => none }
def TreeKindsWrongFalsely : Prop := treeKindsRow.holds Try.pinned (OpenSpec.ofChange treeKindsWrong)

/-- 'abacistlaw5.TreeTells': WHATEVER THE INPUT: true; the input reads as it did. -/
def treeTellsSpec : ChangeSpec := { name := "treeTells", fn := fun _ => fun
  | [d1, d2] => { results := [.lit (.bool true)], args := [d1, d2] }
  | _ => none }
def treeTellsRow : OpenClaim := { program := "ytkgjfcjciigcgaa", sum := "f1ddf06f8879b33b3884d8f82bdd90ff977f6161d3227d235b37433967fa282d", func := "abacist/abacistlaw5.TreeTells", spec := "treeTells", unfollowed := true, recurses := true, loops := true, plainKeys := false, apart := false }
def TreeTellsSaid : Prop := treeTellsRow.holds Try.pinned (OpenSpec.ofChange treeTellsSpec)

/-- ITS FALSE NEIGHBOUR: 'it returns false'. Refute it at one input. -/
def treeTellsWrong : ChangeSpec := { name := "treeTells", fn := fun _ => fun
  | [d1, d2] => { results := [.lit (.bool false)], args := [d1, d2] }
  | _ => none }
def TreeTellsWrongFalsely : Prop := treeTellsRow.holds Try.pinned (OpenSpec.ofChange treeTellsWrong)

/-- 'abacistlaw17.TallyTells': WHATEVER THE INPUT: true; the input reads as it did. -/
def tallyTellsSpec : ChangeSpec := { name := "tallyTells", fn := fun _ => fun
  | [d] => { results := [.lit (.bool true)], args := [d] }
  | _ => none }
def tallyTellsRow : OpenClaim := { program := "ytkgjfcjciigcgaa", sum := "f1ddf06f8879b33b3884d8f82bdd90ff977f6161d3227d235b37433967fa282d", func := "abacist/abacistlaw17.TallyTells", spec := "tallyTells", unfollowed := true, recurses := true, plainKeys := false, apart := false }
def TallyTellsSaid : Prop := tallyTellsRow.holds Try.pinned (OpenSpec.ofChange tallyTellsSpec)

/-- ITS FALSE NEIGHBOUR: 'it returns false'. Refute it at one input. -/
def tallyTellsWrong : ChangeSpec := { name := "tallyTells", fn := fun _ => fun
  | [d] => { results := [.lit (.bool false)], args := [d] }
  | _ => none }
def TallyTellsWrongFalsely : Prop := tallyTellsRow.holds Try.pinned (OpenSpec.ofChange tallyTellsWrong)

/-- 'abacistlaw25.WindowWrong': WHATEVER THE INPUT: true; the input reads as it did. -/
def windowWrongSpec : ChangeSpec := { name := "windowWrong", fn := fun _ => fun
  | [d1, d2] => { results := [.lit (.bool true)], args := [d1, d2] }
  | _ => none }
def windowWrongRow : OpenClaim := { program := "ytkgjfcjciigcgaa", sum := "f1ddf06f8879b33b3884d8f82bdd90ff977f6161d3227d235b37433967fa282d", func := "abacist/abacistlaw25.WindowWrong", spec := "windowWrong", unfollowed := true, recurses := true, plainKeys := false, apart := false }
def WindowWrongSaid : Prop := windowWrongRow.holds Try.pinned (OpenSpec.ofChange windowWrongSpec)

/-- ITS FALSE NEIGHBOUR: 'it returns false'. Refute it at one input. -/
def windowWrongWrong : ChangeSpec := { name := "windowWrong", fn := fun _ => fun
  | [d1, d2] => { results := [.lit (.bool false)], args := [d1, d2] }
  | _ => none }
def WindowWrongWrongFalsely : Prop := windowWrongRow.holds Try.pinned (OpenSpec.ofChange windowWrongWrong)

/-- 'abacistlaw16.FrontPlays': WHATEVER THE INPUT: true; the input reads as it did. -/
def frontPlaysSpec : ChangeSpec := { name := "frontPlays", fn := fun _ => fun
  | [d1, d2] => { results := [.lit (.bool true)], args := [d1, d2] }
  | _ => none }
def frontPlaysRow : OpenClaim := { program := "ytkgjfcjciigcgaa", sum := "f1ddf06f8879b33b3884d8f82bdd90ff977f6161d3227d235b37433967fa282d", func := "abacist/abacistlaw16.FrontPlays", spec := "frontPlays", unfollowed := true, recurses := true, plainKeys := false, apart := false }
def FrontPlaysSaid : Prop := frontPlaysRow.holds Try.pinned (OpenSpec.ofChange frontPlaysSpec)

/-- ITS FALSE NEIGHBOUR: 'it returns false'. Refute it at one input. -/
def frontPlaysWrong : ChangeSpec := { name := "frontPlays", fn := fun _ => fun
  | [d1, d2] => { results := [.lit (.bool false)], args := [d1, d2] }
  | _ => none }
def FrontPlaysWrongFalsely : Prop := frontPlaysRow.holds Try.pinned (OpenSpec.ofChange frontPlaysWrong)

/-- 'abacistlaw16.FrontLeast': WHATEVER THE INPUT: true; the input reads as it did. -/
def frontLeastSpec : ChangeSpec := { name := "frontLeast", fn := fun _ => fun
  | [d1, d2] => { results := [.lit (.bool true)], args := [d1, d2] }
  | _ => none }
def frontLeastRow : OpenClaim := { program := "ytkgjfcjciigcgaa", sum := "f1ddf06f8879b33b3884d8f82bdd90ff977f6161d3227d235b37433967fa282d", func := "abacist/abacistlaw16.FrontLeast", spec := "frontLeast", unfollowed := true, recurses := true, plainKeys := false, apart := false }
def FrontLeastSaid : Prop := frontLeastRow.holds Try.pinned (OpenSpec.ofChange frontLeastSpec)

/-- ITS FALSE NEIGHBOUR: 'it returns false'. Refute it at one input. -/
def frontLeastWrong : ChangeSpec := { name := "frontLeast", fn := fun _ => fun
  | [d1, d2] => { results := [.lit (.bool false)], args := [d1, d2] }
  | _ => none }
def FrontLeastWrongFalsely : Prop := frontLeastRow.holds Try.pinned (OpenSpec.ofChange frontLeastWrong)

/-- 'abacistlaw8.RefsRange': WHATEVER THE INPUT: true; the input reads as it did. -/
def refsRangeSpec : ChangeSpec := { name := "refsRange", fn := fun _ => fun
  | [d1, d2, d3, d4] => { results := [.lit (.bool true)], args := [d1, d2, d3, d4] }
  | _ => none }
def refsRangeRow : OpenClaim := { program := "ytkgjfcjciigcgaa", sum := "f1ddf06f8879b33b3884d8f82bdd90ff977f6161d3227d235b37433967fa282d", func := "abacist/abacistlaw8.RefsRange", spec := "refsRange", unfollowed := true, recurses := true, plainKeys := false, apart := false }
def RefsRangeSaid : Prop := refsRangeRow.holds Try.pinned (OpenSpec.ofChange refsRangeSpec)

/-- ITS FALSE NEIGHBOUR: 'it returns false'. Refute it at one input. -/
def refsRangeWrong : ChangeSpec := { name := "refsRange", fn := fun _ => fun
  | [d1, d2, d3, d4] => { results := [.lit (.bool false)], args := [d1, d2, d3, d4] }
  | _ => none }
def RefsRangeWrongFalsely : Prop := refsRangeRow.holds Try.pinned (OpenSpec.ofChange refsRangeWrong)

/-- 'abacistlaw25.WindowPlays': WHATEVER THE INPUT: true; the input reads as it did. -/
def windowPlaysSpec : ChangeSpec := { name := "windowPlays", fn := fun _ => fun
  | [d] => { results := [.lit (.bool true)], args := [d] }
  | _ => none }
def windowPlaysRow : OpenClaim := { program := "ytkgjfcjciigcgaa", sum := "f1ddf06f8879b33b3884d8f82bdd90ff977f6161d3227d235b37433967fa282d", func := "abacist/abacistlaw25.WindowPlays", spec := "windowPlays", unfollowed := true, recurses := true, plainKeys := false, apart := false }
def WindowPlaysSaid : Prop := windowPlaysRow.holds Try.pinned (OpenSpec.ofChange windowPlaysSpec)

/-- ITS FALSE NEIGHBOUR: 'it returns false'. Refute it at one input. -/
def windowPlaysWrong : ChangeSpec := { name := "windowPlays", fn := fun _ => fun
  | [d] => { results := [.lit (.bool false)], args := [d] }
  | _ => none }
def WindowPlaysWrongFalsely : Prop := windowPlaysRow.holds Try.pinned (OpenSpec.ofChange windowPlaysWrong)

/-- 'abacistlaw8.RefsTell': WHATEVER THE INPUT: true; the input reads as it did. -/
def refsTellSpec : ChangeSpec := { name := "refsTell", fn := fun _ => fun
  | [d1, d2] => { results := [.lit (.bool true)], args := [d1, d2] }
  | _ => none }
def refsTellRow : OpenClaim := { program := "ytkgjfcjciigcgaa", sum := "f1ddf06f8879b33b3884d8f82bdd90ff977f6161d3227d235b37433967fa282d", func := "abacist/abacistlaw8.RefsTell", spec := "refsTell", unfollowed := true, recurses := true, loops := true, plainKeys := false, apart := false }
def RefsTellSaid : Prop := refsTellRow.holds Try.pinned (OpenSpec.ofChange refsTellSpec)

/-- ITS FALSE NEIGHBOUR: 'it returns false'. Refute it at one input. -/
def refsTellWrong : ChangeSpec := { name := "refsTell", fn := fun _ => fun
  | [d1, d2] => { results := [.lit (.bool false)], args := [d1, d2] }
  | _ => none }
def RefsTellWrongFalsely : Prop := refsTellRow.holds Try.pinned (OpenSpec.ofChange refsTellWrong)

/-- 'abacistlaw25.WindowTells': WHATEVER THE INPUT: true; the input reads as it did. -/
def windowTellsSpec : ChangeSpec := { name := "windowTells", fn := fun _ => fun
  | [d1, d2, d3, d4] => { results := [.lit (.bool true)], args := [d1, d2, d3, d4] }
  | _ => none }
def windowTellsRow : OpenClaim := { program := "ytkgjfcjciigcgaa", sum := "f1ddf06f8879b33b3884d8f82bdd90ff977f6161d3227d235b37433967fa282d", func := "abacist/abacistlaw25.WindowTells", spec := "windowTells", unfollowed := true, recurses := true, plainKeys := false, apart := false }
def WindowTellsSaid : Prop := windowTellsRow.holds Try.pinned (OpenSpec.ofChange windowTellsSpec)

/-- ITS FALSE NEIGHBOUR: 'it returns false'. Refute it at one input. -/
def windowTellsWrong : ChangeSpec := { name := "windowTells", fn := fun _ => fun
  | [d1, d2, d3, d4] => { results := [.lit (.bool false)], args := [d1, d2, d3, d4] }
  | _ => none }
def WindowTellsWrongFalsely : Prop := windowTellsRow.holds Try.pinned (OpenSpec.ofChange windowTellsWrong)

/-- 'abacistlaw25.WindowSees': WHATEVER THE INPUT: true; the input reads as it did. -/
def windowSeesSpec : ChangeSpec := { name := "windowSees", fn := fun _ => fun
  | [d1, d2] => { results := [.lit (.bool true)], args := [d1, d2] }
  | _ => none }
def windowSeesRow : OpenClaim := { program := "ytkgjfcjciigcgaa", sum := "f1ddf06f8879b33b3884d8f82bdd90ff977f6161d3227d235b37433967fa282d", func := "abacist/abacistlaw25.WindowSees", spec := "windowSees", unfollowed := true, recurses := true, plainKeys := false, apart := false }
def WindowSeesSaid : Prop := windowSeesRow.holds Try.pinned (OpenSpec.ofChange windowSeesSpec)

/-- ITS FALSE NEIGHBOUR: 'it returns false'. Refute it at one input. -/
def windowSeesWrong : ChangeSpec := { name := "windowSees", fn := fun _ => fun
  | [d1, d2] => { results := [.lit (.bool false)], args := [d1, d2] }
  | _ => none }
def WindowSeesWrongFalsely : Prop := windowSeesRow.holds Try.pinned (OpenSpec.ofChange windowSeesWrong)

/-- 'abacistlaw17.TallyAny': WHATEVER THE INPUT: true; the input reads as it did. -/
def tallyAnySpec : ChangeSpec := { name := "tallyAny", fn := fun _ => fun
  | [d1, d2, d3] => { results := [.lit (.bool true)], args := [d1, d2, d3] }
  | _ => none }
def tallyAnyRow : OpenClaim := { program := "ytkgjfcjciigcgaa", sum := "f1ddf06f8879b33b3884d8f82bdd90ff977f6161d3227d235b37433967fa282d", func := "abacist/abacistlaw17.TallyAny", spec := "tallyAny", unfollowed := true, recurses := true, plainKeys := false, apart := false }
def TallyAnySaid : Prop := tallyAnyRow.holds Try.pinned (OpenSpec.ofChange tallyAnySpec)

/-- ITS FALSE NEIGHBOUR: 'it returns false'. Refute it at one input. -/
def tallyAnyWrong : ChangeSpec := { name := "tallyAny", fn := fun _ => fun
  | [d1, d2, d3] => { results := [.lit (.bool false)], args := [d1, d2, d3] }
  | _ => none }
def TallyAnyWrongFalsely : Prop := tallyAnyRow.holds Try.pinned (OpenSpec.ofChange tallyAnyWrong)

/-- 'abacistlaw12.DepsTell': WHATEVER THE INPUT: true; the input reads as it did. -/
def depsTellSpec : ChangeSpec := { name := "depsTell", fn := fun _ => fun
  | [d1, d2] => { results := [.lit (.bool true)], args := [d1, d2] }
  | _ => none }
def depsTellRow : OpenClaim := { program := "ytkgjfcjciigcgaa", sum := "f1ddf06f8879b33b3884d8f82bdd90ff977f6161d3227d235b37433967fa282d", func := "abacist/abacistlaw12.DepsTell", spec := "depsTell", unfollowed := true, recurses := true, loops := true, plainKeys := false, apart := false }
def DepsTellSaid : Prop := depsTellRow.holds Try.pinned (OpenSpec.ofChange depsTellSpec)

/-- ITS FALSE NEIGHBOUR: 'it returns false'. Refute it at one input. -/
def depsTellWrong : ChangeSpec := { name := "depsTell", fn := fun _ => fun
  | [d1, d2] => { results := [.lit (.bool false)], args := [d1, d2] }
  | _ => none }
def DepsTellWrongFalsely : Prop := depsTellRow.holds Try.pinned (OpenSpec.ofChange depsTellWrong)

/-- 'abacistlaw12.DepsMeet': WHATEVER THE INPUT: true; the input reads as it did. -/
def depsMeetSpec : ChangeSpec := { name := "depsMeet", fn := fun _ => fun
  | [d] => { results := [.lit (.bool true)], args := [d] }
  | _ => none }
def depsMeetRow : OpenClaim := { program := "ytkgjfcjciigcgaa", sum := "f1ddf06f8879b33b3884d8f82bdd90ff977f6161d3227d235b37433967fa282d", func := "abacist/abacistlaw12.DepsMeet", spec := "depsMeet", unfollowed := true, recurses := true, loops := true, plainKeys := false, apart := false }
def DepsMeetSaid : Prop := depsMeetRow.holds Try.pinned (OpenSpec.ofChange depsMeetSpec)

/-- ITS FALSE NEIGHBOUR: 'it returns false'. Refute it at one input. -/
def depsMeetWrong : ChangeSpec := { name := "depsMeet", fn := fun _ => fun
  | [d] => { results := [.lit (.bool false)], args := [d] }
  | _ => none }
def DepsMeetWrongFalsely : Prop := depsMeetRow.holds Try.pinned (OpenSpec.ofChange depsMeetWrong)

/-- 'abacistlaw26.SessionKeeps': WHATEVER THE INPUT: true; the input reads as it did. -/
def sessionKeepsSpec : ChangeSpec := { name := "sessionKeeps", fn := fun _ => fun
  | [d1, d2, d3, d4] => { results := [.lit (.bool true)], args := [d1, d2, d3, d4] }
  | _ => none }
def sessionKeepsRow : OpenClaim := { program := "ytkgjfcjciigcgaa", sum := "f1ddf06f8879b33b3884d8f82bdd90ff977f6161d3227d235b37433967fa282d", func := "abacist/abacistlaw26.SessionKeeps", spec := "sessionKeeps", unfollowed := true, recurses := true, plainKeys := false, apart := false }
def SessionKeepsSaid : Prop := sessionKeepsRow.holds Try.pinned (OpenSpec.ofChange sessionKeepsSpec)

/-- ITS FALSE NEIGHBOUR: 'it returns false'. Refute it at one input. -/
def sessionKeepsWrong : ChangeSpec := { name := "sessionKeeps", fn := fun _ => fun
  | [d1, d2, d3, d4] => { results := [.lit (.bool false)], args := [d1, d2, d3, d4] }
  | _ => none }
def SessionKeepsWrongFalsely : Prop := sessionKeepsRow.holds Try.pinned (OpenSpec.ofChange sessionKeepsWrong)

/-- 'abacistlaw26.SessionPlays': WHATEVER THE INPUT: true; the input reads as it did. -/
def sessionPlaysSpec : ChangeSpec := { name := "sessionPlays", fn := fun _ => fun
  | [d] => { results := [.lit (.bool true)], args := [d] }
  | _ => none }
def sessionPlaysRow : OpenClaim := { program := "ytkgjfcjciigcgaa", sum := "f1ddf06f8879b33b3884d8f82bdd90ff977f6161d3227d235b37433967fa282d", func := "abacist/abacistlaw26.SessionPlays", spec := "sessionPlays", unfollowed := true, recurses := true, plainKeys := false, apart := false }
def SessionPlaysSaid : Prop := sessionPlaysRow.holds Try.pinned (OpenSpec.ofChange sessionPlaysSpec)

/-- ITS FALSE NEIGHBOUR: 'it returns false'. Refute it at one input. -/
def sessionPlaysWrong : ChangeSpec := { name := "sessionPlays", fn := fun _ => fun
  | [d] => { results := [.lit (.bool false)], args := [d] }
  | _ => none }
def SessionPlaysWrongFalsely : Prop := sessionPlaysRow.holds Try.pinned (OpenSpec.ofChange sessionPlaysWrong)

/-- 'abacistlaw13.KnotsTell': WHATEVER THE INPUT: true; the input reads as it did. -/
def knotsTellSpec : ChangeSpec := { name := "knotsTell", fn := fun _ => fun
  | [d] => { results := [.lit (.bool true)], args := [d] }
  | _ => none }
def knotsTellRow : OpenClaim := { program := "ytkgjfcjciigcgaa", sum := "f1ddf06f8879b33b3884d8f82bdd90ff977f6161d3227d235b37433967fa282d", func := "abacist/abacistlaw13.KnotsTell", spec := "knotsTell", unfollowed := true, recurses := true, loops := true, plainKeys := false, apart := false }
def KnotsTellSaid : Prop := knotsTellRow.holds Try.pinned (OpenSpec.ofChange knotsTellSpec)

/-- ITS FALSE NEIGHBOUR: 'it returns false'. Refute it at one input. -/
def knotsTellWrong : ChangeSpec := { name := "knotsTell", fn := fun _ => fun
  | [d] => { results := [.lit (.bool false)], args := [d] }
  | _ => none }
def KnotsTellWrongFalsely : Prop := knotsTellRow.holds Try.pinned (OpenSpec.ofChange knotsTellWrong)

/-- 'abacistlaw13.KnotsOrder': WHATEVER THE INPUT: true; the input reads as it did. -/
def knotsOrderSpec : ChangeSpec := { name := "knotsOrder", fn := fun _ => fun
  | [d] => { results := [.lit (.bool true)], args := [d] }
  | _ => none }
def knotsOrderRow : OpenClaim := { program := "ytkgjfcjciigcgaa", sum := "f1ddf06f8879b33b3884d8f82bdd90ff977f6161d3227d235b37433967fa282d", func := "abacist/abacistlaw13.KnotsOrder", spec := "knotsOrder", unfollowed := true, recurses := true, loops := true, plainKeys := false, apart := false }
def KnotsOrderSaid : Prop := knotsOrderRow.holds Try.pinned (OpenSpec.ofChange knotsOrderSpec)

/-- ITS FALSE NEIGHBOUR: 'it returns false'. Refute it at one input. -/
def knotsOrderWrong : ChangeSpec := { name := "knotsOrder", fn := fun _ => fun
  | [d] => { results := [.lit (.bool false)], args := [d] }
  | _ => none }
def KnotsOrderWrongFalsely : Prop := knotsOrderRow.holds Try.pinned (OpenSpec.ofChange knotsOrderWrong)

/-- 'abacistlaw13.KnotsRing': WHATEVER THE INPUT: true; the input reads as it did. -/
def knotsRingSpec : ChangeSpec := { name := "knotsRing", fn := fun _ => fun
  | [d1, d2, d3] => { results := [.lit (.bool true)], args := [d1, d2, d3] }
  | _ => none }
def knotsRingRow : OpenClaim := { program := "ytkgjfcjciigcgaa", sum := "f1ddf06f8879b33b3884d8f82bdd90ff977f6161d3227d235b37433967fa282d", func := "abacist/abacistlaw13.KnotsRing", spec := "knotsRing", unfollowed := true, recurses := true, plainKeys := false, apart := false }
def KnotsRingSaid : Prop := knotsRingRow.holds Try.pinned (OpenSpec.ofChange knotsRingSpec)

/-- ITS FALSE NEIGHBOUR: 'it returns false'. Refute it at one input. -/
def knotsRingWrong : ChangeSpec := { name := "knotsRing", fn := fun _ => fun
  | [d1, d2, d3] => { results := [.lit (.bool false)], args := [d1, d2, d3] }
  | _ => none }
def KnotsRingWrongFalsely : Prop := knotsRingRow.holds Try.pinned (OpenSpec.ofChange knotsRingWrong)

/-- 'abacistlaw13.KnotsAlone': WHATEVER THE INPUT: true; the input reads as it did. -/
def knotsAloneSpec : ChangeSpec := { name := "knotsAlone", fn := fun _ => fun
  | [d] => { results := [.lit (.bool true)], args := [d] }
  | _ => none }
def knotsAloneRow : OpenClaim := { program := "ytkgjfcjciigcgaa", sum := "f1ddf06f8879b33b3884d8f82bdd90ff977f6161d3227d235b37433967fa282d", func := "abacist/abacistlaw13.KnotsAlone", spec := "knotsAlone", unfollowed := true, recurses := true, plainKeys := false, apart := false }
def KnotsAloneSaid : Prop := knotsAloneRow.holds Try.pinned (OpenSpec.ofChange knotsAloneSpec)

/-- ITS FALSE NEIGHBOUR: 'it returns false'. Refute it at one input. -/
def knotsAloneWrong : ChangeSpec := { name := "knotsAlone", fn := fun _ => fun
  | [d] => { results := [.lit (.bool false)], args := [d] }
  | _ => none }
def KnotsAloneWrongFalsely : Prop := knotsAloneRow.holds Try.pinned (OpenSpec.ofChange knotsAloneWrong)

/- THE SECOND FORM. 'bulk': how many values and letters a reading holds, each counted each time it is reached (what is shared counts as often as it is met; a slice's spare places count too). A statement '..UptoSaid' is the law's where the arguments, and the package variables that the reading takes, are together of bulk at most 1048576: NARROWER than '..Said'. Prove '..Said' where nothing that the law and all that it calls make is longer than what came in: it says more and counts as full. Else prove '..UptoSaid'. A law counts once. -/
mutual
def uptoBulk {H : Type} : DataW H → Nat
  | .lit (.string bytes) => bytes.length + 1
  | .lit _ => 1
  | .nil => 1
  | .ptr d => uptoBulk d + 1
  | .slice elems spare => uptoBulkAll elems + uptoBulkAll spare + 1
  | .agg parts => uptoBulkAll parts + 1
  | .iface _ d => uptoBulk d + 1
  | .map entries => uptoBulkEntries entries + 1
  | .held _ => 1
def uptoBulkAll {H : Type} : List (DataW H) → Nat
  | [] => 0
  | d :: r => uptoBulk d + uptoBulkAll r
def uptoBulkEntries {H : Type} : List (Lit × DataW H) → Nat
  | [] => 0
  | x :: r => uptoBulkEntry x + uptoBulkEntries r
def uptoBulkEntry {H : Type} : Lit × DataW H → Nat
  | (.string bytes, d) => bytes.length + uptoBulk d + 1
  | (_, d) => uptoBulk d + 1
 end
def uptoSmall : (H : Type) → List (DataW H) → Bool := fun _ ds => decide (uptoBulkAll ds ≤ 1048576)
def OpenSpec.upto (s : _root_.Go.ChangeSpec) : _root_.Go.OpenSpec := { _root_.Go.OpenSpec.ofChange s with cond := some uptoSmall }

/-- 'abacistlaw9.RewriteTells', WHERE WHAT IT READS IS OF BULK AT MOST 1048576: true; the input reads as it did. -/
def rewriteTellsUptoRow : OpenClaim := { program := "ytkgjfcjciigcgaa", sum := "f1ddf06f8879b33b3884d8f82bdd90ff977f6161d3227d235b37433967fa282d", func := "abacist/abacistlaw9.RewriteTells", spec := "rewriteTells", unfollowed := true, recurses := true, loops := true, plainKeys := false, apart := false, narrowed := true }
def RewriteTellsUptoSaid : Prop := rewriteTellsUptoRow.holds Try.pinned (OpenSpec.upto rewriteTellsSpec)

/-- 'abacistlaw9.RewriteBack', WHERE WHAT IT READS IS OF BULK AT MOST 1048576: true; the input reads as it did. -/
def rewriteBackUptoRow : OpenClaim := { program := "ytkgjfcjciigcgaa", sum := "f1ddf06f8879b33b3884d8f82bdd90ff977f6161d3227d235b37433967fa282d", func := "abacist/abacistlaw9.RewriteBack", spec := "rewriteBack", unfollowed := true, recurses := true, loops := true, plainKeys := false, apart := false, narrowed := true }
def RewriteBackUptoSaid : Prop := rewriteBackUptoRow.holds Try.pinned (OpenSpec.upto rewriteBackSpec)

/-- 'abacistlaw15.StampOrder', WHERE WHAT IT READS IS OF BULK AT MOST 1048576: true; the input reads as it did. -/
def stampOrderUptoRow : OpenClaim := { program := "ytkgjfcjciigcgaa", sum := "f1ddf06f8879b33b3884d8f82bdd90ff977f6161d3227d235b37433967fa282d", func := "abacist/abacistlaw15.StampOrder", spec := "stampOrder", plainKeys := false, apart := false, narrowed := true }
def StampOrderUptoSaid : Prop := stampOrderUptoRow.holds Try.pinned (OpenSpec.upto stampOrderSpec)

/-- 'abacistlaw15.StampGoes', WHERE WHAT IT READS IS OF BULK AT MOST 1048576: true; the input reads as it did. -/
def stampGoesUptoRow : OpenClaim := { program := "ytkgjfcjciigcgaa", sum := "f1ddf06f8879b33b3884d8f82bdd90ff977f6161d3227d235b37433967fa282d", func := "abacist/abacistlaw15.StampGoes", spec := "stampGoes", plainKeys := false, apart := false, narrowed := true }
def StampGoesUptoSaid : Prop := stampGoesUptoRow.holds Try.pinned (OpenSpec.upto stampGoesSpec)

/-- 'abacistlaw18.ShardTells', WHERE WHAT IT READS IS OF BULK AT MOST 1048576: true; the input reads as it did. -/
def shardTellsUptoRow : OpenClaim := { program := "ytkgjfcjciigcgaa", sum := "f1ddf06f8879b33b3884d8f82bdd90ff977f6161d3227d235b37433967fa282d", func := "abacist/abacistlaw18.ShardTells", spec := "shardTells", plainKeys := false, apart := false, narrowed := true }
def ShardTellsUptoSaid : Prop := shardTellsUptoRow.holds Try.pinned (OpenSpec.upto shardTellsSpec)

/-- 'abacistlaw18.ShardAll', WHERE WHAT IT READS IS OF BULK AT MOST 1048576: true; the input reads as it did. -/
def shardAllUptoRow : OpenClaim := { program := "ytkgjfcjciigcgaa", sum := "f1ddf06f8879b33b3884d8f82bdd90ff977f6161d3227d235b37433967fa282d", func := "abacist/abacistlaw18.ShardAll", spec := "shardAll", plainKeys := false, apart := false, narrowed := true }
def ShardAllUptoSaid : Prop := shardAllUptoRow.holds Try.pinned (OpenSpec.upto shardAllSpec)

/-- 'abacistlaw26.SessionFull', WHERE WHAT IT READS IS OF BULK AT MOST 1048576: true; the input reads as it did. -/
def sessionFullUptoRow : OpenClaim := { program := "ytkgjfcjciigcgaa", sum := "f1ddf06f8879b33b3884d8f82bdd90ff977f6161d3227d235b37433967fa282d", func := "abacist/abacistlaw26.SessionFull", spec := "sessionFull", plainKeys := false, apart := false, narrowed := true }
def SessionFullUptoSaid : Prop := sessionFullUptoRow.holds Try.pinned (OpenSpec.upto sessionFullSpec)

/-- 'abacisttop.TopNames', WHERE WHAT IT READS IS OF BULK AT MOST 1048576: true; the input reads as it did. -/
def topNamesUptoRow : OpenClaim := { program := "ytkgjfcjciigcgaa", sum := "f1ddf06f8879b33b3884d8f82bdd90ff977f6161d3227d235b37433967fa282d", func := "abacist/abacisttop.TopNames", spec := "topNames", plainKeys := false, apart := false, narrowed := true }
def TopNamesUptoSaid : Prop := topNamesUptoRow.holds Try.pinned (OpenSpec.upto topNamesSpec)

/-- 'abacistlaw5.TreeDeep', WHERE WHAT IT READS IS OF BULK AT MOST 1048576: true; the input reads as it did. -/
def treeDeepUptoRow : OpenClaim := { program := "ytkgjfcjciigcgaa", sum := "f1ddf06f8879b33b3884d8f82bdd90ff977f6161d3227d235b37433967fa282d", func := "abacist/abacistlaw5.TreeDeep", spec := "treeDeep", unfollowed := true, recurses := true, plainKeys := false, apart := false, narrowed := true }
def TreeDeepUptoSaid : Prop := treeDeepUptoRow.holds Try.pinned (OpenSpec.upto treeDeepSpec)

/-- 'abacistlaw5.TreeKinds', WHERE WHAT IT READS IS OF BULK AT MOST 1048576: true; the input reads as it did. -/
def treeKindsUptoRow : OpenClaim := { program := "ytkgjfcjciigcgaa", sum := "f1ddf06f8879b33b3884d8f82bdd90ff977f6161d3227d235b37433967fa282d", func := "abacist/abacistlaw5.TreeKinds", spec := "treeKinds", unfollowed := true, recurses := true, plainKeys := false, apart := false, narrowed := true }
def TreeKindsUptoSaid : Prop := treeKindsUptoRow.holds Try.pinned (OpenSpec.upto treeKindsSpec)

/-- 'abacistlaw5.TreeTells', WHERE WHAT IT READS IS OF BULK AT MOST 1048576: true; the input reads as it did. -/
def treeTellsUptoRow : OpenClaim := { program := "ytkgjfcjciigcgaa", sum := "f1ddf06f8879b33b3884d8f82bdd90ff977f6161d3227d235b37433967fa282d", func := "abacist/abacistlaw5.TreeTells", spec := "treeTells", unfollowed := true, recurses := true, loops := true, plainKeys := false, apart := false, narrowed := true }
def TreeTellsUptoSaid : Prop := treeTellsUptoRow.holds Try.pinned (OpenSpec.upto treeTellsSpec)

/-- 'abacistlaw17.TallyTells', WHERE WHAT IT READS IS OF BULK AT MOST 1048576: true; the input reads as it did. -/
def tallyTellsUptoRow : OpenClaim := { program := "ytkgjfcjciigcgaa", sum := "f1ddf06f8879b33b3884d8f82bdd90ff977f6161d3227d235b37433967fa282d", func := "abacist/abacistlaw17.TallyTells", spec := "tallyTells", unfollowed := true, recurses := true, plainKeys := false, apart := false, narrowed := true }
def TallyTellsUptoSaid : Prop := tallyTellsUptoRow.holds Try.pinned (OpenSpec.upto tallyTellsSpec)

/-- 'abacistlaw25.WindowWrong', WHERE WHAT IT READS IS OF BULK AT MOST 1048576: true; the input reads as it did. -/
def windowWrongUptoRow : OpenClaim := { program := "ytkgjfcjciigcgaa", sum := "f1ddf06f8879b33b3884d8f82bdd90ff977f6161d3227d235b37433967fa282d", func := "abacist/abacistlaw25.WindowWrong", spec := "windowWrong", unfollowed := true, recurses := true, plainKeys := false, apart := false, narrowed := true }
def WindowWrongUptoSaid : Prop := windowWrongUptoRow.holds Try.pinned (OpenSpec.upto windowWrongSpec)

/-- 'abacistlaw16.FrontPlays', WHERE WHAT IT READS IS OF BULK AT MOST 1048576: true; the input reads as it did. -/
def frontPlaysUptoRow : OpenClaim := { program := "ytkgjfcjciigcgaa", sum := "f1ddf06f8879b33b3884d8f82bdd90ff977f6161d3227d235b37433967fa282d", func := "abacist/abacistlaw16.FrontPlays", spec := "frontPlays", unfollowed := true, recurses := true, plainKeys := false, apart := false, narrowed := true }
def FrontPlaysUptoSaid : Prop := frontPlaysUptoRow.holds Try.pinned (OpenSpec.upto frontPlaysSpec)

/-- 'abacistlaw16.FrontLeast', WHERE WHAT IT READS IS OF BULK AT MOST 1048576: true; the input reads as it did. -/
def frontLeastUptoRow : OpenClaim := { program := "ytkgjfcjciigcgaa", sum := "f1ddf06f8879b33b3884d8f82bdd90ff977f6161d3227d235b37433967fa282d", func := "abacist/abacistlaw16.FrontLeast", spec := "frontLeast", unfollowed := true, recurses := true, plainKeys := false, apart := false, narrowed := true }
def FrontLeastUptoSaid : Prop := frontLeastUptoRow.holds Try.pinned (OpenSpec.upto frontLeastSpec)

/-- 'abacistlaw8.RefsRange', WHERE WHAT IT READS IS OF BULK AT MOST 1048576: true; the input reads as it did. -/
def refsRangeUptoRow : OpenClaim := { program := "ytkgjfcjciigcgaa", sum := "f1ddf06f8879b33b3884d8f82bdd90ff977f6161d3227d235b37433967fa282d", func := "abacist/abacistlaw8.RefsRange", spec := "refsRange", unfollowed := true, recurses := true, plainKeys := false, apart := false, narrowed := true }
def RefsRangeUptoSaid : Prop := refsRangeUptoRow.holds Try.pinned (OpenSpec.upto refsRangeSpec)

/-- 'abacistlaw25.WindowPlays', WHERE WHAT IT READS IS OF BULK AT MOST 1048576: true; the input reads as it did. -/
def windowPlaysUptoRow : OpenClaim := { program := "ytkgjfcjciigcgaa", sum := "f1ddf06f8879b33b3884d8f82bdd90ff977f6161d3227d235b37433967fa282d", func := "abacist/abacistlaw25.WindowPlays", spec := "windowPlays", unfollowed := true, recurses := true, plainKeys := false, apart := false, narrowed := true }
def WindowPlaysUptoSaid : Prop := windowPlaysUptoRow.holds Try.pinned (OpenSpec.upto windowPlaysSpec)

/-- 'abacistlaw8.RefsTell', WHERE WHAT IT READS IS OF BULK AT MOST 1048576: true; the input reads as it did. -/
def refsTellUptoRow : OpenClaim := { program := "ytkgjfcjciigcgaa", sum := "f1ddf06f8879b33b3884d8f82bdd90ff977f6161d3227d235b37433967fa282d", func := "abacist/abacistlaw8.RefsTell", spec := "refsTell", unfollowed := true, recurses := true, loops := true, plainKeys := false, apart := false, narrowed := true }
def RefsTellUptoSaid : Prop := refsTellUptoRow.holds Try.pinned (OpenSpec.upto refsTellSpec)

/-- 'abacistlaw25.WindowTells', WHERE WHAT IT READS IS OF BULK AT MOST 1048576: true; the input reads as it did. -/
def windowTellsUptoRow : OpenClaim := { program := "ytkgjfcjciigcgaa", sum := "f1ddf06f8879b33b3884d8f82bdd90ff977f6161d3227d235b37433967fa282d", func := "abacist/abacistlaw25.WindowTells", spec := "windowTells", unfollowed := true, recurses := true, plainKeys := false, apart := false, narrowed := true }
def WindowTellsUptoSaid : Prop := windowTellsUptoRow.holds Try.pinned (OpenSpec.upto windowTellsSpec)

/-- 'abacistlaw25.WindowSees', WHERE WHAT IT READS IS OF BULK AT MOST 1048576: true; the input reads as it did. -/
def windowSeesUptoRow : OpenClaim := { program := "ytkgjfcjciigcgaa", sum := "f1ddf06f8879b33b3884d8f82bdd90ff977f6161d3227d235b37433967fa282d", func := "abacist/abacistlaw25.WindowSees", spec := "windowSees", unfollowed := true, recurses := true, plainKeys := false, apart := false, narrowed := true }
def WindowSeesUptoSaid : Prop := windowSeesUptoRow.holds Try.pinned (OpenSpec.upto windowSeesSpec)

/-- 'abacistlaw17.TallyAny', WHERE WHAT IT READS IS OF BULK AT MOST 1048576: true; the input reads as it did. -/
def tallyAnyUptoRow : OpenClaim := { program := "ytkgjfcjciigcgaa", sum := "f1ddf06f8879b33b3884d8f82bdd90ff977f6161d3227d235b37433967fa282d", func := "abacist/abacistlaw17.TallyAny", spec := "tallyAny", unfollowed := true, recurses := true, plainKeys := false, apart := false, narrowed := true }
def TallyAnyUptoSaid : Prop := tallyAnyUptoRow.holds Try.pinned (OpenSpec.upto tallyAnySpec)

/-- 'abacistlaw12.DepsTell', WHERE WHAT IT READS IS OF BULK AT MOST 1048576: true; the input reads as it did. -/
def depsTellUptoRow : OpenClaim := { program := "ytkgjfcjciigcgaa", sum := "f1ddf06f8879b33b3884d8f82bdd90ff977f6161d3227d235b37433967fa282d", func := "abacist/abacistlaw12.DepsTell", spec := "depsTell", unfollowed := true, recurses := true, loops := true, plainKeys := false, apart := false, narrowed := true }
def DepsTellUptoSaid : Prop := depsTellUptoRow.holds Try.pinned (OpenSpec.upto depsTellSpec)

/-- 'abacistlaw12.DepsMeet', WHERE WHAT IT READS IS OF BULK AT MOST 1048576: true; the input reads as it did. -/
def depsMeetUptoRow : OpenClaim := { program := "ytkgjfcjciigcgaa", sum := "f1ddf06f8879b33b3884d8f82bdd90ff977f6161d3227d235b37433967fa282d", func := "abacist/abacistlaw12.DepsMeet", spec := "depsMeet", unfollowed := true, recurses := true, loops := true, plainKeys := false, apart := false, narrowed := true }
def DepsMeetUptoSaid : Prop := depsMeetUptoRow.holds Try.pinned (OpenSpec.upto depsMeetSpec)

/-- 'abacistlaw26.SessionKeeps', WHERE WHAT IT READS IS OF BULK AT MOST 1048576: true; the input reads as it did. -/
def sessionKeepsUptoRow : OpenClaim := { program := "ytkgjfcjciigcgaa", sum := "f1ddf06f8879b33b3884d8f82bdd90ff977f6161d3227d235b37433967fa282d", func := "abacist/abacistlaw26.SessionKeeps", spec := "sessionKeeps", unfollowed := true, recurses := true, plainKeys := false, apart := false, narrowed := true }
def SessionKeepsUptoSaid : Prop := sessionKeepsUptoRow.holds Try.pinned (OpenSpec.upto sessionKeepsSpec)

/-- 'abacistlaw26.SessionPlays', WHERE WHAT IT READS IS OF BULK AT MOST 1048576: true; the input reads as it did. -/
def sessionPlaysUptoRow : OpenClaim := { program := "ytkgjfcjciigcgaa", sum := "f1ddf06f8879b33b3884d8f82bdd90ff977f6161d3227d235b37433967fa282d", func := "abacist/abacistlaw26.SessionPlays", spec := "sessionPlays", unfollowed := true, recurses := true, plainKeys := false, apart := false, narrowed := true }
def SessionPlaysUptoSaid : Prop := sessionPlaysUptoRow.holds Try.pinned (OpenSpec.upto sessionPlaysSpec)

/-- 'abacistlaw13.KnotsTell', WHERE WHAT IT READS IS OF BULK AT MOST 1048576: true; the input reads as it did. -/
def knotsTellUptoRow : OpenClaim := { program := "ytkgjfcjciigcgaa", sum := "f1ddf06f8879b33b3884d8f82bdd90ff977f6161d3227d235b37433967fa282d", func := "abacist/abacistlaw13.KnotsTell", spec := "knotsTell", unfollowed := true, recurses := true, loops := true, plainKeys := false, apart := false, narrowed := true }
def KnotsTellUptoSaid : Prop := knotsTellUptoRow.holds Try.pinned (OpenSpec.upto knotsTellSpec)

/-- 'abacistlaw13.KnotsOrder', WHERE WHAT IT READS IS OF BULK AT MOST 1048576: true; the input reads as it did. -/
def knotsOrderUptoRow : OpenClaim := { program := "ytkgjfcjciigcgaa", sum := "f1ddf06f8879b33b3884d8f82bdd90ff977f6161d3227d235b37433967fa282d", func := "abacist/abacistlaw13.KnotsOrder", spec := "knotsOrder", unfollowed := true, recurses := true, loops := true, plainKeys := false, apart := false, narrowed := true }
def KnotsOrderUptoSaid : Prop := knotsOrderUptoRow.holds Try.pinned (OpenSpec.upto knotsOrderSpec)

/-- 'abacistlaw13.KnotsRing', WHERE WHAT IT READS IS OF BULK AT MOST 1048576: true; the input reads as it did. -/
def knotsRingUptoRow : OpenClaim := { program := "ytkgjfcjciigcgaa", sum := "f1ddf06f8879b33b3884d8f82bdd90ff977f6161d3227d235b37433967fa282d", func := "abacist/abacistlaw13.KnotsRing", spec := "knotsRing", unfollowed := true, recurses := true, plainKeys := false, apart := false, narrowed := true }
def KnotsRingUptoSaid : Prop := knotsRingUptoRow.holds Try.pinned (OpenSpec.upto knotsRingSpec)

/-- 'abacistlaw13.KnotsAlone', WHERE WHAT IT READS IS OF BULK AT MOST 1048576: true; the input reads as it did. -/
def knotsAloneUptoRow : OpenClaim := { program := "ytkgjfcjciigcgaa", sum := "f1ddf06f8879b33b3884d8f82bdd90ff977f6161d3227d235b37433967fa282d", func := "abacist/abacistlaw13.KnotsAlone", spec := "knotsAlone", unfollowed := true, recurses := true, plainKeys := false, apart := false, narrowed := true }
def KnotsAloneUptoSaid : Prop := knotsAloneUptoRow.holds Try.pinned (OpenSpec.upto knotsAloneSpec)

end Rows
end Go.Proofs.Ytkgjfcjciigcgaa
