/-
  NARROWER THAN 'FOR EVERY INPUT', by the rows' own cells (each row's printed sentence says how): SubLeast: laid · SubPicks: laid · SubTells: laid · SubOrder: laid · SubRules: laid · SubUnions: laid · SubKnown: laid · SubstPuts: laid · SubstVars: laid · SubstFew: laid · SubstStrict: laid · SubDyn: laid · SubstTwice: laid · SubstOwn: laid · CanonSame: laid · CanonOrder: laid.
  DERIVED. THE GIVEN ROWS OF THIS SEAT. 16 by the template 'for every input the law returns true; each argument reads behind the call as it read before'; 0 by the template 'total and deterministic' (their statements: YtcljgfpcdlnlkaaDoorTotals.lean).
  GIVEN WITH THE SEED: the statements are not yours to turn. If you find one false, say at which input.
  Laid BY PROGRAM, IN A SANDBOX (cutbox-rows.mjs): the forced cells as the released guide's own fill.sh prints them over the translation 4377729f42c7a270… (all of the seat's roots in one cut). By AI agents, Wed Nov 11 2026. No macro, syntax, notation, axiom, sorry.
-/
import Derived.Test.YtcljgfpcdlnlkaaDoorChecked
import GoSem.Claim
import GoSem.ClaimJoined
import GoSem.ClaimMapViews
import Derived.JoinedTies
import Derived.KernelRfl
namespace Go.Proofs.YtcljgfpcdlnlkaaDoor
/- THE CELL 'sum', in the pinned program and in every row, IS THE sha256 OF THE DUMP (.gsa) THAT YtcljgfpcdlnlkaaDoorProg.lean LOADS. Nothing in Lean hashes anything: it is a label: what it is worth is what the hold of that sum in a sandbox is worth. -/
noncomputable def Tryd.pinned : Pinned := { name := "ytcljgfpcdlnlkaadoor", sum := "4377729f42c7a27004a2be0fa4b5a2b8b7bebefa2b02e67efe2f0e51869a93be", checked := Tryd.checked }
namespace Rows
def none {H : Type} : Left H := { results := [], args := [] }

/- WHAT THE LISTED PACKAGE-LEVEL VARIABLES READ AS WHEN THE CALL BEGINS. Each datum BY PROGRAM (the guide's laid-datum.mjs) off the statement by which the dump's own 'gosem.cut.vars' lays the variable. In a bare row this is a premise. The card (YtcljgfpcdlnlkaaDoorCards.lean) ties it to the program's text. -/
def laid_armillary_lex_keys {H : Type} : DataW H := .agg [.lit (.string [109, 111, 100, 117, 108, 101]), .lit (.string [105, 109, 112, 111, 114, 116]), .lit (.string [116, 121, 112, 101]), .lit (.string [102, 110]), .lit (.string [108, 101, 116]), .lit (.string [105, 110]), .lit (.string [105, 102]), .lit (.string [116, 104, 101, 110]), .lit (.string [101, 108, 115, 101]), .lit (.string [105, 115]), .lit (.string [97, 115]), .lit (.string [116, 114, 117, 101]), .lit (.string [102, 97, 108, 115, 101]), .lit (.string [110, 117, 108, 108]), .lit (.string [100, 121, 110]), .lit (.string [98, 111, 111, 108]), .lit (.string [105, 110, 116]), .lit (.string [114, 101, 99])]
def laid_math_bits_deBruijn32tab {H : Type} : DataW H := .agg [.lit (.int .u8 0), .lit (.int .u8 1), .lit (.int .u8 28), .lit (.int .u8 2), .lit (.int .u8 29), .lit (.int .u8 14), .lit (.int .u8 24), .lit (.int .u8 3), .lit (.int .u8 30), .lit (.int .u8 22), .lit (.int .u8 20), .lit (.int .u8 15), .lit (.int .u8 25), .lit (.int .u8 17), .lit (.int .u8 4), .lit (.int .u8 8), .lit (.int .u8 31), .lit (.int .u8 27), .lit (.int .u8 13), .lit (.int .u8 23), .lit (.int .u8 21), .lit (.int .u8 19), .lit (.int .u8 16), .lit (.int .u8 7), .lit (.int .u8 26), .lit (.int .u8 12), .lit (.int .u8 18), .lit (.int .u8 6), .lit (.int .u8 11), .lit (.int .u8 5), .lit (.int .u8 10), .lit (.int .u8 9)]
def laid_math_bits_deBruijn64tab {H : Type} : DataW H := .agg [.lit (.int .u8 0), .lit (.int .u8 1), .lit (.int .u8 56), .lit (.int .u8 2), .lit (.int .u8 57), .lit (.int .u8 49), .lit (.int .u8 28), .lit (.int .u8 3), .lit (.int .u8 61), .lit (.int .u8 58), .lit (.int .u8 42), .lit (.int .u8 50), .lit (.int .u8 38), .lit (.int .u8 29), .lit (.int .u8 17), .lit (.int .u8 4), .lit (.int .u8 62), .lit (.int .u8 47), .lit (.int .u8 59), .lit (.int .u8 36), .lit (.int .u8 45), .lit (.int .u8 43), .lit (.int .u8 51), .lit (.int .u8 22), .lit (.int .u8 53), .lit (.int .u8 39), .lit (.int .u8 33), .lit (.int .u8 30), .lit (.int .u8 24), .lit (.int .u8 18), .lit (.int .u8 12), .lit (.int .u8 5), .lit (.int .u8 63), .lit (.int .u8 55), .lit (.int .u8 48), .lit (.int .u8 27), .lit (.int .u8 60), .lit (.int .u8 41), .lit (.int .u8 37), .lit (.int .u8 16), .lit (.int .u8 46), .lit (.int .u8 35), .lit (.int .u8 44), .lit (.int .u8 21), .lit (.int .u8 52), .lit (.int .u8 32), .lit (.int .u8 23), .lit (.int .u8 11), .lit (.int .u8 54), .lit (.int .u8 26), .lit (.int .u8 40), .lit (.int .u8 15), .lit (.int .u8 34), .lit (.int .u8 20), .lit (.int .u8 31), .lit (.int .u8 10), .lit (.int .u8 25), .lit (.int .u8 14), .lit (.int .u8 19), .lit (.int .u8 9), .lit (.int .u8 13), .lit (.int .u8 8), .lit (.int .u8 7), .lit (.int .u8 6)]
def laid_internal_strconv_uint64pow10 {H : Type} : DataW H := .agg [.lit (.int .u64 1), .lit (.int .u64 10), .lit (.int .u64 100), .lit (.int .u64 1000), .lit (.int .u64 10000), .lit (.int .u64 100000), .lit (.int .u64 1000000), .lit (.int .u64 10000000), .lit (.int .u64 100000000), .lit (.int .u64 1000000000), .lit (.int .u64 10000000000), .lit (.int .u64 100000000000), .lit (.int .u64 1000000000000), .lit (.int .u64 10000000000000), .lit (.int .u64 100000000000000), .lit (.int .u64 1000000000000000), .lit (.int .u64 10000000000000000), .lit (.int .u64 100000000000000000), .lit (.int .u64 1000000000000000000), .lit (.int .u64 10000000000000000000)]

/-- 'armillarylaw08.SubLeast': WHATEVER THE INPUT: true; the input reads as it did. -/
def subLeastSpec : ChangeSpec := { name := "subLeast", fn := fun _ => fun
  | [d1, d2] => { results := [.lit (.bool true)], args := [d1, d2] }
  | _ => none }
def subLeastRow : OpenClaim := { program := "ytcljgfpcdlnlkaadoor", sum := "4377729f42c7a27004a2be0fa4b5a2b8b7bebefa2b02e67efe2f0e51869a93be", func := "armillary/armillarylaw08.SubLeast", spec := "subLeast", unfollowed := true, recurses := true, named := ["armillary/lex.keys"], plainKeys := false, apart := false, laid := [("armillary/lex.keys", laid_armillary_lex_keys)] }
def SubLeastSaid : Prop := subLeastRow.holds Tryd.pinned (OpenSpec.ofChange subLeastSpec)

/-- ITS FALSE NEIGHBOUR: 'it returns false'. Refute it at one input. -/
def subLeastWrong : ChangeSpec := { name := "subLeast", fn := fun _ => fun
  | [d1, d2] => { results := [.lit (.bool false)], args := [d1, d2] }
  | _ => none }
def SubLeastWrongFalsely : Prop := subLeastRow.holds Tryd.pinned (OpenSpec.ofChange subLeastWrong)

/-- 'armillarylaw08.SubPicks': WHATEVER THE INPUT: true; the input reads as it did. -/
def subPicksSpec : ChangeSpec := { name := "subPicks", fn := fun _ => fun
  | [d1, d2] => { results := [.lit (.bool true)], args := [d1, d2] }
  | _ => none }
def subPicksRow : OpenClaim := { program := "ytcljgfpcdlnlkaadoor", sum := "4377729f42c7a27004a2be0fa4b5a2b8b7bebefa2b02e67efe2f0e51869a93be", func := "armillary/armillarylaw08.SubPicks", spec := "subPicks", unfollowed := true, recurses := true, named := ["armillary/lex.keys"], plainKeys := false, apart := false, laid := [("armillary/lex.keys", laid_armillary_lex_keys)] }
def SubPicksSaid : Prop := subPicksRow.holds Tryd.pinned (OpenSpec.ofChange subPicksSpec)

/-- ITS FALSE NEIGHBOUR: 'it returns false'. Refute it at one input. -/
def subPicksWrong : ChangeSpec := { name := "subPicks", fn := fun _ => fun
  | [d1, d2] => { results := [.lit (.bool false)], args := [d1, d2] }
  | _ => none }
def SubPicksWrongFalsely : Prop := subPicksRow.holds Tryd.pinned (OpenSpec.ofChange subPicksWrong)

/-- 'armillarylaw08.SubTells': WHATEVER THE INPUT: true; the input reads as it did. -/
def subTellsSpec : ChangeSpec := { name := "subTells", fn := fun _ => fun
  | [d1, d2, d3] => { results := [.lit (.bool true)], args := [d1, d2, d3] }
  | _ => none }
def subTellsRow : OpenClaim := { program := "ytcljgfpcdlnlkaadoor", sum := "4377729f42c7a27004a2be0fa4b5a2b8b7bebefa2b02e67efe2f0e51869a93be", func := "armillary/armillarylaw08.SubTells", spec := "subTells", unfollowed := true, recurses := true, named := ["armillary/lex.keys"], plainKeys := false, apart := false, laid := [("armillary/lex.keys", laid_armillary_lex_keys)] }
def SubTellsSaid : Prop := subTellsRow.holds Tryd.pinned (OpenSpec.ofChange subTellsSpec)

/-- ITS FALSE NEIGHBOUR: 'it returns false'. Refute it at one input. -/
def subTellsWrong : ChangeSpec := { name := "subTells", fn := fun _ => fun
  | [d1, d2, d3] => { results := [.lit (.bool false)], args := [d1, d2, d3] }
  | _ => none }
def SubTellsWrongFalsely : Prop := subTellsRow.holds Tryd.pinned (OpenSpec.ofChange subTellsWrong)

/-- 'armillarylaw08.SubOrder': WHATEVER THE INPUT: true; the input reads as it did. -/
def subOrderSpec : ChangeSpec := { name := "subOrder", fn := fun _ => fun
  | [d] => { results := [.lit (.bool true)], args := [d] }
  | _ => none }
def subOrderRow : OpenClaim := { program := "ytcljgfpcdlnlkaadoor", sum := "4377729f42c7a27004a2be0fa4b5a2b8b7bebefa2b02e67efe2f0e51869a93be", func := "armillary/armillarylaw08.SubOrder", spec := "subOrder", unfollowed := true, recurses := true, named := ["armillary/lex.keys"], plainKeys := false, apart := false, laid := [("armillary/lex.keys", laid_armillary_lex_keys)] }
def SubOrderSaid : Prop := subOrderRow.holds Tryd.pinned (OpenSpec.ofChange subOrderSpec)

/-- ITS FALSE NEIGHBOUR: 'it returns false'. Refute it at one input. -/
def subOrderWrong : ChangeSpec := { name := "subOrder", fn := fun _ => fun
  | [d] => { results := [.lit (.bool false)], args := [d] }
  | _ => none }
def SubOrderWrongFalsely : Prop := subOrderRow.holds Tryd.pinned (OpenSpec.ofChange subOrderWrong)

/-- 'armillarylaw08.SubRules': WHATEVER THE INPUT: true; the input reads as it did. -/
def subRulesSpec : ChangeSpec := { name := "subRules", fn := fun _ => fun
  | [d1, d2] => { results := [.lit (.bool true)], args := [d1, d2] }
  | _ => none }
def subRulesRow : OpenClaim := { program := "ytcljgfpcdlnlkaadoor", sum := "4377729f42c7a27004a2be0fa4b5a2b8b7bebefa2b02e67efe2f0e51869a93be", func := "armillary/armillarylaw08.SubRules", spec := "subRules", unfollowed := true, recurses := true, named := ["armillary/lex.keys"], plainKeys := false, apart := false, laid := [("armillary/lex.keys", laid_armillary_lex_keys)] }
def SubRulesSaid : Prop := subRulesRow.holds Tryd.pinned (OpenSpec.ofChange subRulesSpec)

/-- ITS FALSE NEIGHBOUR: 'it returns false'. Refute it at one input. -/
def subRulesWrong : ChangeSpec := { name := "subRules", fn := fun _ => fun
  | [d1, d2] => { results := [.lit (.bool false)], args := [d1, d2] }
  | _ => none }
def SubRulesWrongFalsely : Prop := subRulesRow.holds Tryd.pinned (OpenSpec.ofChange subRulesWrong)

/-- 'armillarylaw08.SubUnions': WHATEVER THE INPUT: true; the input reads as it did. -/
def subUnionsSpec : ChangeSpec := { name := "subUnions", fn := fun _ => fun
  | [d1, d2, d3] => { results := [.lit (.bool true)], args := [d1, d2, d3] }
  | _ => none }
def subUnionsRow : OpenClaim := { program := "ytcljgfpcdlnlkaadoor", sum := "4377729f42c7a27004a2be0fa4b5a2b8b7bebefa2b02e67efe2f0e51869a93be", func := "armillary/armillarylaw08.SubUnions", spec := "subUnions", unfollowed := true, recurses := true, named := ["armillary/lex.keys"], plainKeys := false, apart := false, laid := [("armillary/lex.keys", laid_armillary_lex_keys)] }
def SubUnionsSaid : Prop := subUnionsRow.holds Tryd.pinned (OpenSpec.ofChange subUnionsSpec)

/-- ITS FALSE NEIGHBOUR: 'it returns false'. Refute it at one input. -/
def subUnionsWrong : ChangeSpec := { name := "subUnions", fn := fun _ => fun
  | [d1, d2, d3] => { results := [.lit (.bool false)], args := [d1, d2, d3] }
  | _ => none }
def SubUnionsWrongFalsely : Prop := subUnionsRow.holds Tryd.pinned (OpenSpec.ofChange subUnionsWrong)

/-- 'armillarylaw08.SubKnown': WHATEVER THE INPUT: true; the input reads as it did. -/
def subKnownSpec : ChangeSpec := { name := "subKnown", fn := fun _ => fun
  | [] => { results := [.lit (.bool true)], args := [] }
  | _ => none }
def subKnownRow : OpenClaim := { program := "ytcljgfpcdlnlkaadoor", sum := "4377729f42c7a27004a2be0fa4b5a2b8b7bebefa2b02e67efe2f0e51869a93be", func := "armillary/armillarylaw08.SubKnown", spec := "subKnown", unfollowed := true, recurses := true, named := ["armillary/lex.keys"], plainKeys := false, apart := false, laid := [("armillary/lex.keys", laid_armillary_lex_keys)] }
def SubKnownSaid : Prop := subKnownRow.holds Tryd.pinned (OpenSpec.ofChange subKnownSpec)

/-- ITS FALSE NEIGHBOUR: 'it returns false'. Refute it at one input. -/
def subKnownWrong : ChangeSpec := { name := "subKnown", fn := fun _ => fun
  | [] => { results := [.lit (.bool false)], args := [] }
  | _ => none }
def SubKnownWrongFalsely : Prop := subKnownRow.holds Tryd.pinned (OpenSpec.ofChange subKnownWrong)

/-- 'armillarylaw10.SubstPuts': WHATEVER THE INPUT: true; the input reads as it did. -/
def substPutsSpec : ChangeSpec := { name := "substPuts", fn := fun _ => fun
  | [d1, d2, d3] => { results := [.lit (.bool true)], args := [d1, d2, d3] }
  | _ => none }
def substPutsRow : OpenClaim := { program := "ytcljgfpcdlnlkaadoor", sum := "4377729f42c7a27004a2be0fa4b5a2b8b7bebefa2b02e67efe2f0e51869a93be", func := "armillary/armillarylaw10.SubstPuts", spec := "substPuts", unfollowed := true, recurses := true, named := ["armillary/lex.keys"], plainKeys := false, apart := false, laid := [("armillary/lex.keys", laid_armillary_lex_keys)] }
def SubstPutsSaid : Prop := substPutsRow.holds Tryd.pinned (OpenSpec.ofChange substPutsSpec)

/-- ITS FALSE NEIGHBOUR: 'it returns false'. Refute it at one input. -/
def substPutsWrong : ChangeSpec := { name := "substPuts", fn := fun _ => fun
  | [d1, d2, d3] => { results := [.lit (.bool false)], args := [d1, d2, d3] }
  | _ => none }
def SubstPutsWrongFalsely : Prop := substPutsRow.holds Tryd.pinned (OpenSpec.ofChange substPutsWrong)

/-- 'armillarylaw10.SubstVars': WHATEVER THE INPUT: true; the input reads as it did. -/
def substVarsSpec : ChangeSpec := { name := "substVars", fn := fun _ => fun
  | [d1, d2, d3] => { results := [.lit (.bool true)], args := [d1, d2, d3] }
  | _ => none }
def substVarsRow : OpenClaim := { program := "ytcljgfpcdlnlkaadoor", sum := "4377729f42c7a27004a2be0fa4b5a2b8b7bebefa2b02e67efe2f0e51869a93be", func := "armillary/armillarylaw10.SubstVars", spec := "substVars", unfollowed := true, recurses := true, named := ["armillary/lex.keys"], plainKeys := false, apart := false, laid := [("armillary/lex.keys", laid_armillary_lex_keys)] }
def SubstVarsSaid : Prop := substVarsRow.holds Tryd.pinned (OpenSpec.ofChange substVarsSpec)

/-- ITS FALSE NEIGHBOUR: 'it returns false'. Refute it at one input. -/
def substVarsWrong : ChangeSpec := { name := "substVars", fn := fun _ => fun
  | [d1, d2, d3] => { results := [.lit (.bool false)], args := [d1, d2, d3] }
  | _ => none }
def SubstVarsWrongFalsely : Prop := substVarsRow.holds Tryd.pinned (OpenSpec.ofChange substVarsWrong)

/-- 'armillarylaw10.SubstFew': WHATEVER THE INPUT: true; the input reads as it did. -/
def substFewSpec : ChangeSpec := { name := "substFew", fn := fun _ => fun
  | [d1, d2, d3] => { results := [.lit (.bool true)], args := [d1, d2, d3] }
  | _ => none }
def substFewRow : OpenClaim := { program := "ytcljgfpcdlnlkaadoor", sum := "4377729f42c7a27004a2be0fa4b5a2b8b7bebefa2b02e67efe2f0e51869a93be", func := "armillary/armillarylaw10.SubstFew", spec := "substFew", unfollowed := true, recurses := true, named := ["armillary/lex.keys"], plainKeys := false, apart := false, laid := [("armillary/lex.keys", laid_armillary_lex_keys)] }
def SubstFewSaid : Prop := substFewRow.holds Tryd.pinned (OpenSpec.ofChange substFewSpec)

/-- ITS FALSE NEIGHBOUR: 'it returns false'. Refute it at one input. -/
def substFewWrong : ChangeSpec := { name := "substFew", fn := fun _ => fun
  | [d1, d2, d3] => { results := [.lit (.bool false)], args := [d1, d2, d3] }
  | _ => none }
def SubstFewWrongFalsely : Prop := substFewRow.holds Tryd.pinned (OpenSpec.ofChange substFewWrong)

/-- 'armillarylaw10.SubstStrict': WHATEVER THE INPUT: true; the input reads as it did. -/
def substStrictSpec : ChangeSpec := { name := "substStrict", fn := fun _ => fun
  | [d1, d2] => { results := [.lit (.bool true)], args := [d1, d2] }
  | _ => none }
def substStrictRow : OpenClaim := { program := "ytcljgfpcdlnlkaadoor", sum := "4377729f42c7a27004a2be0fa4b5a2b8b7bebefa2b02e67efe2f0e51869a93be", func := "armillary/armillarylaw10.SubstStrict", spec := "substStrict", unfollowed := true, recurses := true, named := ["armillary/lex.keys"], plainKeys := false, apart := false, laid := [("armillary/lex.keys", laid_armillary_lex_keys)] }
def SubstStrictSaid : Prop := substStrictRow.holds Tryd.pinned (OpenSpec.ofChange substStrictSpec)

/-- ITS FALSE NEIGHBOUR: 'it returns false'. Refute it at one input. -/
def substStrictWrong : ChangeSpec := { name := "substStrict", fn := fun _ => fun
  | [d1, d2] => { results := [.lit (.bool false)], args := [d1, d2] }
  | _ => none }
def SubstStrictWrongFalsely : Prop := substStrictRow.holds Tryd.pinned (OpenSpec.ofChange substStrictWrong)

/-- 'armillarylaw08.SubDyn': WHATEVER THE INPUT: true; the input reads as it did. -/
def subDynSpec : ChangeSpec := { name := "subDyn", fn := fun _ => fun
  | [d1, d2] => { results := [.lit (.bool true)], args := [d1, d2] }
  | _ => none }
def subDynRow : OpenClaim := { program := "ytcljgfpcdlnlkaadoor", sum := "4377729f42c7a27004a2be0fa4b5a2b8b7bebefa2b02e67efe2f0e51869a93be", func := "armillary/armillarylaw08.SubDyn", spec := "subDyn", unfollowed := true, recurses := true, named := ["armillary/lex.keys"], plainKeys := false, apart := false, laid := [("armillary/lex.keys", laid_armillary_lex_keys)] }
def SubDynSaid : Prop := subDynRow.holds Tryd.pinned (OpenSpec.ofChange subDynSpec)

/-- ITS FALSE NEIGHBOUR: 'it returns false'. Refute it at one input. -/
def subDynWrong : ChangeSpec := { name := "subDyn", fn := fun _ => fun
  | [d1, d2] => { results := [.lit (.bool false)], args := [d1, d2] }
  | _ => none }
def SubDynWrongFalsely : Prop := subDynRow.holds Tryd.pinned (OpenSpec.ofChange subDynWrong)

/-- 'armillarylaw10.SubstTwice': WHATEVER THE INPUT: true; the input reads as it did. -/
def substTwiceSpec : ChangeSpec := { name := "substTwice", fn := fun _ => fun
  | [d1, d2, d3] => { results := [.lit (.bool true)], args := [d1, d2, d3] }
  | _ => none }
def substTwiceRow : OpenClaim := { program := "ytcljgfpcdlnlkaadoor", sum := "4377729f42c7a27004a2be0fa4b5a2b8b7bebefa2b02e67efe2f0e51869a93be", func := "armillary/armillarylaw10.SubstTwice", spec := "substTwice", unfollowed := true, recurses := true, named := ["armillary/lex.keys"], plainKeys := false, apart := false, laid := [("armillary/lex.keys", laid_armillary_lex_keys)] }
def SubstTwiceSaid : Prop := substTwiceRow.holds Tryd.pinned (OpenSpec.ofChange substTwiceSpec)

/-- ITS FALSE NEIGHBOUR: 'it returns false'. Refute it at one input. -/
def substTwiceWrong : ChangeSpec := { name := "substTwice", fn := fun _ => fun
  | [d1, d2, d3] => { results := [.lit (.bool false)], args := [d1, d2, d3] }
  | _ => none }
def SubstTwiceWrongFalsely : Prop := substTwiceRow.holds Tryd.pinned (OpenSpec.ofChange substTwiceWrong)

/-- 'armillarylaw10.SubstOwn': WHATEVER THE INPUT: true; the input reads as it did. -/
def substOwnSpec : ChangeSpec := { name := "substOwn", fn := fun _ => fun
  | [d1, d2] => { results := [.lit (.bool true)], args := [d1, d2] }
  | _ => none }
def substOwnRow : OpenClaim := { program := "ytcljgfpcdlnlkaadoor", sum := "4377729f42c7a27004a2be0fa4b5a2b8b7bebefa2b02e67efe2f0e51869a93be", func := "armillary/armillarylaw10.SubstOwn", spec := "substOwn", unfollowed := true, recurses := true, named := ["armillary/lex.keys"], plainKeys := false, apart := false, laid := [("armillary/lex.keys", laid_armillary_lex_keys)] }
def SubstOwnSaid : Prop := substOwnRow.holds Tryd.pinned (OpenSpec.ofChange substOwnSpec)

/-- ITS FALSE NEIGHBOUR: 'it returns false'. Refute it at one input. -/
def substOwnWrong : ChangeSpec := { name := "substOwn", fn := fun _ => fun
  | [d1, d2] => { results := [.lit (.bool false)], args := [d1, d2] }
  | _ => none }
def SubstOwnWrongFalsely : Prop := substOwnRow.holds Tryd.pinned (OpenSpec.ofChange substOwnWrong)

/-- 'armillarylaw07.CanonSame': WHATEVER THE INPUT: true; the input reads as it did. -/
def canonSameSpec : ChangeSpec := { name := "canonSame", fn := fun _ => fun
  | [d1, d2, d3] => { results := [.lit (.bool true)], args := [d1, d2, d3] }
  | _ => none }
def canonSameRow : OpenClaim := { program := "ytcljgfpcdlnlkaadoor", sum := "4377729f42c7a27004a2be0fa4b5a2b8b7bebefa2b02e67efe2f0e51869a93be", func := "armillary/armillarylaw07.CanonSame", spec := "canonSame", unfollowed := true, recurses := true, named := ["armillary/lex.keys", "internal/strconv.uint64pow10", "math/bits.deBruijn32tab", "math/bits.deBruijn64tab"], plainKeys := false, apart := false, laid := [("math/bits.deBruijn32tab", laid_math_bits_deBruijn32tab), ("math/bits.deBruijn64tab", laid_math_bits_deBruijn64tab), ("internal/strconv.uint64pow10", laid_internal_strconv_uint64pow10), ("armillary/lex.keys", laid_armillary_lex_keys)] }
def CanonSameSaid : Prop := canonSameRow.holds Tryd.pinned (OpenSpec.ofChange canonSameSpec)

/-- ITS FALSE NEIGHBOUR: 'it returns false'. Refute it at one input. -/
def canonSameWrong : ChangeSpec := { name := "canonSame", fn := fun _ => fun
  | [d1, d2, d3] => { results := [.lit (.bool false)], args := [d1, d2, d3] }
  | _ => none }
def CanonSameWrongFalsely : Prop := canonSameRow.holds Tryd.pinned (OpenSpec.ofChange canonSameWrong)

/-- 'armillarylaw07.CanonOrder': WHATEVER THE INPUT: true; the input reads as it did. -/
def canonOrderSpec : ChangeSpec := { name := "canonOrder", fn := fun _ => fun
  | [d1, d2] => { results := [.lit (.bool true)], args := [d1, d2] }
  | _ => none }
def canonOrderRow : OpenClaim := { program := "ytcljgfpcdlnlkaadoor", sum := "4377729f42c7a27004a2be0fa4b5a2b8b7bebefa2b02e67efe2f0e51869a93be", func := "armillary/armillarylaw07.CanonOrder", spec := "canonOrder", unfollowed := true, recurses := true, named := ["armillary/lex.keys", "internal/strconv.uint64pow10", "math/bits.deBruijn32tab", "math/bits.deBruijn64tab"], plainKeys := false, apart := false, laid := [("math/bits.deBruijn32tab", laid_math_bits_deBruijn32tab), ("math/bits.deBruijn64tab", laid_math_bits_deBruijn64tab), ("internal/strconv.uint64pow10", laid_internal_strconv_uint64pow10), ("armillary/lex.keys", laid_armillary_lex_keys)] }
def CanonOrderSaid : Prop := canonOrderRow.holds Tryd.pinned (OpenSpec.ofChange canonOrderSpec)

/-- ITS FALSE NEIGHBOUR: 'it returns false'. Refute it at one input. -/
def canonOrderWrong : ChangeSpec := { name := "canonOrder", fn := fun _ => fun
  | [d1, d2] => { results := [.lit (.bool false)], args := [d1, d2] }
  | _ => none }
def CanonOrderWrongFalsely : Prop := canonOrderRow.holds Tryd.pinned (OpenSpec.ofChange canonOrderWrong)

/- THE SECOND FORM. 'bulk': how many values and letters a reading holds, each counted each time it is reached (what is shared counts as often as it is met; a slice's spare places count too). A statement '..UptoSaid' is the law's where the arguments, and the package variables that the reading takes, are together of bulk at most 1048576: NARROWER than '..Said'. Prove '..Said' where nothing that the law and all that it calls make is longer than what came in: it says more and counts as full. Else prove '..UptoSaid'. A law counts once. -/
mutual
def uptoBulk {H : Type} : DataW H → Nat
  | .lit (.string bytes) => bytes.length + 1
  | .lit _ => 1
  | .nil => 1
  | .ptr d => uptoBulk d + 1
  | .slice elems spare => uptoBulkAll elems + uptoBulkAll spare + 1
  | .agg parts => uptoBulkAll parts + 1
  | .iface _ d => uptoBulk d + 1
  | .map entries => uptoBulkEntries entries + 1
  | .held _ => 1
def uptoBulkAll {H : Type} : List (DataW H) → Nat
  | [] => 0
  | d :: r => uptoBulk d + uptoBulkAll r
def uptoBulkEntries {H : Type} : List (Lit × DataW H) → Nat
  | [] => 0
  | x :: r => uptoBulkEntry x + uptoBulkEntries r
def uptoBulkEntry {H : Type} : Lit × DataW H → Nat
  | (.string bytes, d) => bytes.length + uptoBulk d + 1
  | (_, d) => uptoBulk d + 1
 end
def uptoSmall : (H : Type) → List (DataW H) → Bool := fun _ ds => decide (uptoBulkAll ds ≤ 1048576)
def OpenSpec.upto (s : _root_.Go.ChangeSpec) : _root_.Go.OpenSpec := { _root_.Go.OpenSpec.ofChange s with cond := some uptoSmall }

/-- 'armillarylaw08.SubLeast', WHERE WHAT IT READS IS OF BULK AT MOST 1048576: true; the input reads as it did. -/
def subLeastUptoRow : OpenClaim := { program := "ytcljgfpcdlnlkaadoor", sum := "4377729f42c7a27004a2be0fa4b5a2b8b7bebefa2b02e67efe2f0e51869a93be", func := "armillary/armillarylaw08.SubLeast", spec := "subLeast", unfollowed := true, recurses := true, named := ["armillary/lex.keys"], plainKeys := false, apart := false, laid := [("armillary/lex.keys", laid_armillary_lex_keys)], narrowed := true }
def SubLeastUptoSaid : Prop := subLeastUptoRow.holds Tryd.pinned (OpenSpec.upto subLeastSpec)

/-- 'armillarylaw08.SubPicks', WHERE WHAT IT READS IS OF BULK AT MOST 1048576: true; the input reads as it did. -/
def subPicksUptoRow : OpenClaim := { program := "ytcljgfpcdlnlkaadoor", sum := "4377729f42c7a27004a2be0fa4b5a2b8b7bebefa2b02e67efe2f0e51869a93be", func := "armillary/armillarylaw08.SubPicks", spec := "subPicks", unfollowed := true, recurses := true, named := ["armillary/lex.keys"], plainKeys := false, apart := false, laid := [("armillary/lex.keys", laid_armillary_lex_keys)], narrowed := true }
def SubPicksUptoSaid : Prop := subPicksUptoRow.holds Tryd.pinned (OpenSpec.upto subPicksSpec)

/-- 'armillarylaw08.SubTells', WHERE WHAT IT READS IS OF BULK AT MOST 1048576: true; the input reads as it did. -/
def subTellsUptoRow : OpenClaim := { program := "ytcljgfpcdlnlkaadoor", sum := "4377729f42c7a27004a2be0fa4b5a2b8b7bebefa2b02e67efe2f0e51869a93be", func := "armillary/armillarylaw08.SubTells", spec := "subTells", unfollowed := true, recurses := true, named := ["armillary/lex.keys"], plainKeys := false, apart := false, laid := [("armillary/lex.keys", laid_armillary_lex_keys)], narrowed := true }
def SubTellsUptoSaid : Prop := subTellsUptoRow.holds Tryd.pinned (OpenSpec.upto subTellsSpec)

/-- 'armillarylaw08.SubOrder', WHERE WHAT IT READS IS OF BULK AT MOST 1048576: true; the input reads as it did. -/
def subOrderUptoRow : OpenClaim := { program := "ytcljgfpcdlnlkaadoor", sum := "4377729f42c7a27004a2be0fa4b5a2b8b7bebefa2b02e67efe2f0e51869a93be", func := "armillary/armillarylaw08.SubOrder", spec := "subOrder", unfollowed := true, recurses := true, named := ["armillary/lex.keys"], plainKeys := false, apart := false, laid := [("armillary/lex.keys", laid_armillary_lex_keys)], narrowed := true }
def SubOrderUptoSaid : Prop := subOrderUptoRow.holds Tryd.pinned (OpenSpec.upto subOrderSpec)

/-- 'armillarylaw08.SubRules', WHERE WHAT IT READS IS OF BULK AT MOST 1048576: true; the input reads as it did. -/
def subRulesUptoRow : OpenClaim := { program := "ytcljgfpcdlnlkaadoor", sum := "4377729f42c7a27004a2be0fa4b5a2b8b7bebefa2b02e67efe2f0e51869a93be", func := "armillary/armillarylaw08.SubRules", spec := "subRules", unfollowed := true, recurses := true, named := ["armillary/lex.keys"], plainKeys := false, apart := false, laid := [("armillary/lex.keys", laid_armillary_lex_keys)], narrowed := true }
def SubRulesUptoSaid : Prop := subRulesUptoRow.holds Tryd.pinned (OpenSpec.upto subRulesSpec)

/-- 'armillarylaw08.SubUnions', WHERE WHAT IT READS IS OF BULK AT MOST 1048576: true; the input reads as it did. -/
def subUnionsUptoRow : OpenClaim := { program := "ytcljgfpcdlnlkaadoor", sum := "4377729f42c7a27004a2be0fa4b5a2b8b7bebefa2b02e67efe2f0e51869a93be", func := "armillary/armillarylaw08.SubUnions", spec := "subUnions", unfollowed := true, recurses := true, named := ["armillary/lex.keys"], plainKeys := false, apart := false, laid := [("armillary/lex.keys", laid_armillary_lex_keys)], narrowed := true }
def SubUnionsUptoSaid : Prop := subUnionsUptoRow.holds Tryd.pinned (OpenSpec.upto subUnionsSpec)

/-- 'armillarylaw08.SubKnown', WHERE WHAT IT READS IS OF BULK AT MOST 1048576: true; the input reads as it did. -/
def subKnownUptoRow : OpenClaim := { program := "ytcljgfpcdlnlkaadoor", sum := "4377729f42c7a27004a2be0fa4b5a2b8b7bebefa2b02e67efe2f0e51869a93be", func := "armillary/armillarylaw08.SubKnown", spec := "subKnown", unfollowed := true, recurses := true, named := ["armillary/lex.keys"], plainKeys := false, apart := false, laid := [("armillary/lex.keys", laid_armillary_lex_keys)], narrowed := true }
def SubKnownUptoSaid : Prop := subKnownUptoRow.holds Tryd.pinned (OpenSpec.upto subKnownSpec)

/-- 'armillarylaw10.SubstPuts', WHERE WHAT IT READS IS OF BULK AT MOST 1048576: true; the input reads as it did. -/
def substPutsUptoRow : OpenClaim := { program := "ytcljgfpcdlnlkaadoor", sum := "4377729f42c7a27004a2be0fa4b5a2b8b7bebefa2b02e67efe2f0e51869a93be", func := "armillary/armillarylaw10.SubstPuts", spec := "substPuts", unfollowed := true, recurses := true, named := ["armillary/lex.keys"], plainKeys := false, apart := false, laid := [("armillary/lex.keys", laid_armillary_lex_keys)], narrowed := true }
def SubstPutsUptoSaid : Prop := substPutsUptoRow.holds Tryd.pinned (OpenSpec.upto substPutsSpec)

/-- 'armillarylaw10.SubstVars', WHERE WHAT IT READS IS OF BULK AT MOST 1048576: true; the input reads as it did. -/
def substVarsUptoRow : OpenClaim := { program := "ytcljgfpcdlnlkaadoor", sum := "4377729f42c7a27004a2be0fa4b5a2b8b7bebefa2b02e67efe2f0e51869a93be", func := "armillary/armillarylaw10.SubstVars", spec := "substVars", unfollowed := true, recurses := true, named := ["armillary/lex.keys"], plainKeys := false, apart := false, laid := [("armillary/lex.keys", laid_armillary_lex_keys)], narrowed := true }
def SubstVarsUptoSaid : Prop := substVarsUptoRow.holds Tryd.pinned (OpenSpec.upto substVarsSpec)

/-- 'armillarylaw10.SubstFew', WHERE WHAT IT READS IS OF BULK AT MOST 1048576: true; the input reads as it did. -/
def substFewUptoRow : OpenClaim := { program := "ytcljgfpcdlnlkaadoor", sum := "4377729f42c7a27004a2be0fa4b5a2b8b7bebefa2b02e67efe2f0e51869a93be", func := "armillary/armillarylaw10.SubstFew", spec := "substFew", unfollowed := true, recurses := true, named := ["armillary/lex.keys"], plainKeys := false, apart := false, laid := [("armillary/lex.keys", laid_armillary_lex_keys)], narrowed := true }
def SubstFewUptoSaid : Prop := substFewUptoRow.holds Tryd.pinned (OpenSpec.upto substFewSpec)

/-- 'armillarylaw10.SubstStrict', WHERE WHAT IT READS IS OF BULK AT MOST 1048576: true; the input reads as it did. -/
def substStrictUptoRow : OpenClaim := { program := "ytcljgfpcdlnlkaadoor", sum := "4377729f42c7a27004a2be0fa4b5a2b8b7bebefa2b02e67efe2f0e51869a93be", func := "armillary/armillarylaw10.SubstStrict", spec := "substStrict", unfollowed := true, recurses := true, named := ["armillary/lex.keys"], plainKeys := false, apart := false, laid := [("armillary/lex.keys", laid_armillary_lex_keys)], narrowed := true }
def SubstStrictUptoSaid : Prop := substStrictUptoRow.holds Tryd.pinned (OpenSpec.upto substStrictSpec)

/-- 'armillarylaw08.SubDyn', WHERE WHAT IT READS IS OF BULK AT MOST 1048576: true; the input reads as it did. -/
def subDynUptoRow : OpenClaim := { program := "ytcljgfpcdlnlkaadoor", sum := "4377729f42c7a27004a2be0fa4b5a2b8b7bebefa2b02e67efe2f0e51869a93be", func := "armillary/armillarylaw08.SubDyn", spec := "subDyn", unfollowed := true, recurses := true, named := ["armillary/lex.keys"], plainKeys := false, apart := false, laid := [("armillary/lex.keys", laid_armillary_lex_keys)], narrowed := true }
def SubDynUptoSaid : Prop := subDynUptoRow.holds Tryd.pinned (OpenSpec.upto subDynSpec)

/-- 'armillarylaw10.SubstTwice', WHERE WHAT IT READS IS OF BULK AT MOST 1048576: true; the input reads as it did. -/
def substTwiceUptoRow : OpenClaim := { program := "ytcljgfpcdlnlkaadoor", sum := "4377729f42c7a27004a2be0fa4b5a2b8b7bebefa2b02e67efe2f0e51869a93be", func := "armillary/armillarylaw10.SubstTwice", spec := "substTwice", unfollowed := true, recurses := true, named := ["armillary/lex.keys"], plainKeys := false, apart := false, laid := [("armillary/lex.keys", laid_armillary_lex_keys)], narrowed := true }
def SubstTwiceUptoSaid : Prop := substTwiceUptoRow.holds Tryd.pinned (OpenSpec.upto substTwiceSpec)

/-- 'armillarylaw10.SubstOwn', WHERE WHAT IT READS IS OF BULK AT MOST 1048576: true; the input reads as it did. -/
def substOwnUptoRow : OpenClaim := { program := "ytcljgfpcdlnlkaadoor", sum := "4377729f42c7a27004a2be0fa4b5a2b8b7bebefa2b02e67efe2f0e51869a93be", func := "armillary/armillarylaw10.SubstOwn", spec := "substOwn", unfollowed := true, recurses := true, named := ["armillary/lex.keys"], plainKeys := false, apart := false, laid := [("armillary/lex.keys", laid_armillary_lex_keys)], narrowed := true }
def SubstOwnUptoSaid : Prop := substOwnUptoRow.holds Tryd.pinned (OpenSpec.upto substOwnSpec)

/-- 'armillarylaw07.CanonSame', WHERE WHAT IT READS IS OF BULK AT MOST 1048576: true; the input reads as it did. -/
def canonSameUptoRow : OpenClaim := { program := "ytcljgfpcdlnlkaadoor", sum := "4377729f42c7a27004a2be0fa4b5a2b8b7bebefa2b02e67efe2f0e51869a93be", func := "armillary/armillarylaw07.CanonSame", spec := "canonSame", unfollowed := true, recurses := true, named := ["armillary/lex.keys", "internal/strconv.uint64pow10", "math/bits.deBruijn32tab", "math/bits.deBruijn64tab"], plainKeys := false, apart := false, laid := [("math/bits.deBruijn32tab", laid_math_bits_deBruijn32tab), ("math/bits.deBruijn64tab", laid_math_bits_deBruijn64tab), ("internal/strconv.uint64pow10", laid_internal_strconv_uint64pow10), ("armillary/lex.keys", laid_armillary_lex_keys)], narrowed := true }
def CanonSameUptoSaid : Prop := canonSameUptoRow.holds Tryd.pinned (OpenSpec.upto canonSameSpec)

/-- 'armillarylaw07.CanonOrder', WHERE WHAT IT READS IS OF BULK AT MOST 1048576: true; the input reads as it did. -/
def canonOrderUptoRow : OpenClaim := { program := "ytcljgfpcdlnlkaadoor", sum := "4377729f42c7a27004a2be0fa4b5a2b8b7bebefa2b02e67efe2f0e51869a93be", func := "armillary/armillarylaw07.CanonOrder", spec := "canonOrder", unfollowed := true, recurses := true, named := ["armillary/lex.keys", "internal/strconv.uint64pow10", "math/bits.deBruijn32tab", "math/bits.deBruijn64tab"], plainKeys := false, apart := false, laid := [("math/bits.deBruijn32tab", laid_math_bits_deBruijn32tab), ("math/bits.deBruijn64tab", laid_math_bits_deBruijn64tab), ("internal/strconv.uint64pow10", laid_internal_strconv_uint64pow10), ("armillary/lex.keys", laid_armillary_lex_keys)], narrowed := true }
def CanonOrderUptoSaid : Prop := canonOrderUptoRow.holds Tryd.pinned (OpenSpec.upto canonOrderSpec)

end Rows
end Go.Proofs.YtcljgfpcdlnlkaaDoor
