/-
  NARROWER THAN 'FOR EVERY INPUT', by the rows' own cells (each row's printed sentence says how): JobMays: laid · JobNexts: laid · JobEnds: laid · DescNames: laid · DescMays: laid · DescPuts: laid · JobPuts: laid · JobGets: laid · JobBack: laid · DescGets: laid · DescBack: laid · DescTurned: laid · CatalogCreates: laid · CatalogBegins: laid · CatalogSteps: laid · CatalogRight: laid · CatalogRound: laid · CatalogTables: laid · CatalogWays: laid.
  DERIVED. THE GIVEN ROWS OF THIS SEAT. 19 by the template 'for every input the law returns true; each argument reads behind the call as it read before'; 0 by the template 'total and deterministic' (their statements: YtjgomlcdmpcoaaaDoorTotals.lean).
  GIVEN WITH THE SEED: the statements are not yours to turn. If you find one false, say at which input.
  Laid BY PROGRAM, IN A SANDBOX (cutbox-rows.mjs): the forced cells as the released guide's own fill.sh prints them over the translation 63ad31520f026ee8… (all of the seat's roots in one cut). By AI agents, Wed Nov 11 2026. No macro, syntax, notation, axiom, sorry.
-/
import Derived.Test.YtjgomlcdmpcoaaaDoorChecked
import GoSem.Claim
import GoSem.ClaimJoined
import GoSem.ClaimMapViews
import Derived.JoinedTies
import Derived.KernelRfl
namespace Go.Proofs.YtjgomlcdmpcoaaaDoor
/- THE CELL 'sum', in the pinned program and in every row, IS THE sha256 OF THE DUMP (.gsa) THAT YtjgomlcdmpcoaaaDoorProg.lean LOADS. Nothing in Lean hashes anything: it is a label: what it is worth is what the hold of that sum in a sandbox is worth. -/
noncomputable def Tryd.pinned : Pinned := { name := "ytjgomlcdmpcoaaadoor", sum := "63ad31520f026ee80d3f4f09fec86862c22fe2f26e14bf6cb50dd6eb0671d06c", checked := Tryd.checked }
namespace Rows
def none {H : Type} : Left H := { results := [], args := [] }

/- WHAT THE LISTED PACKAGE-LEVEL VARIABLES READ AS WHEN THE CALL BEGINS. Each datum BY PROGRAM (the guide's laid-datum.mjs) off the statement by which the dump's own 'gosem.cut.vars' lays the variable. In a bare row this is a premise. The card (YtjgomlcdmpcoaaaDoorCards.lean) ties it to the program's text. -/
def laid_unicode_White_Space {H : Type} : DataW H := .ptr (.agg [.slice [.agg [.lit (.int .u16 9), .lit (.int .u16 13), .lit (.int .u16 1)], .agg [.lit (.int .u16 32), .lit (.int .u16 133), .lit (.int .u16 101)], .agg [.lit (.int .u16 160), .lit (.int .u16 5760), .lit (.int .u16 5600)], .agg [.lit (.int .u16 8192), .lit (.int .u16 8202), .lit (.int .u16 1)], .agg [.lit (.int .u16 8232), .lit (.int .u16 8233), .lit (.int .u16 1)], .agg [.lit (.int .u16 8239), .lit (.int .u16 8287), .lit (.int .u16 48)], .agg [.lit (.int .u16 12288), .lit (.int .u16 12288), .lit (.int .u16 1)]] [], .nil, .lit (.int .i64 2)])
def laid_strings_asciiSpace {H : Type} : DataW H := .agg [.lit (.int .u8 0), .lit (.int .u8 0), .lit (.int .u8 0), .lit (.int .u8 0), .lit (.int .u8 0), .lit (.int .u8 0), .lit (.int .u8 0), .lit (.int .u8 0), .lit (.int .u8 0), .lit (.int .u8 1), .lit (.int .u8 1), .lit (.int .u8 1), .lit (.int .u8 1), .lit (.int .u8 1), .lit (.int .u8 0), .lit (.int .u8 0), .lit (.int .u8 0), .lit (.int .u8 0), .lit (.int .u8 0), .lit (.int .u8 0), .lit (.int .u8 0), .lit (.int .u8 0), .lit (.int .u8 0), .lit (.int .u8 0), .lit (.int .u8 0), .lit (.int .u8 0), .lit (.int .u8 0), .lit (.int .u8 0), .lit (.int .u8 0), .lit (.int .u8 0), .lit (.int .u8 0), .lit (.int .u8 0), .lit (.int .u8 1), .lit (.int .u8 0), .lit (.int .u8 0), .lit (.int .u8 0), .lit (.int .u8 0), .lit (.int .u8 0), .lit (.int .u8 0), .lit (.int .u8 0), .lit (.int .u8 0), .lit (.int .u8 0), .lit (.int .u8 0), .lit (.int .u8 0), .lit (.int .u8 0), .lit (.int .u8 0), .lit (.int .u8 0), .lit (.int .u8 0), .lit (.int .u8 0), .lit (.int .u8 0), .lit (.int .u8 0), .lit (.int .u8 0), .lit (.int .u8 0), .lit (.int .u8 0), .lit (.int .u8 0), .lit (.int .u8 0), .lit (.int .u8 0), .lit (.int .u8 0), .lit (.int .u8 0), .lit (.int .u8 0), .lit (.int .u8 0), .lit (.int .u8 0), .lit (.int .u8 0), .lit (.int .u8 0), .lit (.int .u8 0), .lit (.int .u8 0), .lit (.int .u8 0), .lit (.int .u8 0), .lit (.int .u8 0), .lit (.int .u8 0), .lit (.int .u8 0), .lit (.int .u8 0), .lit (.int .u8 0), .lit (.int .u8 0), .lit (.int .u8 0), .lit (.int .u8 0), .lit (.int .u8 0), .lit (.int .u8 0), .lit (.int .u8 0), .lit (.int .u8 0), .lit (.int .u8 0), .lit (.int .u8 0), .lit (.int .u8 0), .lit (.int .u8 0), .lit (.int .u8 0), .lit (.int .u8 0), .lit (.int .u8 0), .lit (.int .u8 0), .lit (.int .u8 0), .lit (.int .u8 0), .lit (.int .u8 0), .lit (.int .u8 0), .lit (.int .u8 0), .lit (.int .u8 0), .lit (.int .u8 0), .lit (.int .u8 0), .lit (.int .u8 0), .lit (.int .u8 0), .lit (.int .u8 0), .lit (.int .u8 0), .lit (.int .u8 0), .lit (.int .u8 0), .lit (.int .u8 0), .lit (.int .u8 0), .lit (.int .u8 0), .lit (.int .u8 0), .lit (.int .u8 0), .lit (.int .u8 0), .lit (.int .u8 0), .lit (.int .u8 0), .lit (.int .u8 0), .lit (.int .u8 0), .lit (.int .u8 0), .lit (.int .u8 0), .lit (.int .u8 0), .lit (.int .u8 0), .lit (.int .u8 0), .lit (.int .u8 0), .lit (.int .u8 0), .lit (.int .u8 0), .lit (.int .u8 0), .lit (.int .u8 0), .lit (.int .u8 0), .lit (.int .u8 0), .lit (.int .u8 0), .lit (.int .u8 0), .lit (.int .u8 0), .lit (.int .u8 0), .lit (.int .u8 0), .lit (.int .u8 0), .lit (.int .u8 0), .lit (.int .u8 0), .lit (.int .u8 0), .lit (.int .u8 0), .lit (.int .u8 0), .lit (.int .u8 0), .lit (.int .u8 0), .lit (.int .u8 0), .lit (.int .u8 0), .lit (.int .u8 0), .lit (.int .u8 0), .lit (.int .u8 0), .lit (.int .u8 0), .lit (.int .u8 0), .lit (.int .u8 0), .lit (.int .u8 0), .lit (.int .u8 0), .lit (.int .u8 0), .lit (.int .u8 0), .lit (.int .u8 0), .lit (.int .u8 0), .lit (.int .u8 0), .lit (.int .u8 0), .lit (.int .u8 0), .lit (.int .u8 0), .lit (.int .u8 0), .lit (.int .u8 0), .lit (.int .u8 0), .lit (.int .u8 0), .lit (.int .u8 0), .lit (.int .u8 0), .lit (.int .u8 0), .lit (.int .u8 0), .lit (.int .u8 0), .lit (.int .u8 0), .lit (.int .u8 0), .lit (.int .u8 0), .lit (.int .u8 0), .lit (.int .u8 0), .lit (.int .u8 0), .lit (.int .u8 0), .lit (.int .u8 0), .lit (.int .u8 0), .lit (.int .u8 0), .lit (.int .u8 0), .lit (.int .u8 0), .lit (.int .u8 0), .lit (.int .u8 0), .lit (.int .u8 0), .lit (.int .u8 0), .lit (.int .u8 0), .lit (.int .u8 0), .lit (.int .u8 0), .lit (.int .u8 0), .lit (.int .u8 0), .lit (.int .u8 0), .lit (.int .u8 0), .lit (.int .u8 0), .lit (.int .u8 0), .lit (.int .u8 0), .lit (.int .u8 0), .lit (.int .u8 0), .lit (.int .u8 0), .lit (.int .u8 0), .lit (.int .u8 0), .lit (.int .u8 0), .lit (.int .u8 0), .lit (.int .u8 0), .lit (.int .u8 0), .lit (.int .u8 0), .lit (.int .u8 0), .lit (.int .u8 0), .lit (.int .u8 0), .lit (.int .u8 0), .lit (.int .u8 0), .lit (.int .u8 0), .lit (.int .u8 0), .lit (.int .u8 0), .lit (.int .u8 0), .lit (.int .u8 0), .lit (.int .u8 0), .lit (.int .u8 0), .lit (.int .u8 0), .lit (.int .u8 0), .lit (.int .u8 0), .lit (.int .u8 0), .lit (.int .u8 0), .lit (.int .u8 0), .lit (.int .u8 0), .lit (.int .u8 0), .lit (.int .u8 0), .lit (.int .u8 0), .lit (.int .u8 0), .lit (.int .u8 0), .lit (.int .u8 0), .lit (.int .u8 0), .lit (.int .u8 0), .lit (.int .u8 0), .lit (.int .u8 0), .lit (.int .u8 0), .lit (.int .u8 0), .lit (.int .u8 0), .lit (.int .u8 0), .lit (.int .u8 0), .lit (.int .u8 0), .lit (.int .u8 0), .lit (.int .u8 0), .lit (.int .u8 0), .lit (.int .u8 0), .lit (.int .u8 0), .lit (.int .u8 0), .lit (.int .u8 0), .lit (.int .u8 0), .lit (.int .u8 0), .lit (.int .u8 0), .lit (.int .u8 0), .lit (.int .u8 0), .lit (.int .u8 0), .lit (.int .u8 0), .lit (.int .u8 0), .lit (.int .u8 0), .lit (.int .u8 0), .lit (.int .u8 0), .lit (.int .u8 0), .lit (.int .u8 0), .lit (.int .u8 0)]

/-- 'falseworklaw24.JobMays': WHATEVER THE INPUT: true; the input reads as it did. -/
def jobMaysSpec : ChangeSpec := { name := "jobMays", fn := fun _ => fun
  | [d] => { results := [.lit (.bool true)], args := [d] }
  | _ => none }
def jobMaysRow : OpenClaim := { program := "ytjgomlcdmpcoaaadoor", sum := "63ad31520f026ee80d3f4f09fec86862c22fe2f26e14bf6cb50dd6eb0671d06c", func := "falsework/falseworklaw24.JobMays", spec := "jobMays", inPlace := ["math.Float64frombits"], unfollowed := true, recurses := true, named := ["strings.asciiSpace", "unicode.White_Space"], apart := false, laid := [("unicode.White_Space", laid_unicode_White_Space), ("strings.asciiSpace", laid_strings_asciiSpace)] }
def JobMaysSaid : Prop := jobMaysRow.holds Tryd.pinned (OpenSpec.ofChange jobMaysSpec)

/-- ITS FALSE NEIGHBOUR: 'it returns false'. Refute it at one input. -/
def jobMaysWrong : ChangeSpec := { name := "jobMays", fn := fun _ => fun
  | [d] => { results := [.lit (.bool false)], args := [d] }
  | _ => none }
def JobMaysWrongFalsely : Prop := jobMaysRow.holds Tryd.pinned (OpenSpec.ofChange jobMaysWrong)

/-- 'falseworklaw24.JobNexts': WHATEVER THE INPUT: true; the input reads as it did. -/
def jobNextsSpec : ChangeSpec := { name := "jobNexts", fn := fun _ => fun
  | [d1, d2] => { results := [.lit (.bool true)], args := [d1, d2] }
  | _ => none }
def jobNextsRow : OpenClaim := { program := "ytjgomlcdmpcoaaadoor", sum := "63ad31520f026ee80d3f4f09fec86862c22fe2f26e14bf6cb50dd6eb0671d06c", func := "falsework/falseworklaw24.JobNexts", spec := "jobNexts", inPlace := ["math.Float64frombits"], unfollowed := true, recurses := true, named := ["strings.asciiSpace", "unicode.White_Space"], apart := false, laid := [("unicode.White_Space", laid_unicode_White_Space), ("strings.asciiSpace", laid_strings_asciiSpace)] }
def JobNextsSaid : Prop := jobNextsRow.holds Tryd.pinned (OpenSpec.ofChange jobNextsSpec)

/-- ITS FALSE NEIGHBOUR: 'it returns false'. Refute it at one input. -/
def jobNextsWrong : ChangeSpec := { name := "jobNexts", fn := fun _ => fun
  | [d1, d2] => { results := [.lit (.bool false)], args := [d1, d2] }
  | _ => none }
def JobNextsWrongFalsely : Prop := jobNextsRow.holds Tryd.pinned (OpenSpec.ofChange jobNextsWrong)

/-- 'falseworklaw24.JobEnds': WHATEVER THE INPUT: true; the input reads as it did. -/
def jobEndsSpec : ChangeSpec := { name := "jobEnds", fn := fun _ => fun
  | [d1, d2] => { results := [.lit (.bool true)], args := [d1, d2] }
  | _ => none }
def jobEndsRow : OpenClaim := { program := "ytjgomlcdmpcoaaadoor", sum := "63ad31520f026ee80d3f4f09fec86862c22fe2f26e14bf6cb50dd6eb0671d06c", func := "falsework/falseworklaw24.JobEnds", spec := "jobEnds", inPlace := ["math.Float64frombits"], unfollowed := true, recurses := true, named := ["strings.asciiSpace", "unicode.White_Space"], apart := false, laid := [("unicode.White_Space", laid_unicode_White_Space), ("strings.asciiSpace", laid_strings_asciiSpace)] }
def JobEndsSaid : Prop := jobEndsRow.holds Tryd.pinned (OpenSpec.ofChange jobEndsSpec)

/-- ITS FALSE NEIGHBOUR: 'it returns false'. Refute it at one input. -/
def jobEndsWrong : ChangeSpec := { name := "jobEnds", fn := fun _ => fun
  | [d1, d2] => { results := [.lit (.bool false)], args := [d1, d2] }
  | _ => none }
def JobEndsWrongFalsely : Prop := jobEndsRow.holds Tryd.pinned (OpenSpec.ofChange jobEndsWrong)

/-- 'falseworklaw6.DescNames': WHATEVER THE INPUT: true; the input reads as it did. -/
def descNamesSpec : ChangeSpec := { name := "descNames", fn := fun _ => fun
  | [d] => { results := [.lit (.bool true)], args := [d] }
  | _ => none }
def descNamesRow : OpenClaim := { program := "ytjgomlcdmpcoaaadoor", sum := "63ad31520f026ee80d3f4f09fec86862c22fe2f26e14bf6cb50dd6eb0671d06c", func := "falsework/falseworklaw6.DescNames", spec := "descNames", inPlace := ["math.Float64frombits"], unfollowed := true, recurses := true, named := ["strings.asciiSpace", "unicode.White_Space"], apart := false, laid := [("unicode.White_Space", laid_unicode_White_Space), ("strings.asciiSpace", laid_strings_asciiSpace)] }
def DescNamesSaid : Prop := descNamesRow.holds Tryd.pinned (OpenSpec.ofChange descNamesSpec)

/-- ITS FALSE NEIGHBOUR: 'it returns false'. Refute it at one input. -/
def descNamesWrong : ChangeSpec := { name := "descNames", fn := fun _ => fun
  | [d] => { results := [.lit (.bool false)], args := [d] }
  | _ => none }
def DescNamesWrongFalsely : Prop := descNamesRow.holds Tryd.pinned (OpenSpec.ofChange descNamesWrong)

/-- 'falseworklaw6.DescMays': WHATEVER THE INPUT: true; the input reads as it did. -/
def descMaysSpec : ChangeSpec := { name := "descMays", fn := fun _ => fun
  | [d] => { results := [.lit (.bool true)], args := [d] }
  | _ => none }
def descMaysRow : OpenClaim := { program := "ytjgomlcdmpcoaaadoor", sum := "63ad31520f026ee80d3f4f09fec86862c22fe2f26e14bf6cb50dd6eb0671d06c", func := "falsework/falseworklaw6.DescMays", spec := "descMays", inPlace := ["math.Float64frombits"], unfollowed := true, recurses := true, named := ["strings.asciiSpace", "unicode.White_Space"], apart := false, laid := [("unicode.White_Space", laid_unicode_White_Space), ("strings.asciiSpace", laid_strings_asciiSpace)] }
def DescMaysSaid : Prop := descMaysRow.holds Tryd.pinned (OpenSpec.ofChange descMaysSpec)

/-- ITS FALSE NEIGHBOUR: 'it returns false'. Refute it at one input. -/
def descMaysWrong : ChangeSpec := { name := "descMays", fn := fun _ => fun
  | [d] => { results := [.lit (.bool false)], args := [d] }
  | _ => none }
def DescMaysWrongFalsely : Prop := descMaysRow.holds Tryd.pinned (OpenSpec.ofChange descMaysWrong)

/-- 'falseworklaw6.DescPuts': WHATEVER THE INPUT: true; the input reads as it did. -/
def descPutsSpec : ChangeSpec := { name := "descPuts", fn := fun _ => fun
  | [d] => { results := [.lit (.bool true)], args := [d] }
  | _ => none }
def descPutsRow : OpenClaim := { program := "ytjgomlcdmpcoaaadoor", sum := "63ad31520f026ee80d3f4f09fec86862c22fe2f26e14bf6cb50dd6eb0671d06c", func := "falsework/falseworklaw6.DescPuts", spec := "descPuts", inPlace := ["math.Float64frombits"], unfollowed := true, recurses := true, named := ["strings.asciiSpace", "unicode.White_Space"], apart := false, laid := [("unicode.White_Space", laid_unicode_White_Space), ("strings.asciiSpace", laid_strings_asciiSpace)] }
def DescPutsSaid : Prop := descPutsRow.holds Tryd.pinned (OpenSpec.ofChange descPutsSpec)

/-- ITS FALSE NEIGHBOUR: 'it returns false'. Refute it at one input. -/
def descPutsWrong : ChangeSpec := { name := "descPuts", fn := fun _ => fun
  | [d] => { results := [.lit (.bool false)], args := [d] }
  | _ => none }
def DescPutsWrongFalsely : Prop := descPutsRow.holds Tryd.pinned (OpenSpec.ofChange descPutsWrong)

/-- 'falseworklaw24.JobPuts': WHATEVER THE INPUT: true; the input reads as it did. -/
def jobPutsSpec : ChangeSpec := { name := "jobPuts", fn := fun _ => fun
  | [d] => { results := [.lit (.bool true)], args := [d] }
  | _ => none }
def jobPutsRow : OpenClaim := { program := "ytjgomlcdmpcoaaadoor", sum := "63ad31520f026ee80d3f4f09fec86862c22fe2f26e14bf6cb50dd6eb0671d06c", func := "falsework/falseworklaw24.JobPuts", spec := "jobPuts", inPlace := ["math.Float64frombits"], unfollowed := true, recurses := true, named := ["strings.asciiSpace", "unicode.White_Space"], apart := false, laid := [("unicode.White_Space", laid_unicode_White_Space), ("strings.asciiSpace", laid_strings_asciiSpace)] }
def JobPutsSaid : Prop := jobPutsRow.holds Tryd.pinned (OpenSpec.ofChange jobPutsSpec)

/-- ITS FALSE NEIGHBOUR: 'it returns false'. Refute it at one input. -/
def jobPutsWrong : ChangeSpec := { name := "jobPuts", fn := fun _ => fun
  | [d] => { results := [.lit (.bool false)], args := [d] }
  | _ => none }
def JobPutsWrongFalsely : Prop := jobPutsRow.holds Tryd.pinned (OpenSpec.ofChange jobPutsWrong)

/-- 'falseworklaw24.JobGets': WHATEVER THE INPUT: true; the input reads as it did. -/
def jobGetsSpec : ChangeSpec := { name := "jobGets", fn := fun _ => fun
  | [d] => { results := [.lit (.bool true)], args := [d] }
  | _ => none }
def jobGetsRow : OpenClaim := { program := "ytjgomlcdmpcoaaadoor", sum := "63ad31520f026ee80d3f4f09fec86862c22fe2f26e14bf6cb50dd6eb0671d06c", func := "falsework/falseworklaw24.JobGets", spec := "jobGets", inPlace := ["math.Float64frombits"], unfollowed := true, recurses := true, named := ["strings.asciiSpace", "unicode.White_Space"], apart := false, laid := [("unicode.White_Space", laid_unicode_White_Space), ("strings.asciiSpace", laid_strings_asciiSpace)] }
def JobGetsSaid : Prop := jobGetsRow.holds Tryd.pinned (OpenSpec.ofChange jobGetsSpec)

/-- ITS FALSE NEIGHBOUR: 'it returns false'. Refute it at one input. -/
def jobGetsWrong : ChangeSpec := { name := "jobGets", fn := fun _ => fun
  | [d] => { results := [.lit (.bool false)], args := [d] }
  | _ => none }
def JobGetsWrongFalsely : Prop := jobGetsRow.holds Tryd.pinned (OpenSpec.ofChange jobGetsWrong)

/-- 'falseworklaw24.JobBack': WHATEVER THE INPUT: true; the input reads as it did. -/
def jobBackSpec : ChangeSpec := { name := "jobBack", fn := fun _ => fun
  | [d1, d2, d3] => { results := [.lit (.bool true)], args := [d1, d2, d3] }
  | _ => none }
def jobBackRow : OpenClaim := { program := "ytjgomlcdmpcoaaadoor", sum := "63ad31520f026ee80d3f4f09fec86862c22fe2f26e14bf6cb50dd6eb0671d06c", func := "falsework/falseworklaw24.JobBack", spec := "jobBack", inPlace := ["math.Float64frombits"], unfollowed := true, recurses := true, named := ["strings.asciiSpace", "unicode.White_Space"], apart := false, laid := [("unicode.White_Space", laid_unicode_White_Space), ("strings.asciiSpace", laid_strings_asciiSpace)] }
def JobBackSaid : Prop := jobBackRow.holds Tryd.pinned (OpenSpec.ofChange jobBackSpec)

/-- ITS FALSE NEIGHBOUR: 'it returns false'. Refute it at one input. -/
def jobBackWrong : ChangeSpec := { name := "jobBack", fn := fun _ => fun
  | [d1, d2, d3] => { results := [.lit (.bool false)], args := [d1, d2, d3] }
  | _ => none }
def JobBackWrongFalsely : Prop := jobBackRow.holds Tryd.pinned (OpenSpec.ofChange jobBackWrong)

/-- 'falseworklaw6.DescGets': WHATEVER THE INPUT: true; the input reads as it did. -/
def descGetsSpec : ChangeSpec := { name := "descGets", fn := fun _ => fun
  | [d] => { results := [.lit (.bool true)], args := [d] }
  | _ => none }
def descGetsRow : OpenClaim := { program := "ytjgomlcdmpcoaaadoor", sum := "63ad31520f026ee80d3f4f09fec86862c22fe2f26e14bf6cb50dd6eb0671d06c", func := "falsework/falseworklaw6.DescGets", spec := "descGets", inPlace := ["math.Float64frombits"], unfollowed := true, recurses := true, named := ["strings.asciiSpace", "unicode.White_Space"], apart := false, laid := [("unicode.White_Space", laid_unicode_White_Space), ("strings.asciiSpace", laid_strings_asciiSpace)] }
def DescGetsSaid : Prop := descGetsRow.holds Tryd.pinned (OpenSpec.ofChange descGetsSpec)

/-- ITS FALSE NEIGHBOUR: 'it returns false'. Refute it at one input. -/
def descGetsWrong : ChangeSpec := { name := "descGets", fn := fun _ => fun
  | [d] => { results := [.lit (.bool false)], args := [d] }
  | _ => none }
def DescGetsWrongFalsely : Prop := descGetsRow.holds Tryd.pinned (OpenSpec.ofChange descGetsWrong)

/-- 'falseworklaw6.DescBack': WHATEVER THE INPUT: true; the input reads as it did. -/
def descBackSpec : ChangeSpec := { name := "descBack", fn := fun _ => fun
  | [d] => { results := [.lit (.bool true)], args := [d] }
  | _ => none }
def descBackRow : OpenClaim := { program := "ytjgomlcdmpcoaaadoor", sum := "63ad31520f026ee80d3f4f09fec86862c22fe2f26e14bf6cb50dd6eb0671d06c", func := "falsework/falseworklaw6.DescBack", spec := "descBack", inPlace := ["math.Float64frombits"], unfollowed := true, recurses := true, named := ["strings.asciiSpace", "unicode.White_Space"], apart := false, laid := [("unicode.White_Space", laid_unicode_White_Space), ("strings.asciiSpace", laid_strings_asciiSpace)] }
def DescBackSaid : Prop := descBackRow.holds Tryd.pinned (OpenSpec.ofChange descBackSpec)

/-- ITS FALSE NEIGHBOUR: 'it returns false'. Refute it at one input. -/
def descBackWrong : ChangeSpec := { name := "descBack", fn := fun _ => fun
  | [d] => { results := [.lit (.bool false)], args := [d] }
  | _ => none }
def DescBackWrongFalsely : Prop := descBackRow.holds Tryd.pinned (OpenSpec.ofChange descBackWrong)

/-- 'falseworklaw6.DescTurned': WHATEVER THE INPUT: true; the input reads as it did. -/
def descTurnedSpec : ChangeSpec := { name := "descTurned", fn := fun _ => fun
  | [d1, d2, d3] => { results := [.lit (.bool true)], args := [d1, d2, d3] }
  | _ => none }
def descTurnedRow : OpenClaim := { program := "ytjgomlcdmpcoaaadoor", sum := "63ad31520f026ee80d3f4f09fec86862c22fe2f26e14bf6cb50dd6eb0671d06c", func := "falsework/falseworklaw6.DescTurned", spec := "descTurned", inPlace := ["math.Float64frombits"], unfollowed := true, recurses := true, named := ["strings.asciiSpace", "unicode.White_Space"], apart := false, laid := [("unicode.White_Space", laid_unicode_White_Space), ("strings.asciiSpace", laid_strings_asciiSpace)] }
def DescTurnedSaid : Prop := descTurnedRow.holds Tryd.pinned (OpenSpec.ofChange descTurnedSpec)

/-- ITS FALSE NEIGHBOUR: 'it returns false'. Refute it at one input. -/
def descTurnedWrong : ChangeSpec := { name := "descTurned", fn := fun _ => fun
  | [d1, d2, d3] => { results := [.lit (.bool false)], args := [d1, d2, d3] }
  | _ => none }
def DescTurnedWrongFalsely : Prop := descTurnedRow.holds Tryd.pinned (OpenSpec.ofChange descTurnedWrong)

/-- 'falseworklaw19.CatalogCreates': WHATEVER THE INPUT: true; the input reads as it did. -/
def catalogCreatesSpec : ChangeSpec := { name := "catalogCreates", fn := fun _ => fun
  | [d1, d2] => { results := [.lit (.bool true)], args := [d1, d2] }
  | _ => none }
def catalogCreatesRow : OpenClaim := { program := "ytjgomlcdmpcoaaadoor", sum := "63ad31520f026ee80d3f4f09fec86862c22fe2f26e14bf6cb50dd6eb0671d06c", func := "falsework/falseworklaw19.CatalogCreates", spec := "catalogCreates", inPlace := ["math.Float64frombits"], unfollowed := true, recurses := true, named := ["strings.asciiSpace", "unicode.White_Space"], apart := false, laid := [("unicode.White_Space", laid_unicode_White_Space), ("strings.asciiSpace", laid_strings_asciiSpace)] }
def CatalogCreatesSaid : Prop := catalogCreatesRow.holds Tryd.pinned (OpenSpec.ofChange catalogCreatesSpec)

/-- ITS FALSE NEIGHBOUR: 'it returns false'. Refute it at one input. -/
def catalogCreatesWrong : ChangeSpec := { name := "catalogCreates", fn := fun _ => fun
  | [d1, d2] => { results := [.lit (.bool false)], args := [d1, d2] }
  | _ => none }
def CatalogCreatesWrongFalsely : Prop := catalogCreatesRow.holds Tryd.pinned (OpenSpec.ofChange catalogCreatesWrong)

/-- 'falseworklaw19.CatalogBegins': WHATEVER THE INPUT: true; the input reads as it did. -/
def catalogBeginsSpec : ChangeSpec := { name := "catalogBegins", fn := fun _ => fun
  | [d1, d2] => { results := [.lit (.bool true)], args := [d1, d2] }
  | _ => none }
def catalogBeginsRow : OpenClaim := { program := "ytjgomlcdmpcoaaadoor", sum := "63ad31520f026ee80d3f4f09fec86862c22fe2f26e14bf6cb50dd6eb0671d06c", func := "falsework/falseworklaw19.CatalogBegins", spec := "catalogBegins", inPlace := ["math.Float64frombits"], unfollowed := true, recurses := true, named := ["strings.asciiSpace", "unicode.White_Space"], apart := false, laid := [("unicode.White_Space", laid_unicode_White_Space), ("strings.asciiSpace", laid_strings_asciiSpace)] }
def CatalogBeginsSaid : Prop := catalogBeginsRow.holds Tryd.pinned (OpenSpec.ofChange catalogBeginsSpec)

/-- ITS FALSE NEIGHBOUR: 'it returns false'. Refute it at one input. -/
def catalogBeginsWrong : ChangeSpec := { name := "catalogBegins", fn := fun _ => fun
  | [d1, d2] => { results := [.lit (.bool false)], args := [d1, d2] }
  | _ => none }
def CatalogBeginsWrongFalsely : Prop := catalogBeginsRow.holds Tryd.pinned (OpenSpec.ofChange catalogBeginsWrong)

/-- 'falseworklaw19.CatalogSteps': WHATEVER THE INPUT: true; the input reads as it did. -/
def catalogStepsSpec : ChangeSpec := { name := "catalogSteps", fn := fun _ => fun
  | [d1, d2, d3, d4, d5] => { results := [.lit (.bool true)], args := [d1, d2, d3, d4, d5] }
  | _ => none }
def catalogStepsRow : OpenClaim := { program := "ytjgomlcdmpcoaaadoor", sum := "63ad31520f026ee80d3f4f09fec86862c22fe2f26e14bf6cb50dd6eb0671d06c", func := "falsework/falseworklaw19.CatalogSteps", spec := "catalogSteps", inPlace := ["math.Float64frombits"], unfollowed := true, recurses := true, named := ["strings.asciiSpace", "unicode.White_Space"], apart := false, laid := [("unicode.White_Space", laid_unicode_White_Space), ("strings.asciiSpace", laid_strings_asciiSpace)] }
def CatalogStepsSaid : Prop := catalogStepsRow.holds Tryd.pinned (OpenSpec.ofChange catalogStepsSpec)

/-- ITS FALSE NEIGHBOUR: 'it returns false'. Refute it at one input. -/
def catalogStepsWrong : ChangeSpec := { name := "catalogSteps", fn := fun _ => fun
  | [d1, d2, d3, d4, d5] => { results := [.lit (.bool false)], args := [d1, d2, d3, d4, d5] }
  | _ => none }
def CatalogStepsWrongFalsely : Prop := catalogStepsRow.holds Tryd.pinned (OpenSpec.ofChange catalogStepsWrong)

/-- 'falseworklaw19.CatalogRight': WHATEVER THE INPUT: true; the input reads as it did. -/
def catalogRightSpec : ChangeSpec := { name := "catalogRight", fn := fun _ => fun
  | [d1, d2, d3, d4, d5, d6] => { results := [.lit (.bool true)], args := [d1, d2, d3, d4, d5, d6] }
  | _ => none }
def catalogRightRow : OpenClaim := { program := "ytjgomlcdmpcoaaadoor", sum := "63ad31520f026ee80d3f4f09fec86862c22fe2f26e14bf6cb50dd6eb0671d06c", func := "falsework/falseworklaw19.CatalogRight", spec := "catalogRight", inPlace := ["math.Float64frombits"], unfollowed := true, recurses := true, named := ["strings.asciiSpace", "unicode.White_Space"], apart := false, laid := [("unicode.White_Space", laid_unicode_White_Space), ("strings.asciiSpace", laid_strings_asciiSpace)] }
def CatalogRightSaid : Prop := catalogRightRow.holds Tryd.pinned (OpenSpec.ofChange catalogRightSpec)

/-- ITS FALSE NEIGHBOUR: 'it returns false'. Refute it at one input. -/
def catalogRightWrong : ChangeSpec := { name := "catalogRight", fn := fun _ => fun
  | [d1, d2, d3, d4, d5, d6] => { results := [.lit (.bool false)], args := [d1, d2, d3, d4, d5, d6] }
  | _ => none }
def CatalogRightWrongFalsely : Prop := catalogRightRow.holds Tryd.pinned (OpenSpec.ofChange catalogRightWrong)

/-- 'falseworklaw19.CatalogRound': WHATEVER THE INPUT: true; the input reads as it did. -/
def catalogRoundSpec : ChangeSpec := { name := "catalogRound", fn := fun _ => fun
  | [d1, d2, d3, d4] => { results := [.lit (.bool true)], args := [d1, d2, d3, d4] }
  | _ => none }
def catalogRoundRow : OpenClaim := { program := "ytjgomlcdmpcoaaadoor", sum := "63ad31520f026ee80d3f4f09fec86862c22fe2f26e14bf6cb50dd6eb0671d06c", func := "falsework/falseworklaw19.CatalogRound", spec := "catalogRound", inPlace := ["math.Float64frombits"], unfollowed := true, recurses := true, named := ["strings.asciiSpace", "unicode.White_Space"], apart := false, laid := [("unicode.White_Space", laid_unicode_White_Space), ("strings.asciiSpace", laid_strings_asciiSpace)] }
def CatalogRoundSaid : Prop := catalogRoundRow.holds Tryd.pinned (OpenSpec.ofChange catalogRoundSpec)

/-- ITS FALSE NEIGHBOUR: 'it returns false'. Refute it at one input. -/
def catalogRoundWrong : ChangeSpec := { name := "catalogRound", fn := fun _ => fun
  | [d1, d2, d3, d4] => { results := [.lit (.bool false)], args := [d1, d2, d3, d4] }
  | _ => none }
def CatalogRoundWrongFalsely : Prop := catalogRoundRow.holds Tryd.pinned (OpenSpec.ofChange catalogRoundWrong)

/-- 'falseworklaw19.CatalogTables': WHATEVER THE INPUT: true; the input reads as it did. -/
def catalogTablesSpec : ChangeSpec := { name := "catalogTables", fn := fun _ => fun
  | [d1, d2] => { results := [.lit (.bool true)], args := [d1, d2] }
  | _ => none }
def catalogTablesRow : OpenClaim := { program := "ytjgomlcdmpcoaaadoor", sum := "63ad31520f026ee80d3f4f09fec86862c22fe2f26e14bf6cb50dd6eb0671d06c", func := "falsework/falseworklaw19.CatalogTables", spec := "catalogTables", inPlace := ["math.Float64frombits"], unfollowed := true, recurses := true, named := ["strings.asciiSpace", "unicode.White_Space"], apart := false, laid := [("unicode.White_Space", laid_unicode_White_Space), ("strings.asciiSpace", laid_strings_asciiSpace)] }
def CatalogTablesSaid : Prop := catalogTablesRow.holds Tryd.pinned (OpenSpec.ofChange catalogTablesSpec)

/-- ITS FALSE NEIGHBOUR: 'it returns false'. Refute it at one input. -/
def catalogTablesWrong : ChangeSpec := { name := "catalogTables", fn := fun _ => fun
  | [d1, d2] => { results := [.lit (.bool false)], args := [d1, d2] }
  | _ => none }
def CatalogTablesWrongFalsely : Prop := catalogTablesRow.holds Tryd.pinned (OpenSpec.ofChange catalogTablesWrong)

/-- 'falseworklaw19.CatalogWays': WHATEVER THE INPUT: true; the input reads as it did. -/
def catalogWaysSpec : ChangeSpec := { name := "catalogWays", fn := fun _ => fun
  | [d] => { results := [.lit (.bool true)], args := [d] }
  | _ => none }
def catalogWaysRow : OpenClaim := { program := "ytjgomlcdmpcoaaadoor", sum := "63ad31520f026ee80d3f4f09fec86862c22fe2f26e14bf6cb50dd6eb0671d06c", func := "falsework/falseworklaw19.CatalogWays", spec := "catalogWays", inPlace := ["math.Float64frombits"], unfollowed := true, recurses := true, named := ["strings.asciiSpace", "unicode.White_Space"], apart := false, laid := [("unicode.White_Space", laid_unicode_White_Space), ("strings.asciiSpace", laid_strings_asciiSpace)] }
def CatalogWaysSaid : Prop := catalogWaysRow.holds Tryd.pinned (OpenSpec.ofChange catalogWaysSpec)

/-- ITS FALSE NEIGHBOUR: 'it returns false'. Refute it at one input. -/
def catalogWaysWrong : ChangeSpec := { name := "catalogWays", fn := fun _ => fun
  | [d] => { results := [.lit (.bool false)], args := [d] }
  | _ => none }
def CatalogWaysWrongFalsely : Prop := catalogWaysRow.holds Tryd.pinned (OpenSpec.ofChange catalogWaysWrong)

/- THE SECOND FORM. 'bulk': how many values and letters a reading holds, each counted each time it is reached (what is shared counts as often as it is met; a slice's spare places count too). A statement '..UptoSaid' is the law's where the arguments, and the package variables that the reading takes, are together of bulk at most 1048576: NARROWER than '..Said'. Prove '..Said' where nothing that the law and all that it calls make is longer than what came in: it says more and counts as full. Else prove '..UptoSaid'. A law counts once. -/
mutual
def uptoBulk {H : Type} : DataW H → Nat
  | .lit (.string bytes) => bytes.length + 1
  | .lit _ => 1
  | .nil => 1
  | .ptr d => uptoBulk d + 1
  | .slice elems spare => uptoBulkAll elems + uptoBulkAll spare + 1
  | .agg parts => uptoBulkAll parts + 1
  | .iface _ d => uptoBulk d + 1
  | .map entries => uptoBulkEntries entries + 1
  | .held _ => 1
def uptoBulkAll {H : Type} : List (DataW H) → Nat
  | [] => 0
  | d :: r => uptoBulk d + uptoBulkAll r
def uptoBulkEntries {H : Type} : List (Lit × DataW H) → Nat
  | [] => 0
  | x :: r => uptoBulkEntry x + uptoBulkEntries r
def uptoBulkEntry {H : Type} : Lit × DataW H → Nat
  | (.string bytes, d) => bytes.length + uptoBulk d + 1
  | (_, d) => uptoBulk d + 1
 end
def uptoSmall : (H : Type) → List (DataW H) → Bool := fun _ ds => decide (uptoBulkAll ds ≤ 1048576)
def OpenSpec.upto (s : _root_.Go.ChangeSpec) : _root_.Go.OpenSpec := { _root_.Go.OpenSpec.ofChange s with cond := some uptoSmall }

/-- 'falseworklaw24.JobMays', WHERE WHAT IT READS IS OF BULK AT MOST 1048576: true; the input reads as it did. -/
def jobMaysUptoRow : OpenClaim := { program := "ytjgomlcdmpcoaaadoor", sum := "63ad31520f026ee80d3f4f09fec86862c22fe2f26e14bf6cb50dd6eb0671d06c", func := "falsework/falseworklaw24.JobMays", spec := "jobMays", inPlace := ["math.Float64frombits"], unfollowed := true, recurses := true, named := ["strings.asciiSpace", "unicode.White_Space"], apart := false, laid := [("unicode.White_Space", laid_unicode_White_Space), ("strings.asciiSpace", laid_strings_asciiSpace)], narrowed := true }
def JobMaysUptoSaid : Prop := jobMaysUptoRow.holds Tryd.pinned (OpenSpec.upto jobMaysSpec)

/-- 'falseworklaw24.JobNexts', WHERE WHAT IT READS IS OF BULK AT MOST 1048576: true; the input reads as it did. -/
def jobNextsUptoRow : OpenClaim := { program := "ytjgomlcdmpcoaaadoor", sum := "63ad31520f026ee80d3f4f09fec86862c22fe2f26e14bf6cb50dd6eb0671d06c", func := "falsework/falseworklaw24.JobNexts", spec := "jobNexts", inPlace := ["math.Float64frombits"], unfollowed := true, recurses := true, named := ["strings.asciiSpace", "unicode.White_Space"], apart := false, laid := [("unicode.White_Space", laid_unicode_White_Space), ("strings.asciiSpace", laid_strings_asciiSpace)], narrowed := true }
def JobNextsUptoSaid : Prop := jobNextsUptoRow.holds Tryd.pinned (OpenSpec.upto jobNextsSpec)

/-- 'falseworklaw24.JobEnds', WHERE WHAT IT READS IS OF BULK AT MOST 1048576: true; the input reads as it did. -/
def jobEndsUptoRow : OpenClaim := { program := "ytjgomlcdmpcoaaadoor", sum := "63ad31520f026ee80d3f4f09fec86862c22fe2f26e14bf6cb50dd6eb0671d06c", func := "falsework/falseworklaw24.JobEnds", spec := "jobEnds", inPlace := ["math.Float64frombits"], unfollowed := true, recurses := true, named := ["strings.asciiSpace", "unicode.White_Space"], apart := false, laid := [("unicode.White_Space", laid_unicode_White_Space), ("strings.asciiSpace", laid_strings_asciiSpace)], narrowed := true }
def JobEndsUptoSaid : Prop := jobEndsUptoRow.holds Tryd.pinned (OpenSpec.upto jobEndsSpec)

/-- 'falseworklaw6.DescNames', WHERE WHAT IT READS IS OF BULK AT MOST 1048576: true; the input reads as it did. -/
def descNamesUptoRow : OpenClaim := { program := "ytjgomlcdmpcoaaadoor", sum := "63ad31520f026ee80d3f4f09fec86862c22fe2f26e14bf6cb50dd6eb0671d06c", func := "falsework/falseworklaw6.DescNames", spec := "descNames", inPlace := ["math.Float64frombits"], unfollowed := true, recurses := true, named := ["strings.asciiSpace", "unicode.White_Space"], apart := false, laid := [("unicode.White_Space", laid_unicode_White_Space), ("strings.asciiSpace", laid_strings_asciiSpace)], narrowed := true }
def DescNamesUptoSaid : Prop := descNamesUptoRow.holds Tryd.pinned (OpenSpec.upto descNamesSpec)

/-- 'falseworklaw6.DescMays', WHERE WHAT IT READS IS OF BULK AT MOST 1048576: true; the input reads as it did. -/
def descMaysUptoRow : OpenClaim := { program := "ytjgomlcdmpcoaaadoor", sum := "63ad31520f026ee80d3f4f09fec86862c22fe2f26e14bf6cb50dd6eb0671d06c", func := "falsework/falseworklaw6.DescMays", spec := "descMays", inPlace := ["math.Float64frombits"], unfollowed := true, recurses := true, named := ["strings.asciiSpace", "unicode.White_Space"], apart := false, laid := [("unicode.White_Space", laid_unicode_White_Space), ("strings.asciiSpace", laid_strings_asciiSpace)], narrowed := true }
def DescMaysUptoSaid : Prop := descMaysUptoRow.holds Tryd.pinned (OpenSpec.upto descMaysSpec)

/-- 'falseworklaw6.DescPuts', WHERE WHAT IT READS IS OF BULK AT MOST 1048576: true; the input reads as it did. -/
def descPutsUptoRow : OpenClaim := { program := "ytjgomlcdmpcoaaadoor", sum := "63ad31520f026ee80d3f4f09fec86862c22fe2f26e14bf6cb50dd6eb0671d06c", func := "falsework/falseworklaw6.DescPuts", spec := "descPuts", inPlace := ["math.Float64frombits"], unfollowed := true, recurses := true, named := ["strings.asciiSpace", "unicode.White_Space"], apart := false, laid := [("unicode.White_Space", laid_unicode_White_Space), ("strings.asciiSpace", laid_strings_asciiSpace)], narrowed := true }
def DescPutsUptoSaid : Prop := descPutsUptoRow.holds Tryd.pinned (OpenSpec.upto descPutsSpec)

/-- 'falseworklaw24.JobPuts', WHERE WHAT IT READS IS OF BULK AT MOST 1048576: true; the input reads as it did. -/
def jobPutsUptoRow : OpenClaim := { program := "ytjgomlcdmpcoaaadoor", sum := "63ad31520f026ee80d3f4f09fec86862c22fe2f26e14bf6cb50dd6eb0671d06c", func := "falsework/falseworklaw24.JobPuts", spec := "jobPuts", inPlace := ["math.Float64frombits"], unfollowed := true, recurses := true, named := ["strings.asciiSpace", "unicode.White_Space"], apart := false, laid := [("unicode.White_Space", laid_unicode_White_Space), ("strings.asciiSpace", laid_strings_asciiSpace)], narrowed := true }
def JobPutsUptoSaid : Prop := jobPutsUptoRow.holds Tryd.pinned (OpenSpec.upto jobPutsSpec)

/-- 'falseworklaw24.JobGets', WHERE WHAT IT READS IS OF BULK AT MOST 1048576: true; the input reads as it did. -/
def jobGetsUptoRow : OpenClaim := { program := "ytjgomlcdmpcoaaadoor", sum := "63ad31520f026ee80d3f4f09fec86862c22fe2f26e14bf6cb50dd6eb0671d06c", func := "falsework/falseworklaw24.JobGets", spec := "jobGets", inPlace := ["math.Float64frombits"], unfollowed := true, recurses := true, named := ["strings.asciiSpace", "unicode.White_Space"], apart := false, laid := [("unicode.White_Space", laid_unicode_White_Space), ("strings.asciiSpace", laid_strings_asciiSpace)], narrowed := true }
def JobGetsUptoSaid : Prop := jobGetsUptoRow.holds Tryd.pinned (OpenSpec.upto jobGetsSpec)

/-- 'falseworklaw24.JobBack', WHERE WHAT IT READS IS OF BULK AT MOST 1048576: true; the input reads as it did. -/
def jobBackUptoRow : OpenClaim := { program := "ytjgomlcdmpcoaaadoor", sum := "63ad31520f026ee80d3f4f09fec86862c22fe2f26e14bf6cb50dd6eb0671d06c", func := "falsework/falseworklaw24.JobBack", spec := "jobBack", inPlace := ["math.Float64frombits"], unfollowed := true, recurses := true, named := ["strings.asciiSpace", "unicode.White_Space"], apart := false, laid := [("unicode.White_Space", laid_unicode_White_Space), ("strings.asciiSpace", laid_strings_asciiSpace)], narrowed := true }
def JobBackUptoSaid : Prop := jobBackUptoRow.holds Tryd.pinned (OpenSpec.upto jobBackSpec)

/-- 'falseworklaw6.DescGets', WHERE WHAT IT READS IS OF BULK AT MOST 1048576: true; the input reads as it did. -/
def descGetsUptoRow : OpenClaim := { program := "ytjgomlcdmpcoaaadoor", sum := "63ad31520f026ee80d3f4f09fec86862c22fe2f26e14bf6cb50dd6eb0671d06c", func := "falsework/falseworklaw6.DescGets", spec := "descGets", inPlace := ["math.Float64frombits"], unfollowed := true, recurses := true, named := ["strings.asciiSpace", "unicode.White_Space"], apart := false, laid := [("unicode.White_Space", laid_unicode_White_Space), ("strings.asciiSpace", laid_strings_asciiSpace)], narrowed := true }
def DescGetsUptoSaid : Prop := descGetsUptoRow.holds Tryd.pinned (OpenSpec.upto descGetsSpec)

/-- 'falseworklaw6.DescBack', WHERE WHAT IT READS IS OF BULK AT MOST 1048576: true; the input reads as it did. -/
def descBackUptoRow : OpenClaim := { program := "ytjgomlcdmpcoaaadoor", sum := "63ad31520f026ee80d3f4f09fec86862c22fe2f26e14bf6cb50dd6eb0671d06c", func := "falsework/falseworklaw6.DescBack", spec := "descBack", inPlace := ["math.Float64frombits"], unfollowed := true, recurses := true, named := ["strings.asciiSpace", "unicode.White_Space"], apart := false, laid := [("unicode.White_Space", laid_unicode_White_Space), ("strings.asciiSpace", laid_strings_asciiSpace)], narrowed := true }
def DescBackUptoSaid : Prop := descBackUptoRow.holds Tryd.pinned (OpenSpec.upto descBackSpec)

/-- 'falseworklaw6.DescTurned', WHERE WHAT IT READS IS OF BULK AT MOST 1048576: true; the input reads as it did. -/
def descTurnedUptoRow : OpenClaim := { program := "ytjgomlcdmpcoaaadoor", sum := "63ad31520f026ee80d3f4f09fec86862c22fe2f26e14bf6cb50dd6eb0671d06c", func := "falsework/falseworklaw6.DescTurned", spec := "descTurned", inPlace := ["math.Float64frombits"], unfollowed := true, recurses := true, named := ["strings.asciiSpace", "unicode.White_Space"], apart := false, laid := [("unicode.White_Space", laid_unicode_White_Space), ("strings.asciiSpace", laid_strings_asciiSpace)], narrowed := true }
def DescTurnedUptoSaid : Prop := descTurnedUptoRow.holds Tryd.pinned (OpenSpec.upto descTurnedSpec)

/-- 'falseworklaw19.CatalogCreates', WHERE WHAT IT READS IS OF BULK AT MOST 1048576: true; the input reads as it did. -/
def catalogCreatesUptoRow : OpenClaim := { program := "ytjgomlcdmpcoaaadoor", sum := "63ad31520f026ee80d3f4f09fec86862c22fe2f26e14bf6cb50dd6eb0671d06c", func := "falsework/falseworklaw19.CatalogCreates", spec := "catalogCreates", inPlace := ["math.Float64frombits"], unfollowed := true, recurses := true, named := ["strings.asciiSpace", "unicode.White_Space"], apart := false, laid := [("unicode.White_Space", laid_unicode_White_Space), ("strings.asciiSpace", laid_strings_asciiSpace)], narrowed := true }
def CatalogCreatesUptoSaid : Prop := catalogCreatesUptoRow.holds Tryd.pinned (OpenSpec.upto catalogCreatesSpec)

/-- 'falseworklaw19.CatalogBegins', WHERE WHAT IT READS IS OF BULK AT MOST 1048576: true; the input reads as it did. -/
def catalogBeginsUptoRow : OpenClaim := { program := "ytjgomlcdmpcoaaadoor", sum := "63ad31520f026ee80d3f4f09fec86862c22fe2f26e14bf6cb50dd6eb0671d06c", func := "falsework/falseworklaw19.CatalogBegins", spec := "catalogBegins", inPlace := ["math.Float64frombits"], unfollowed := true, recurses := true, named := ["strings.asciiSpace", "unicode.White_Space"], apart := false, laid := [("unicode.White_Space", laid_unicode_White_Space), ("strings.asciiSpace", laid_strings_asciiSpace)], narrowed := true }
def CatalogBeginsUptoSaid : Prop := catalogBeginsUptoRow.holds Tryd.pinned (OpenSpec.upto catalogBeginsSpec)

/-- 'falseworklaw19.CatalogSteps', WHERE WHAT IT READS IS OF BULK AT MOST 1048576: true; the input reads as it did. -/
def catalogStepsUptoRow : OpenClaim := { program := "ytjgomlcdmpcoaaadoor", sum := "63ad31520f026ee80d3f4f09fec86862c22fe2f26e14bf6cb50dd6eb0671d06c", func := "falsework/falseworklaw19.CatalogSteps", spec := "catalogSteps", inPlace := ["math.Float64frombits"], unfollowed := true, recurses := true, named := ["strings.asciiSpace", "unicode.White_Space"], apart := false, laid := [("unicode.White_Space", laid_unicode_White_Space), ("strings.asciiSpace", laid_strings_asciiSpace)], narrowed := true }
def CatalogStepsUptoSaid : Prop := catalogStepsUptoRow.holds Tryd.pinned (OpenSpec.upto catalogStepsSpec)

/-- 'falseworklaw19.CatalogRight', WHERE WHAT IT READS IS OF BULK AT MOST 1048576: true; the input reads as it did. -/
def catalogRightUptoRow : OpenClaim := { program := "ytjgomlcdmpcoaaadoor", sum := "63ad31520f026ee80d3f4f09fec86862c22fe2f26e14bf6cb50dd6eb0671d06c", func := "falsework/falseworklaw19.CatalogRight", spec := "catalogRight", inPlace := ["math.Float64frombits"], unfollowed := true, recurses := true, named := ["strings.asciiSpace", "unicode.White_Space"], apart := false, laid := [("unicode.White_Space", laid_unicode_White_Space), ("strings.asciiSpace", laid_strings_asciiSpace)], narrowed := true }
def CatalogRightUptoSaid : Prop := catalogRightUptoRow.holds Tryd.pinned (OpenSpec.upto catalogRightSpec)

/-- 'falseworklaw19.CatalogRound', WHERE WHAT IT READS IS OF BULK AT MOST 1048576: true; the input reads as it did. -/
def catalogRoundUptoRow : OpenClaim := { program := "ytjgomlcdmpcoaaadoor", sum := "63ad31520f026ee80d3f4f09fec86862c22fe2f26e14bf6cb50dd6eb0671d06c", func := "falsework/falseworklaw19.CatalogRound", spec := "catalogRound", inPlace := ["math.Float64frombits"], unfollowed := true, recurses := true, named := ["strings.asciiSpace", "unicode.White_Space"], apart := false, laid := [("unicode.White_Space", laid_unicode_White_Space), ("strings.asciiSpace", laid_strings_asciiSpace)], narrowed := true }
def CatalogRoundUptoSaid : Prop := catalogRoundUptoRow.holds Tryd.pinned (OpenSpec.upto catalogRoundSpec)

/-- 'falseworklaw19.CatalogTables', WHERE WHAT IT READS IS OF BULK AT MOST 1048576: true; the input reads as it did. -/
def catalogTablesUptoRow : OpenClaim := { program := "ytjgomlcdmpcoaaadoor", sum := "63ad31520f026ee80d3f4f09fec86862c22fe2f26e14bf6cb50dd6eb0671d06c", func := "falsework/falseworklaw19.CatalogTables", spec := "catalogTables", inPlace := ["math.Float64frombits"], unfollowed := true, recurses := true, named := ["strings.asciiSpace", "unicode.White_Space"], apart := false, laid := [("unicode.White_Space", laid_unicode_White_Space), ("strings.asciiSpace", laid_strings_asciiSpace)], narrowed := true }
def CatalogTablesUptoSaid : Prop := catalogTablesUptoRow.holds Tryd.pinned (OpenSpec.upto catalogTablesSpec)

/-- 'falseworklaw19.CatalogWays', WHERE WHAT IT READS IS OF BULK AT MOST 1048576: true; the input reads as it did. -/
def catalogWaysUptoRow : OpenClaim := { program := "ytjgomlcdmpcoaaadoor", sum := "63ad31520f026ee80d3f4f09fec86862c22fe2f26e14bf6cb50dd6eb0671d06c", func := "falsework/falseworklaw19.CatalogWays", spec := "catalogWays", inPlace := ["math.Float64frombits"], unfollowed := true, recurses := true, named := ["strings.asciiSpace", "unicode.White_Space"], apart := false, laid := [("unicode.White_Space", laid_unicode_White_Space), ("strings.asciiSpace", laid_strings_asciiSpace)], narrowed := true }
def CatalogWaysUptoSaid : Prop := catalogWaysUptoRow.holds Tryd.pinned (OpenSpec.upto catalogWaysSpec)

end Rows
end Go.Proofs.YtjgomlcdmpcoaaaDoor
