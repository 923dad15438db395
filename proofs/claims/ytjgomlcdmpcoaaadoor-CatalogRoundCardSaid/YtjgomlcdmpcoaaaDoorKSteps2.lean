/- Own texts of this session, packed by its program wip/pp/pack.py: lemmas and walks of functions. -/
import Derived.Below
import Derived.Lib.Space
import Derived.Test.YtjgomlcdmpcoaaaDoorProg
import Derived.WalkKit
import Derived.ProofKit
import Derived.OpenShut
import Derived.ShutString
import Derived.Deep.DeepHandedRow
import Derived.Deep.DeepLaidRun
import Derived.Deep.DeepWitnessRowRef
import Derived.Lib.LaidTab
import Derived.Lib.LaidU8
import Derived.LaidSub
import Derived.MakeChecks
import Derived.Test.YtjgomlcdmpcoaaaDoorCards
import Derived.Test.YtjgomlcdmpcoaaaDoorTie
import Derived.Deep.Draws
import Derived.Deep.AppendLies
import Derived.Maps.AppendAt
import Derived.OwnWalk
import Derived.Laws.BytesArg
import Derived.Laws.MakeOwn
import Derived.Laws.OwnMore
import Derived.Deep.OwnRows
import Derived.Tactics
import Derived.Lib.ConvBytes
import Derived.Laws.Slices
import Derived.KernelRfl
import Derived.RowKit3
import Derived.Deep.LoopGhost
import Derived.Deep.QuietTactic
import Derived.BigQuiet
import Derived.WideLaws
import Derived.Deep.DeepCutAuto
import Derived.Deep.CutBlock
import Derived.Deep.RegionHeld3
import Derived.Laws.Rows
import Derived.Lib.AppendStr
import Derived.ArgAppend
import Derived.Laws.IdiomCopy
import Derived.OrdersHeld
import Derived.Laws.BitsLemmas
import Derived.RowKit
import Derived.Lib.Hide
import Derived.Shelf.Strings.Fields
import Derived.Shelf.Unicode.Latin
import Derived.Shelf.Unicode.Is16White
import Derived.Shelf.Unicode.IsSpaceAny
import Derived.Shelf.Unicode.Is16Any
import Derived.Shelf.Unicode.Is32Any
import Derived.Shelf.Unicode.ExclAny
import Derived.Shelf.Slices.Turned
import Derived.Ground.Names2Prog
import Derived.Shelf.Slices.Clone
import Derived.Test.YtjgomlcdmpcoaaaDoorKSteps0
import Derived.Test.YtjgomlcdmpcoaaaDoorKSteps1
namespace Go.Proofs.YtjgomlcdmpcoaaaDoor
open Go.RowKit
def GL (w : World) : Prop := ∀ c : Nat, c < 256 → w.cell? ⟨0, c, none⟩ = some (.int .u8 (if Lib.isSp (UInt8.ofNat c) then 1 else 0))
theorem GL.tab {w : World} (h : GL w) : ∀ c : Nat, c < 256 → w.cell? ⟨0, c, none⟩ = some (.int .u8 (if Lib.isSp (UInt8.ofNat c) then 1 else 0)) := h
theorem GL.lt {w : World} (h : GL w) : 0 < w.heap.size := World.block_lt_of_cell? _ _ (h 0 (by decide))
theorem GL.of_below {w w' : World} (h : GL w) (hb : Below w.heap.size w w') : GL w' := fun c hc => by
  rw [hb.cell (p := ⟨0, c, none⟩) h.lt]
  exact h c hc
end Go.Proofs.YtjgomlcdmpcoaaaDoor
namespace Go.Proofs.YtjgomlcdmpcoaaaDoor.HLaid
open Go.ChangeShapes Go.WideShapes Go.ChangeAt Go.RowKit
theorem own : ownKnob Tryd.prog.godebug = none := by kernel_rfl
theorem gSpace : Tryd.prog.globalNamed "strings.asciiSpace" = some 0 := by kernel_rfl
theorem gSpaceT : (Tryd.prog.globals[0]?).map (·.type) = some 188 := by kernel_rfl
theorem cells188 : Tryd.prog.cellsOf 188 = 256 := by kernel_rfl
theorem cells5 : Tryd.prog.cellsOf 5 = 1 := by kernel_rfl
theorem gl {W : World} (h : laidMetH Tryd.prog Rows.descNamesRow.laid W) : GL W := by
  have h1 : laidMet Tryd.prog Rows.descNamesRow.laid W := by rw [← Go.MakeChecks.laidMetH_plain _ _ _ (by kernel_rfl)]; exact h
  have h2 := h1.filter fun x => x.1 == "strings.asciiSpace"
  have h3 : laidMet Tryd.prog [("strings.asciiSpace", Lib.tabData .u8 Lib.asciiSpaceTab)] W := by
    have e : (Rows.descNamesRow.laid.filter fun x => x.1 == "strings.asciiSpace") = [("strings.asciiSpace", Lib.tabData .u8 Lib.asciiSpaceTab)] := by kernel_rfl
    rw [← e]; exact h2
  have ht := Lib.tabIs_of_head (rest := []) gSpace gSpaceT Tryd.underlying188 Tryd.underlying5 cells5 cells188 h3
  intro c hc
  rw [ht.cell gSpace c (by rw [Lib.asciiSpaceTab_length]; exact hc), Lib.asciiSpaceTab_at c hc]
def tabCells : DataW Unit → Array Value
  | .agg ps => (ps.map fun | .lit (.int k z) => Value.int k z | _ => .int .u8 0).toArray
  | _ => #[]
noncomputable def laidWorld (os : Os) : World :=
  let N := (World.settled Tryd.prog os).heap.size
  let w0 := World.holding Tryd.prog os ⟨#[.cells (([9, 13, 1, 32, 133, 101, 160, 5760, 5600, 8192, 8202, 1, 8232, 8233, 1, 8239, 8287, 48, 12288, 12288, 1] : List Int).map fun z => Value.int .u16 z).toArray 214,
    .cells #[.slice (some ⟨N, 0, none⟩) 7 7, .slice none 0 0, .int .i64 2] 211], #[], []⟩
  let put (h : Array Obj) (g : Nat) (cs : Array Value) : Array Obj := h.modify g fun
    | .cells _ t frozen => .cells cs t frozen
    | o => o
  { w0 with heap := put (put w0.heap 0 (tabCells Rows.laid_strings_asciiSpace)) 1 #[.pointer (some ⟨N + 1, 0, none⟩)] }
theorem laid_met (os : Os) (args : Array Value) : laidMet Tryd.prog Rows.descNamesRow.laid ((laidWorld os).forCall (fun _ _ => 0) ⟨#[], args, []⟩).memory :=
  laidMet_of_run3 10 (by kernel_rfl) (by kernel_rfl) (by kernel_rfl)
end Go.Proofs.YtjgomlcdmpcoaaaDoor.HLaid
namespace Go.Proofs.YtjgomlcdmpcoaaaDoor.HLaid
open Go.ChangeShapes Go.WideShapes Go.ChangeAt Go.RowKit
def ioL : List Char := ([104, 97, 114, 110, 101, 115, 115, 32, 52, 52, 97, 97, 52, 99, 101, 97, 100, 50, 48, 55, 48, 99, 54, 48, 52, 50, 56, 56, 49, 97, 49, 54, 101, 52, 55, 57, 102, 55, 53, 52, 54, 99, 98, 55, 53, 101, 50, 102, 100, 52, 56, 57, 51, 49, 56, 100, 48, 57, 49, 101, 100, 55, 97, 97, 51, 98, 48, 100, 97, 55, 53, 56, 32, 99, 117, 116, 32, 97, 116, 32, 102, 97, 108, 115, 101, 119, 111, 114, 107, 47, 102, 97, 108, 115, 101, 119, 111, 114, 107, 108, 97, 119, 50, 52, 46, 74, 111, 98, 77, 97, 121, 115, 32, 102, 97, 108, 115, 101, 119, 111, 114, 107, 47, 102, 97, 108, 115, 101, 119, 111, 114, 107, 108, 97, 119, 50, 52, 46, 74, 111, 98, 78, 101, 120, 116, 115, 32, 102, 97, 108, 115, 101, 119, 111, 114, 107, 47, 102, 97, 108, 115, 101, 119, 111, 114, 107, 108, 97, 119, 50, 52, 46, 74, 111, 98, 69, 110, 100, 115, 32, 102, 97, 108, 115, 101, 119, 111, 114, 107, 47, 102, 97, 108, 115, 101, 119, 111, 114, 107, 108, 97, 119, 54, 46, 68, 101, 115, 99, 78, 97, 109, 101, 115, 32, 102, 97, 108, 115, 101, 119, 111, 114, 107, 47, 102, 97, 108, 115, 101, 119, 111, 114, 107, 108, 97, 119, 54, 46, 68, 101, 115, 99, 77, 97, 121, 115, 32, 102, 97, 108, 115, 101, 119, 111, 114, 107, 47, 102, 97, 108, 115, 101, 119, 111, 114, 107, 108, 97, 119, 54, 46, 68, 101, 115, 99, 80, 117, 116, 115, 32, 102, 97, 108, 115, 101, 119, 111, 114, 107, 47, 102, 97, 108, 115, 101, 119, 111, 114, 107, 108, 97, 119, 50, 52, 46, 74, 111, 98, 80, 117, 116, 115, 32, 102, 97, 108, 115, 101, 119, 111, 114, 107, 47, 102, 97, 108, 115, 101, 119, 111, 114, 107, 108, 97, 119, 50, 52, 46, 74, 111, 98, 71, 101, 116, 115, 32, 102, 97, 108, 115, 101, 119, 111, 114, 107, 47, 102, 97, 108, 115, 101, 119, 111, 114, 107, 108, 97, 119, 50, 52, 46, 74, 111, 98, 66, 97, 99, 107, 32, 102, 97, 108, 115, 101, 119, 111, 114, 107, 47, 102, 97, 108, 115, 101, 119, 111, 114, 107, 108, 97, 119, 54, 46, 68, 101, 115, 99, 71, 101, 116, 115, 32, 102, 97, 108, 115, 101, 119, 111, 114, 107, 47, 102, 97, 108, 115, 101, 119, 111, 114, 107, 108, 97, 119, 54, 46, 68, 101, 115, 99, 66, 97, 99, 107, 32, 102, 97, 108, 115, 101, 119, 111, 114, 107, 47, 102, 97, 108, 115, 101, 119, 111, 114, 107, 108, 97, 119, 54, 46, 68, 101, 115, 99, 84, 117, 114, 110, 101, 100, 32, 102, 97, 108, 115, 101, 119, 111, 114, 107, 47, 102, 97, 108, 115, 101, 119, 111, 114, 107, 108, 97, 119, 49, 57, 46, 67, 97, 116, 97, 108, 111, 103, 67, 114, 101, 97, 116, 101, 115, 32, 102, 97, 108, 115, 101, 119, 111, 114, 107, 47, 102, 97, 108, 115, 101, 119, 111, 114, 107, 108, 97, 119, 49, 57, 46, 67, 97, 116, 97, 108, 111, 103, 66, 101, 103, 105, 110, 115, 32, 102, 97, 108, 115, 101, 119, 111, 114, 107, 47, 102, 97, 108, 115, 101, 119, 111, 114, 107, 108, 97, 119, 49, 57, 46, 67, 97, 116, 97, 108, 111, 103, 83, 116, 101, 112, 115, 32, 102, 97, 108, 115, 101, 119, 111, 114, 107, 47, 102, 97, 108, 115, 101, 119, 111, 114, 107, 108, 97, 119, 49, 57, 46, 67, 97, 116, 97, 108, 111, 103, 82, 105, 103, 104, 116, 32, 102, 97, 108, 115, 101, 119, 111, 114, 107, 47, 102, 97, 108, 115, 101, 119, 111, 114, 107, 108, 97, 119, 49, 57, 46, 67, 97, 116, 97, 108, 111, 103, 82, 111, 117, 110, 100, 32, 102, 97, 108, 115, 101, 119, 111, 114, 107, 47, 102, 97, 108, 115, 101, 119, 111, 114, 107, 108, 97, 119, 49, 57, 46, 67, 97, 116, 97, 108, 111, 103, 84, 97, 98, 108, 101, 115, 32, 102, 97, 108, 115, 101, 119, 111, 114, 107, 47, 102, 97, 108, 115, 101, 119, 111, 114, 107, 108, 97, 119, 49, 57, 46, 67, 97, 116, 97, 108, 111, 103, 87, 97, 121, 115] : List Nat).map Char.ofNat
theorem io : Tryd.prog.initOrder = String.ofList ioL := by kernel_rfl
theorem ioT : Tryd.prog.initOrder.toList = ioL := by rw [io, String.toList_ofList]
theorem ws : behindMainWord (wordsSigns Tryd.prog.initOrder.toList) = behindMainWord (wordsSigns ioL) := by rw [ioT]
theorem hl : Tryd.prog.headLifts = [] := by
  unfold Program.headLifts
  rw [ws]
  kernel_rfl
def gmk (ws : List (List Char)) (hl : List String) : Option Make :=
  match ws with
  | c :: rest => if c == "gc".toList || c == "spec".toList then some .whole else if c == "cut".toList || (c == "finals".toList && rest.head? == some "cut".toList) then some .cut else if c == "carried".toList then some .carried else if hl.isEmpty then none else some (.lifted hl)
  | [] => none
theorem make_eq (P : Program) : P.make = gmk (behindMainWord (wordsSigns P.initOrder.toList)) P.headLifts := rfl
theorem hmk0 : gmk (behindMainWord (wordsSigns ioL)) [] = some Rows.descNamesRow.make := by kernel_rfl
theorem hmk : Tryd.prog.make = some Rows.descNamesRow.make := by
  rw [make_eq, ws, hl]
  exact hmk0
def gme (P : Program) (ws : List (List Char)) : Bool :=
  match ws with
  | c :: rest =>
    ((c == "gc".toList || c == "spec".toList) && (rest.isEmpty || rest.head? == some "stop".toList)) ||
    (c == "carried".toList && rest.take 2 == ["gc".toList, "cut".toList] && !P.laysLater && !P.bearsReflect) ||
    ((stripLifts liftWords (c :: rest)).2.head? == some "cut".toList &&
      ((stripLifts liftWords (c :: rest)).1.contains "finals" || !P.laysLater) && ((stripLifts liftWords (c :: rest)).1.contains "reflectrows" || !P.bearsReflect) &&
      ((stripLifts liftWords (c :: rest)).1.contains "reflectrows" || !(stripLifts liftWords (c :: rest)).1.contains "leanrows") &&
      P.doorFits (stripLifts liftWords (c :: rest)).1)
  | [] => false
theorem mayEnter_eq (P : Program) : P.mayEnter = gme P (behindMainWord (wordsSigns P.initOrder.toList)) := rfl
theorem hme : Tryd.prog.mayEnter = true := by
  rw [mayEnter_eq, ws]
  kernel_rfl
def glf (ws : List (List Char)) (hl : List String) : Bool := (ws.head? == some "carried".toList && ws.take 3 != ["carried".toList, "gc".toList, "cut".toList]) || hl.contains "finals"
theorem lifts_eq (P : Program) : P.liftsFinal = glf (behindMainWord (wordsSigns P.initOrder.toList)) P.headLifts := rfl
theorem hlf : Tryd.prog.liftsFinal = false := by
  rw [lifts_eq, ws, hl]
  kernel_rfl
def gjf (b1 b2 : Bool) (mk : Option Make) (P : Program) (f : FuncId) (fn : Func) (s : ChangeSpec) (c : OpenClaim) : Bool :=
  c.wf (OpenSpec.ofChange s) && laidOutB P && mapsRowed P &&
  fn.params.all (P.readableRec ·) && namedTie P c.named s.vars &&
  (c.stops == []) && (P.stops == []) && (c.knobs == []) && (P.stopKnobs == []) &&
  (c.inPlace == P.inPlace f) && (c.unfollowed == P.unfollowed f) && (c.recurses == P.recurses f) && (c.named == P.varsNamed f) &&
  (c.maps == (fn.params.toList ++ s.plain.varTypes P).any (P.mapsRec ·)) && (c.ifaces == (fn.params.toList ++ s.plain.varTypes P).any (P.ifacesRec ·)) && (c.mapsOut == P.mapsAmong fn.resultTypes.toList) &&
  (c.loops == (fn.params.toList ++ s.plain.varTypes P).any (P.loopsFrom ·)) && (c.wideKeys == (fn.params.toList ++ s.plain.varTypes P ++ fn.resultTypes.toList).any (P.wideKeysFrom ·)) &&
  s.vars.all (P.varReadable ·) && fn.resultTypes.all (fun t => P.readableRec t && decide (t < P.types.size)) && (c.ifacesOut == fn.resultTypes.toList.any (P.ifacesRec ·)) && (c.loopsOut == fn.resultTypes.toList.any (P.loopsFrom ·)) && (c.plainKeys == P.plainKeys) && c.shortTexts.isNone && P.stopsHeard && b1 && (c.lifted == b2) && (mk == some c.make) && (c.kinds == (if c.domain.isEmpty then [] else fn.params.toList.map fun t => match P.underlying t with | some (.int k) => some k | _ => none)) && (c.pinned == c.pinnedBy) &&
  (c.veiled == (fn.params.toList ++ s.plain.varTypes P ++ fn.resultTypes.toList).any (P.veiledRec ·)) && c.veiledFits P fn.params.toList (fn.params.toList ++ s.plain.varTypes P ++ fn.resultTypes.toList)
theorem jf_eq (P : Program) (f : FuncId) (fn : Func) (s : ChangeSpec) (c : OpenClaim) : joinedFacts P f fn s c = gjf P.mayEnter P.liftsFinal P.make P f fn s c := rfl
theorem joined {f : FuncId} {fn : Func} {s : ChangeSpec} {c : OpenClaim} (h : gjf true false (some Rows.descNamesRow.make) Tryd.prog f fn s c = true) : joinedFacts Tryd.prog f fn s c = true := by
  rw [jf_eq, hme, hlf, hmk]
  exact h
def gmi (ws : List (List Char)) : Option (Bool × List Char) :=
  match ws with
  | h :: s :: _ => if !isSumSigns s then none else if h == "harness".toList then some (true, s) else if h == "ownmain".toList then some (false, s) else none
  | _ => none
theorem mainIs_eq (P : Program) : P.mainIs = gmi (wordsSigns P.initOrder.toList) := rfl
theorem hmain : Tryd.prog.mainIs = some (true, "44aa4cead2070c6042881a16e479f7546cb75e2fd489318d091ed7aa3b0da758".toList) := by
  rw [mainIs_eq, ioT]
  kernel_rfl
end Go.Proofs.YtjgomlcdmpcoaaaDoor.HLaid
namespace Go.Proofs.YtjgomlcdmpcoaaaDoor.D
open Go.RowKit Go.Proofs.YtjgomlcdmpcoaaaDoorW.PrintWords Go.Proofs.YtjgomlcdmpcoaaaDoorW.PrintLast Go.Proofs.YtjgomlcdmpcoaaaDoorW.PrintMore
attribute [local go_sem] max2_int min2_int max_two min_two max_three min_three max_four min_four
set_option linter.unusedVariables false
set_option linter.unusedSimpArgs false
def errW : Option Int → Value
 | none => .nilIface
 | some c => .iface 0 (.int .i64 c)
theorem errW_none : errW none = .nilIface := rfl
theorem errW_some (c : Int) : errW (some c) = .iface 0 (.int .i64 c) := rfl
theorem info3 : (Tryd.prog.info? 3).map (fun i => (i.zero, i.size, i.bytes)) = some (some (.int .i64 0), 1, 8) := by kernel_rfl
theorem info70 : (Tryd.prog.info? 70).map (fun i => (i.zero, i.size, i.bytes)) = some (some (.agg #[(.int .i64 0), (.string ⟨#[]⟩), (.slice none 0 0), (.slice none 0 0), (.int .i64 0)]), 5, 80) := by kernel_rfl
theorem info75 : (Tryd.prog.info? 75).map (fun i => (i.zero, i.size, i.bytes)) = some (some (.agg #[(.int .i64 0), (.string ⟨#[]⟩), (.int .i64 0), (.int .i64 0), (.int .i64 0), (.int .i64 0), (.int .i64 0), (.int .u64 0), (.string ⟨#[]⟩)]), 9, 88) := by kernel_rfl
theorem info98 : (Tryd.prog.info? 98).map (fun i => (i.zero, i.size, i.bytes)) = some (some (.agg #[(.int .i64 0), (.string ⟨#[]⟩), (.slice none 0 0), (.bool false), (.int .i64 0)]), 5, 64) := by kernel_rfl
structure S73 where
 f0 : Int
 f1 : Int
 f2 : Int
 f3 : ByteArray
def z73 : S73 := ⟨(0 : Int), (0 : Int), (0 : Int), (⟨#[]⟩ : ByteArray)⟩
def k73 : Kd S73 := Kd.iso (Kd.pair (Kd.int .i64) (Kd.pair (Kd.int .i64) (Kd.pair (Kd.int .u64) Kd.string))) (fun x : S73 => (x.f0, x.f1, x.f2, x.f3))
theorem k73_open {w : World} {x : S73} {cs : List Value} (h : k73.K w x cs) : cs = [.int .i64 x.f0, .int .i64 x.f1, .int .u64 x.f2, .string x.f3] := by
 obtain ⟨_, _, rfl, rfl, ⟨_, _, rfl, rfl, ⟨_, _, rfl, rfl, rfl⟩⟩⟩ := h
 exact rfl
theorem k73_openM {w : World} {base : Nat} {ok : Nat → Prop} {x : S73} {cs : List Value} (h : k73.M w base ok x cs) : cs = [.int .i64 x.f0, .int .i64 x.f1, .int .u64 x.f2, .string x.f3] := by
 obtain ⟨_, _, rfl, rfl, ⟨_, _, rfl, rfl, ⟨_, _, rfl, rfl, rfl⟩⟩⟩ := h
 exact rfl
theorem k73_mk (w : World) (x : S73)  : k73.K w x [.int .i64 x.f0, .int .i64 x.f1, .int .u64 x.f2, .string x.f3] := ⟨[.int .i64 x.f0], [.int .i64 x.f1, .int .u64 x.f2, .string x.f3], rfl, rfl, ⟨[.int .i64 x.f1], [.int .u64 x.f2, .string x.f3], rfl, rfl, ⟨[.int .u64 x.f2], [.string x.f3], rfl, rfl, rfl⟩⟩⟩
theorem k73_mkM (w : World) (base : Nat) (ok : Nat → Prop) (x : S73)  : k73.M w base ok x [.int .i64 x.f0, .int .i64 x.f1, .int .u64 x.f2, .string x.f3] := ⟨[.int .i64 x.f0], [.int .i64 x.f1, .int .u64 x.f2, .string x.f3], rfl, rfl, ⟨[.int .i64 x.f1], [.int .u64 x.f2, .string x.f3], rfl, rfl, ⟨[.int .u64 x.f2], [.string x.f3], rfl, rfl, rfl⟩⟩⟩
structure S75 where
 f0 : Int
 f1 : ByteArray
 f2 : Int
 f3 : Int
 f4 : Int
 f5 : S73
def z75 : S75 := ⟨(0 : Int), (⟨#[]⟩ : ByteArray), (0 : Int), (0 : Int), (0 : Int), z73⟩
def k75 : Kd S75 := Kd.iso (Kd.pair (Kd.int .i64) (Kd.pair Kd.string (Kd.pair (Kd.int .i64) (Kd.pair (Kd.int .i64) (Kd.pair (Kd.int .i64) k73))))) (fun x : S75 => (x.f0, x.f1, x.f2, x.f3, x.f4, x.f5))
theorem k75_open {w : World} {x : S75} {cs : List Value} (h : k75.K w x cs) : cs = [.int .i64 x.f0, .string x.f1, .int .i64 x.f2, .int .i64 x.f3, .int .i64 x.f4, .int .i64 x.f5.f0, .int .i64 x.f5.f1, .int .u64 x.f5.f2, .string x.f5.f3] := by
 obtain ⟨_, _, rfl, rfl, ⟨_, _, rfl, rfl, ⟨_, _, rfl, rfl, ⟨_, _, rfl, rfl, ⟨_, _, rfl, rfl, s5⟩⟩⟩⟩⟩ := h
 obtain rfl := k73_open s5
 exact rfl
theorem k75_openM {w : World} {base : Nat} {ok : Nat → Prop} {x : S75} {cs : List Value} (h : k75.M w base ok x cs) : cs = [.int .i64 x.f0, .string x.f1, .int .i64 x.f2, .int .i64 x.f3, .int .i64 x.f4, .int .i64 x.f5.f0, .int .i64 x.f5.f1, .int .u64 x.f5.f2, .string x.f5.f3] := by
 obtain ⟨_, _, rfl, rfl, ⟨_, _, rfl, rfl, ⟨_, _, rfl, rfl, ⟨_, _, rfl, rfl, ⟨_, _, rfl, rfl, s5⟩⟩⟩⟩⟩ := h
 obtain rfl := k73_openM s5
 exact rfl
theorem k75_mk (w : World) (x : S75)  : k75.K w x [.int .i64 x.f0, .string x.f1, .int .i64 x.f2, .int .i64 x.f3, .int .i64 x.f4, .int .i64 x.f5.f0, .int .i64 x.f5.f1, .int .u64 x.f5.f2, .string x.f5.f3] := ⟨[.int .i64 x.f0], [.string x.f1, .int .i64 x.f2, .int .i64 x.f3, .int .i64 x.f4, .int .i64 x.f5.f0, .int .i64 x.f5.f1, .int .u64 x.f5.f2, .string x.f5.f3], rfl, rfl, ⟨[.string x.f1], [.int .i64 x.f2, .int .i64 x.f3, .int .i64 x.f4, .int .i64 x.f5.f0, .int .i64 x.f5.f1, .int .u64 x.f5.f2, .string x.f5.f3], rfl, rfl, ⟨[.int .i64 x.f2], [.int .i64 x.f3, .int .i64 x.f4, .int .i64 x.f5.f0, .int .i64 x.f5.f1, .int .u64 x.f5.f2, .string x.f5.f3], rfl, rfl, ⟨[.int .i64 x.f3], [.int .i64 x.f4, .int .i64 x.f5.f0, .int .i64 x.f5.f1, .int .u64 x.f5.f2, .string x.f5.f3], rfl, rfl, ⟨[.int .i64 x.f4], [.int .i64 x.f5.f0, .int .i64 x.f5.f1, .int .u64 x.f5.f2, .string x.f5.f3], rfl, rfl, (k73_mk w x.f5 )⟩⟩⟩⟩⟩
theorem k75_mkM (w : World) (base : Nat) (ok : Nat → Prop) (x : S75)  : k75.M w base ok x [.int .i64 x.f0, .string x.f1, .int .i64 x.f2, .int .i64 x.f3, .int .i64 x.f4, .int .i64 x.f5.f0, .int .i64 x.f5.f1, .int .u64 x.f5.f2, .string x.f5.f3] := ⟨[.int .i64 x.f0], [.string x.f1, .int .i64 x.f2, .int .i64 x.f3, .int .i64 x.f4, .int .i64 x.f5.f0, .int .i64 x.f5.f1, .int .u64 x.f5.f2, .string x.f5.f3], rfl, rfl, ⟨[.string x.f1], [.int .i64 x.f2, .int .i64 x.f3, .int .i64 x.f4, .int .i64 x.f5.f0, .int .i64 x.f5.f1, .int .u64 x.f5.f2, .string x.f5.f3], rfl, rfl, ⟨[.int .i64 x.f2], [.int .i64 x.f3, .int .i64 x.f4, .int .i64 x.f5.f0, .int .i64 x.f5.f1, .int .u64 x.f5.f2, .string x.f5.f3], rfl, rfl, ⟨[.int .i64 x.f3], [.int .i64 x.f4, .int .i64 x.f5.f0, .int .i64 x.f5.f1, .int .u64 x.f5.f2, .string x.f5.f3], rfl, rfl, ⟨[.int .i64 x.f4], [.int .i64 x.f5.f0, .int .i64 x.f5.f1, .int .u64 x.f5.f2, .string x.f5.f3], rfl, rfl, (k73_mkM w base ok x.f5 )⟩⟩⟩⟩⟩
def rd_T75 (xs : List S75) (i : Int) : S75 := xs.getD i.toNat z75
theorem at_T75 {w : World} {A : Option Addr} {n : Nat} {xs : List S75} (h : Kd.C k75 w A n xs) (i : Int) (h0 : 0 ≤ i) (h1 : i < n) : ∃ ad , A = some ad ∧ w.cell? (ad.add (i.toNat * 9)) = some (.int .i64 (rd_T75 xs i).f0) ∧ w.cell? ⟨(ad.add (i.toNat * 9)).block, (ad.add (i.toNat * 9)).off + 1, none⟩ = some (.string (rd_T75 xs i).f1) ∧ w.cell? ⟨(ad.add (i.toNat * 9)).block, (ad.add (i.toNat * 9)).off + 2, none⟩ = some (.int .i64 (rd_T75 xs i).f2) ∧ w.cell? ⟨(ad.add (i.toNat * 9)).block, (ad.add (i.toNat * 9)).off + 3, none⟩ = some (.int .i64 (rd_T75 xs i).f3) ∧ w.cell? ⟨(ad.add (i.toNat * 9)).block, (ad.add (i.toNat * 9)).off + 4, none⟩ = some (.int .i64 (rd_T75 xs i).f4) ∧ w.cell? ⟨(ad.add (i.toNat * 9)).block, (ad.add (i.toNat * 9)).off + 5, none⟩ = some (.int .i64 (rd_T75 xs i).f5.f0) ∧ w.cell? ⟨(ad.add (i.toNat * 9)).block, (ad.add (i.toNat * 9)).off + 6, none⟩ = some (.int .i64 (rd_T75 xs i).f5.f1) ∧ w.cell? ⟨(ad.add (i.toNat * 9)).block, (ad.add (i.toNat * 9)).off + 7, none⟩ = some (.int .u64 (rd_T75 xs i).f5.f2) ∧ w.cell? ⟨(ad.add (i.toNat * 9)).block, (ad.add (i.toNat * 9)).off + 8, none⟩ = some (.string (rd_T75 xs i).f5.f3) := by
 obtain ⟨ad, c, e, _, hK, hc0⟩ := Kd.C_get h z75 i h0 h1
 have hc : ∀ j u, c[j]? = some u → w.cell? (ad.add (i.toNat * 9 + j)) = some u := hc0
 obtain rfl := k75_open hK
 exact ⟨ad, e, hc 0 _ rfl, by rw [← add_field _ _ 1 (by omega)]; exact hc 1 _ rfl, by rw [← add_field _ _ 2 (by omega)]; exact hc 2 _ rfl, by rw [← add_field _ _ 3 (by omega)]; exact hc 3 _ rfl, by rw [← add_field _ _ 4 (by omega)]; exact hc 4 _ rfl, by rw [← add_field _ _ 5 (by omega)]; exact hc 5 _ rfl, by rw [← add_field _ _ 6 (by omega)]; exact hc 6 _ rfl, by rw [← add_field _ _ 7 (by omega)]; exact hc 7 _ rfl, by rw [← add_field _ _ 8 (by omega)]; exact hc 8 _ rfl⟩
structure S98 where
 f0 : Int
 f1 : ByteArray
 f2 : (List Int)
 f3 : Bool
 f4 : Int
def z98 : S98 := ⟨(0 : Int), (⟨#[]⟩ : ByteArray), ([] : List Int), false, (0 : Int)⟩
def k98 : Kd S98 := Kd.iso (Kd.pair (Kd.int .i64) (Kd.pair Kd.string (Kd.pair (Kd.slice 3 (Kd.int .i64)) (Kd.pair Kd.bool (Kd.int .i64))))) (fun x : S98 => (x.f0, x.f1, x.f2, x.f3, x.f4))
theorem k98_open {w : World} {x : S98} {cs : List Value} (h : k98.K w x cs) : ∃ A2 c2, cs = [.int .i64 x.f0, .string x.f1, .slice A2 x.f2.length c2, .bool x.f3, .int .i64 x.f4] ∧ x.f2.length ≤ c2 ∧ (Kd.int .i64).C w A2 x.f2.length x.f2 := by
 obtain ⟨_, _, rfl, rfl, ⟨_, _, rfl, rfl, ⟨_, _, rfl, ⟨A2, c2, rfl, l2, g2⟩, ⟨_, _, rfl, rfl, rfl⟩⟩⟩⟩ := h
 exact ⟨A2, c2, rfl, l2, g2⟩
theorem k98_openM {w : World} {base : Nat} {ok : Nat → Prop} {x : S98} {cs : List Value} (h : k98.M w base ok x cs) : ∃ v2, cs = [.int .i64 x.f0, .string x.f1, v2, .bool x.f3, .int .i64 x.f4] ∧ (Kd.int .i64).R 3 w base ok v2 x.f2 := by
 obtain ⟨_, _, rfl, rfl, ⟨_, _, rfl, rfl, ⟨_, _, rfl, ⟨v2, rfl, g2⟩, ⟨_, _, rfl, rfl, rfl⟩⟩⟩⟩ := h
 exact ⟨v2, rfl, g2⟩
theorem k98_mk (w : World) (x : S98) {A2 : Option Addr} {c2 : Nat} (l2 : x.f2.length ≤ c2) (g2 : (Kd.int .i64).C w A2 x.f2.length x.f2) : k98.K w x [.int .i64 x.f0, .string x.f1, .slice A2 x.f2.length c2, .bool x.f3, .int .i64 x.f4] := ⟨[.int .i64 x.f0], [.string x.f1, .slice A2 x.f2.length c2, .bool x.f3, .int .i64 x.f4], rfl, rfl, ⟨[.string x.f1], [.slice A2 x.f2.length c2, .bool x.f3, .int .i64 x.f4], rfl, rfl, ⟨[.slice A2 x.f2.length c2], [.bool x.f3, .int .i64 x.f4], rfl, ⟨A2, c2, rfl, l2, g2⟩, ⟨[.bool x.f3], [.int .i64 x.f4], rfl, rfl, rfl⟩⟩⟩⟩
theorem k98_mkM (w : World) (base : Nat) (ok : Nat → Prop) (x : S98) {v2 : Value} (g2 : (Kd.int .i64).R 3 w base ok v2 x.f2) : k98.M w base ok x [.int .i64 x.f0, .string x.f1, v2, .bool x.f3, .int .i64 x.f4] := ⟨[.int .i64 x.f0], [.string x.f1, v2, .bool x.f3, .int .i64 x.f4], rfl, rfl, ⟨[.string x.f1], [v2, .bool x.f3, .int .i64 x.f4], rfl, rfl, ⟨[v2], [.bool x.f3, .int .i64 x.f4], rfl, ⟨v2, rfl, g2⟩, ⟨[.bool x.f3], [.int .i64 x.f4], rfl, rfl, rfl⟩⟩⟩⟩
def rd_T98 (xs : List S98) (i : Int) : S98 := xs.getD i.toNat z98
theorem at_T98 {w : World} {A : Option Addr} {n : Nat} {xs : List S98} (h : Kd.C k98 w A n xs) (i : Int) (h0 : 0 ≤ i) (h1 : i < n) : ∃ ad A2 c2, A = some ad ∧ w.cell? (ad.add (i.toNat * 5)) = some (.int .i64 (rd_T98 xs i).f0) ∧ w.cell? ⟨(ad.add (i.toNat * 5)).block, (ad.add (i.toNat * 5)).off + 1, none⟩ = some (.string (rd_T98 xs i).f1) ∧ w.cell? ⟨(ad.add (i.toNat * 5)).block, (ad.add (i.toNat * 5)).off + 2, none⟩ = some (.slice A2 (rd_T98 xs i).f2.length c2) ∧ w.cell? ⟨(ad.add (i.toNat * 5)).block, (ad.add (i.toNat * 5)).off + 3, none⟩ = some (.bool (rd_T98 xs i).f3) ∧ w.cell? ⟨(ad.add (i.toNat * 5)).block, (ad.add (i.toNat * 5)).off + 4, none⟩ = some (.int .i64 (rd_T98 xs i).f4) ∧ (rd_T98 xs i).f2.length ≤ c2 ∧ (Kd.int .i64).C w A2 (rd_T98 xs i).f2.length (rd_T98 xs i).f2 := by
 obtain ⟨ad, c, e, _, hK, hc0⟩ := Kd.C_get h z98 i h0 h1
 have hc : ∀ j u, c[j]? = some u → w.cell? (ad.add (i.toNat * 5 + j)) = some u := hc0
 obtain ⟨A2, c2, rfl, l2, g2⟩ := k98_open hK
 exact ⟨ad, A2, c2, e, hc 0 _ rfl, by rw [← add_field _ _ 1 (by omega)]; exact hc 1 _ rfl, by rw [← add_field _ _ 2 (by omega)]; exact hc 2 _ rfl, by rw [← add_field _ _ 3 (by omega)]; exact hc 3 _ rfl, by rw [← add_field _ _ 4 (by omega)]; exact hc 4 _ rfl, l2, g2⟩
structure S70 where
 f0 : Int
 f1 : ByteArray
 f2 : (List S75)
 f3 : (List S98)
 f4 : Int
def z70 : S70 := ⟨(0 : Int), (⟨#[]⟩ : ByteArray), ([] : List S75), ([] : List S98), (0 : Int)⟩
def k70 : Kd S70 := Kd.iso (Kd.pair (Kd.int .i64) (Kd.pair Kd.string (Kd.pair (Kd.slice 75 k75) (Kd.pair (Kd.slice 98 k98) (Kd.int .i64))))) (fun x : S70 => (x.f0, x.f1, x.f2, x.f3, x.f4))
theorem k70_open {w : World} {x : S70} {cs : List Value} (h : k70.K w x cs) : ∃ A2 c2 A3 c3, cs = [.int .i64 x.f0, .string x.f1, .slice A2 x.f2.length c2, .slice A3 x.f3.length c3, .int .i64 x.f4] ∧ x.f2.length ≤ c2 ∧ k75.C w A2 x.f2.length x.f2 ∧ x.f3.length ≤ c3 ∧ k98.C w A3 x.f3.length x.f3 := by
 obtain ⟨_, _, rfl, rfl, ⟨_, _, rfl, rfl, ⟨_, _, rfl, ⟨A2, c2, rfl, l2, g2⟩, ⟨_, _, rfl, ⟨A3, c3, rfl, l3, g3⟩, rfl⟩⟩⟩⟩ := h
 exact ⟨A2, c2, A3, c3, rfl, l2, g2, l3, g3⟩
theorem k70_openM {w : World} {base : Nat} {ok : Nat → Prop} {x : S70} {cs : List Value} (h : k70.M w base ok x cs) : ∃ v2 v3, cs = [.int .i64 x.f0, .string x.f1, v2, v3, .int .i64 x.f4] ∧ k75.R 75 w base ok v2 x.f2 ∧ k98.R 98 w base ok v3 x.f3 := by
 obtain ⟨_, _, rfl, rfl, ⟨_, _, rfl, rfl, ⟨_, _, rfl, ⟨v2, rfl, g2⟩, ⟨_, _, rfl, ⟨v3, rfl, g3⟩, rfl⟩⟩⟩⟩ := h
 exact ⟨v2, v3, rfl, g2, g3⟩
theorem k70_mk (w : World) (x : S70) {A2 : Option Addr} {c2 : Nat} (l2 : x.f2.length ≤ c2) (g2 : k75.C w A2 x.f2.length x.f2) {A3 : Option Addr} {c3 : Nat} (l3 : x.f3.length ≤ c3) (g3 : k98.C w A3 x.f3.length x.f3) : k70.K w x [.int .i64 x.f0, .string x.f1, .slice A2 x.f2.length c2, .slice A3 x.f3.length c3, .int .i64 x.f4] := ⟨[.int .i64 x.f0], [.string x.f1, .slice A2 x.f2.length c2, .slice A3 x.f3.length c3, .int .i64 x.f4], rfl, rfl, ⟨[.string x.f1], [.slice A2 x.f2.length c2, .slice A3 x.f3.length c3, .int .i64 x.f4], rfl, rfl, ⟨[.slice A2 x.f2.length c2], [.slice A3 x.f3.length c3, .int .i64 x.f4], rfl, ⟨A2, c2, rfl, l2, g2⟩, ⟨[.slice A3 x.f3.length c3], [.int .i64 x.f4], rfl, ⟨A3, c3, rfl, l3, g3⟩, rfl⟩⟩⟩⟩
theorem k70_mkM (w : World) (base : Nat) (ok : Nat → Prop) (x : S70) {v2 : Value} (g2 : k75.R 75 w base ok v2 x.f2) {v3 : Value} (g3 : k98.R 98 w base ok v3 x.f3) : k70.M w base ok x [.int .i64 x.f0, .string x.f1, v2, v3, .int .i64 x.f4] := ⟨[.int .i64 x.f0], [.string x.f1, v2, v3, .int .i64 x.f4], rfl, rfl, ⟨[.string x.f1], [v2, v3, .int .i64 x.f4], rfl, rfl, ⟨[v2], [v3, .int .i64 x.f4], rfl, ⟨v2, rfl, g2⟩, ⟨[v3], [.int .i64 x.f4], rfl, ⟨v3, rfl, g3⟩, rfl⟩⟩⟩⟩
def rd_T70 (xs : List S70) (i : Int) : S70 := xs.getD i.toNat z70
theorem at_T70 {w : World} {A : Option Addr} {n : Nat} {xs : List S70} (h : Kd.C k70 w A n xs) (i : Int) (h0 : 0 ≤ i) (h1 : i < n) : ∃ ad A2 c2 A3 c3, A = some ad ∧ w.cell? (ad.add (i.toNat * 5)) = some (.int .i64 (rd_T70 xs i).f0) ∧ w.cell? ⟨(ad.add (i.toNat * 5)).block, (ad.add (i.toNat * 5)).off + 1, none⟩ = some (.string (rd_T70 xs i).f1) ∧ w.cell? ⟨(ad.add (i.toNat * 5)).block, (ad.add (i.toNat * 5)).off + 2, none⟩ = some (.slice A2 (rd_T70 xs i).f2.length c2) ∧ w.cell? ⟨(ad.add (i.toNat * 5)).block, (ad.add (i.toNat * 5)).off + 3, none⟩ = some (.slice A3 (rd_T70 xs i).f3.length c3) ∧ w.cell? ⟨(ad.add (i.toNat * 5)).block, (ad.add (i.toNat * 5)).off + 4, none⟩ = some (.int .i64 (rd_T70 xs i).f4) ∧ (rd_T70 xs i).f2.length ≤ c2 ∧ k75.C w A2 (rd_T70 xs i).f2.length (rd_T70 xs i).f2 ∧ (rd_T70 xs i).f3.length ≤ c3 ∧ k98.C w A3 (rd_T70 xs i).f3.length (rd_T70 xs i).f3 := by
 obtain ⟨ad, c, e, _, hK, hc0⟩ := Kd.C_get h z70 i h0 h1
 have hc : ∀ j u, c[j]? = some u → w.cell? (ad.add (i.toNat * 5 + j)) = some u := hc0
 obtain ⟨A2, c2, A3, c3, rfl, l2, g2, l3, g3⟩ := k70_open hK
 exact ⟨ad, A2, c2, A3, c3, e, hc 0 _ rfl, by rw [← add_field _ _ 1 (by omega)]; exact hc 1 _ rfl, by rw [← add_field _ _ 2 (by omega)]; exact hc 2 _ rfl, by rw [← add_field _ _ 3 (by omega)]; exact hc 3 _ rfl, by rw [← add_field _ _ 4 (by omega)]; exact hc 4 _ rfl, l2, g2, l3, g3⟩
structure S132 where
 f0 : ByteArray
 f1 : Bool
 f2 : S73
def k132 : Kd S132 := Kd.iso (Kd.pair Kd.string (Kd.pair Kd.bool k73)) (fun x : S132 => (x.f0, x.f1, x.f2))
structure S134 where
 f0 : ByteArray
 f1 : Int
 f2 : S73
def k134 : Kd S134 := Kd.iso (Kd.pair Kd.string (Kd.pair (Kd.int .i64) k73)) (fun x : S134 => (x.f0, x.f1, x.f2))
structure S45 where
 f0 : Int
 f1 : ByteArray
 f2 : ByteArray
 f3 : (List ByteArray)
 f4 : (List S73)
 f5 : (List S132)
 f6 : (List S134)
 f7 : Bool
 f8 : Int
 f9 : (List Int)
def k45 : Kd S45 := Kd.iso (Kd.pair (Kd.int .i64) (Kd.pair Kd.string (Kd.pair Kd.string (Kd.pair (Kd.slice 9 Kd.string) (Kd.pair (Kd.slice 73 k73) (Kd.pair (Kd.slice 132 k132) (Kd.pair (Kd.slice 134 k134) (Kd.pair Kd.bool (Kd.pair (Kd.int .i64) (Kd.slice 3 (Kd.int .i64))))))))))) (fun x : S45 => (x.f0, x.f1, x.f2, x.f3, x.f4, x.f5, x.f6, x.f7, x.f8, x.f9))
theorem k45_open {w : World} {x : S45} {cs : List Value} (h : k45.K w x cs) : ∃ A3 c3 A4 c4 A5 c5 A6 c6 A9 c9, cs = [.int .i64 x.f0, .string x.f1, .string x.f2, .slice A3 x.f3.length c3, .slice A4 x.f4.length c4, .slice A5 x.f5.length c5, .slice A6 x.f6.length c6, .bool x.f7, .int .i64 x.f8, .slice A9 x.f9.length c9] ∧ x.f3.length ≤ c3 ∧ Kd.string.C w A3 x.f3.length x.f3 ∧ x.f4.length ≤ c4 ∧ k73.C w A4 x.f4.length x.f4 ∧ x.f5.length ≤ c5 ∧ k132.C w A5 x.f5.length x.f5 ∧ x.f6.length ≤ c6 ∧ k134.C w A6 x.f6.length x.f6 ∧ x.f9.length ≤ c9 ∧ (Kd.int .i64).C w A9 x.f9.length x.f9 := by
 obtain ⟨_, _, rfl, rfl, ⟨_, _, rfl, rfl, ⟨_, _, rfl, rfl, ⟨_, _, rfl, ⟨A3, c3, rfl, l3, g3⟩, ⟨_, _, rfl, ⟨A4, c4, rfl, l4, g4⟩, ⟨_, _, rfl, ⟨A5, c5, rfl, l5, g5⟩, ⟨_, _, rfl, ⟨A6, c6, rfl, l6, g6⟩, ⟨_, _, rfl, rfl, ⟨_, _, rfl, rfl, ⟨A9, c9, rfl, l9, g9⟩⟩⟩⟩⟩⟩⟩⟩⟩⟩ := h
 exact ⟨A3, c3, A4, c4, A5, c5, A6, c6, A9, c9, rfl, l3, g3, l4, g4, l5, g5, l6, g6, l9, g9⟩
theorem k45_mk (w : World) (x : S45) {A3 : Option Addr} {c3 : Nat} (l3 : x.f3.length ≤ c3) (g3 : Kd.string.C w A3 x.f3.length x.f3) {A4 : Option Addr} {c4 : Nat} (l4 : x.f4.length ≤ c4) (g4 : k73.C w A4 x.f4.length x.f4) {A5 : Option Addr} {c5 : Nat} (l5 : x.f5.length ≤ c5) (g5 : k132.C w A5 x.f5.length x.f5) {A6 : Option Addr} {c6 : Nat} (l6 : x.f6.length ≤ c6) (g6 : k134.C w A6 x.f6.length x.f6) {A9 : Option Addr} {c9 : Nat} (l9 : x.f9.length ≤ c9) (g9 : (Kd.int .i64).C w A9 x.f9.length x.f9) : k45.K w x [.int .i64 x.f0, .string x.f1, .string x.f2, .slice A3 x.f3.length c3, .slice A4 x.f4.length c4, .slice A5 x.f5.length c5, .slice A6 x.f6.length c6, .bool x.f7, .int .i64 x.f8, .slice A9 x.f9.length c9] := ⟨[.int .i64 x.f0], [.string x.f1, .string x.f2, .slice A3 x.f3.length c3, .slice A4 x.f4.length c4, .slice A5 x.f5.length c5, .slice A6 x.f6.length c6, .bool x.f7, .int .i64 x.f8, .slice A9 x.f9.length c9], rfl, rfl, ⟨[.string x.f1], [.string x.f2, .slice A3 x.f3.length c3, .slice A4 x.f4.length c4, .slice A5 x.f5.length c5, .slice A6 x.f6.length c6, .bool x.f7, .int .i64 x.f8, .slice A9 x.f9.length c9], rfl, rfl, ⟨[.string x.f2], [.slice A3 x.f3.length c3, .slice A4 x.f4.length c4, .slice A5 x.f5.length c5, .slice A6 x.f6.length c6, .bool x.f7, .int .i64 x.f8, .slice A9 x.f9.length c9], rfl, rfl, ⟨[.slice A3 x.f3.length c3], [.slice A4 x.f4.length c4, .slice A5 x.f5.length c5, .slice A6 x.f6.length c6, .bool x.f7, .int .i64 x.f8, .slice A9 x.f9.length c9], rfl, ⟨A3, c3, rfl, l3, g3⟩, ⟨[.slice A4 x.f4.length c4], [.slice A5 x.f5.length c5, .slice A6 x.f6.length c6, .bool x.f7, .int .i64 x.f8, .slice A9 x.f9.length c9], rfl, ⟨A4, c4, rfl, l4, g4⟩, ⟨[.slice A5 x.f5.length c5], [.slice A6 x.f6.length c6, .bool x.f7, .int .i64 x.f8, .slice A9 x.f9.length c9], rfl, ⟨A5, c5, rfl, l5, g5⟩, ⟨[.slice A6 x.f6.length c6], [.bool x.f7, .int .i64 x.f8, .slice A9 x.f9.length c9], rfl, ⟨A6, c6, rfl, l6, g6⟩, ⟨[.bool x.f7], [.int .i64 x.f8, .slice A9 x.f9.length c9], rfl, rfl, ⟨[.int .i64 x.f8], [.slice A9 x.f9.length c9], rfl, rfl, ⟨A9, c9, rfl, l9, g9⟩⟩⟩⟩⟩⟩⟩⟩⟩⟩
end Go.Proofs.YtjgomlcdmpcoaaaDoor.D
namespace Go.Proofs.YtjgomlcdmpcoaaaDoor.H
open Go.RowKit Go.Proofs.YtjgomlcdmpcoaaaDoorW.PrintWords Go.Proofs.YtjgomlcdmpcoaaaDoorW.PrintLast Go.Proofs.YtjgomlcdmpcoaaaDoorW.PrintMore
open Go.Proofs.YtjgomlcdmpcoaaaDoor.D
def Pred {α : Type} (d : Kd α) (g : Nat) (lb : Array Value) (p : α → Bool) (w : World) : Prop :=
  ∀ (W : World) (x : α) (cs : List Value), Below w.heap.size w W → d.K W x cs → Calls Tryd.prog g (#[.agg cs.toArray] ++ lb) W fun e w' => e = .returned (.bool (p x)) ∧ Below w.heap.size w w'
def idxL {α : Type} (p : α → Bool) (l : List α) (i : Nat) : Int := match l with
  | [] => -1
  | x :: l => if p x then (i : Int) else idxL p l (i + 1)
theorem enters {f : FuncId} {fn : Func} {c : Code} (hf : Tryd.prog.funcs[f]? = some fn) (hname : (fn.name == "runtime.NumGoroutine") = false) (hb : fn.body = some c) (args : Array Value) (w : World) :
    (callFunc f args).run Tryd.prog w = .ok (.enter f args) w := by
  have h1 : fn.name ≠ "runtime.NumGoroutine" := by simpa using hname
  simp [callFunc, hf, h1, hb]
set_option maxHeartbeats 4000000 in
set_option maxRecDepth 100000 in
theorem idx75 (g : Nat) (lb : Array Value) (eg : ∀ args w, (callFunc g args).run Tryd.prog w = .ok (.enter g args) w) (p : S75 → Bool) (A : Option Addr) (c : Nat) (xs : List S75) (w : World)
    (hA : Kd.C k75 w A xs.length xs) (hp : Pred k75 g lb p w) :
    Calls Tryd.prog 155 #[.slice A xs.length c, .func (.func g) #[] lb] w fun e w' => e = .returned (.int .i64 (idxL p xs 0)) ∧ Below w.heap.size w w' := by
  have HA := Lib.hid hA
  have hbig := hA.2.1
  have HP := Lib.hid hp
  have HE := Lib.hid eg
  clear hA hp eg
  go_enter Tryd.func155, Tryd.ntmps155
  go_wp2
  go_loopg [5, 8] xs.length (fun gg _ s8 wr => ∃ kk : Nat, kk ≤ xs.length ∧ xs.length - kk ≤ gg ∧ s8 = .int .i64 kk ∧ Aside0 (Below w.heap.size w wr) ∧ Aside0 (idxL p xs 0 = idxL p (xs.drop kk) kk))
  case atStart => exact ⟨0, Nat.zero_le _, by omega, rfl, ⟨Below.refl _ w⟩, ⟨rfl⟩⟩
  case round =>
    obtain ⟨kk, hkk, hg, rfl, BW, hI⟩ := hrel
    by_cases hlt : kk < xs.length
    · have hltz : (kk : Int) < (xs.length : Int) := by omega
      have hd : xs.drop kk = xs[kk] :: xs.drop (kk + 1) := List.drop_eq_getElem_cons hlt
      have hC := Kd.C_below HA.out BW.out
      obtain ⟨ad, eA, h0, h1, h2, h3, h4, h5, h6, h7, h8⟩ := at_T75 hC (kk : Int) (by omega) (by omega)
      have hx : rd_T75 xs (kk : Int) = xs[kk] := by unfold rd_T75; simp [List.getD, hlt]
      rw [hx] at h0 h1 h2 h3 h4 h5 h6 h7 h8
      simp only [Int.toNat_natCast] at h0 h1 h2 h3 h4 h5 h6 h7 h8
      have hcall := HP.out wr xs[kk] _ BW.out (k75_mk _ _)
      generalize xs[kk] = x at hd hcall h0 h1 h2 h3 h4 h5 h6 h7 h8
      rw [hd] at hI
      cases eA
      have HI := Lib.hid hI
      clear hI hd hx
      cases hq : p x with
      | true =>
        rw [hq] at hcall
        have HQ := Lib.hid hq
        clear hq
        have HC := Lib.hid hcall
        clear hcall
        go_wp2_with fail
        rw [HE.out, Oper.upon_enter]
        refine HC.out.mono ?_
        rintro e w' ⟨rfl, hb'⟩
        go_wp2
        go_ret
        refine ⟨?_, hb'⟩
        rw [HI.out.out]
        simp [idxL, HQ.out]
      | false =>
        rw [hq] at hcall
        have HQ := Lib.hid hq
        clear hq
        have HC := Lib.hid hcall
        clear hcall
        go_wp2_with fail
        rw [HE.out, Oper.upon_enter]
        refine HC.out.mono ?_
        rintro e w' ⟨rfl, hb'⟩
        go_wp2
        go_roundg (xs.length - (kk + 1))
        case measure => omega
        case rel =>
          refine ⟨kk + 1, by omega, by omega, by go_num, ⟨hb'⟩, ⟨?_⟩⟩
          rw [HI.out.out]
          simp [idxL, HQ.out]
    · have hltz : ¬ (kk : Int) < (xs.length : Int) := by omega
      have hd : xs.drop kk = [] := List.drop_eq_nil_of_le (by omega)
      rw [hd] at hI
      have HI := Lib.hid hI
      clear hI hd
      go_wp2
      go_ret
      refine ⟨?_, BW.out⟩
      rw [HI.out.out]
      rfl
theorem idxL_any {α : Type} (p : α → Bool) : ∀ (l : List α) (i : Nat), decide (0 ≤ idxL p l i) = l.any p
  | [], i => by simp [idxL]
  | x :: l, i => by
    unfold idxL
    cases h : p x with
    | true => simp [h]
    | false => simp [h, idxL_any p l (i + 1)]
set_option maxHeartbeats 1000000 in
set_option maxRecDepth 100000 in
theorem any75 (g : Nat) (lb : Array Value) (eg : ∀ args w, (callFunc g args).run Tryd.prog w = .ok (.enter g args) w) (p : S75 → Bool) (A : Option Addr) (c : Nat) (xs : List S75) (w : World)
    (hA : Kd.C k75 w A xs.length xs) (hp : Pred k75 g lb p w) :
    Calls Tryd.prog 164 #[.slice A xs.length c, .func (.func g) #[] lb] w fun e w' => e = .returned (.bool (xs.any p)) ∧ Below w.heap.size w w' := by
  have hc := Lib.hid (idx75 g lb eg p A c xs w hA hp)
  have hi := Lib.hid (idxL_any p xs 0)
  clear hA hp eg
  go_enter Tryd.func164, Tryd.ntmps164
  go_wp2_with (go_at_call 155; refine hc.out.mono ?_; rintro e w' ⟨rfl, hb⟩)
  go_ret
  exact ⟨by rw [← hi.out]; rfl, hb⟩
set_option maxHeartbeats 1000000 in
theorem pred165 (id : Int) (B : Nat) (w : World) (hB : B < w.heap.size) (hc : w.cell? ⟨B, 0, none⟩ = some (.int .i64 id)) : Pred k75 165 #[.pointer (some ⟨B, 0, none⟩)] (fun c => c.f0 == id) w := by
  intro W x cs hb hK
  obtain rfl := k75_open hK
  have hc' := (hb.cell (p := ⟨B, 0, none⟩) hB).trans hc
  have hl : B < W.heap.size := Nat.lt_of_lt_of_le hB hb.size
  show Calls Tryd.prog 165 #[.agg #[.int .i64 x.f0, .string x.f1, .int .i64 x.f2, .int .i64 x.f3, .int .i64 x.f4, .int .i64 x.f5.f0, .int .i64 x.f5.f1, .int .u64 x.f5.f2, .string x.f5.f3], .pointer (some ⟨B, 0, none⟩)] W _
  have HB := Aside0.mk hb
  clear hb hc hK
  go_enter Tryd.func165, Tryd.ntmps165
  go_wp2
  go_ret
  exact ⟨rfl, HB.out.alloc HB.out.size _⟩
end Go.Proofs.YtjgomlcdmpcoaaaDoor.H
namespace Go.Proofs.YtjgomlcdmpcoaaaDoor.D
open Go.RowKit Go.Proofs.YtjgomlcdmpcoaaaDoorW.PrintWords Go.Proofs.YtjgomlcdmpcoaaaDoorW.PrintLast Go.Proofs.YtjgomlcdmpcoaaaDoorW.PrintMore
attribute [local go_sem] max2_int min2_int max_two min_two max_three min_three max_four min_four
set_option linter.unusedVariables false
set_option linter.unusedSimpArgs false
def slices_Index_string_string.l0 : Nat → List ByteArray → ByteArray → Int → Int → Option (Int)
 | 0, _, _, _, _ => none
 | k + 1, x0, x1, x7, x8 => if x8 < x7 then (if 0 ≤ x8 then (if x8 < (x0.length : Int) then (if x1.toList = (rdOf ByteArray.empty x0 x8).toList then (some x8) else (slices_Index_string_string.l0 k x0 x1 x7 (wrap64 (x8 + 1)))) else (none)) else (none)) else (some (-1))
def slices_Index_string_string.f (k : Nat) (l0 : List ByteArray) (a1 : ByteArray) : Option (Int) := slices_Index_string_string.l0 k l0 a1 (l0.length : Int) 0
theorem slices_Index_string_string.mono_l : ∀ k, (∀ y0 y1 y2 y3, LeO (slices_Index_string_string.l0 k y0 y1 y2 y3) (slices_Index_string_string.l0 (k + 1) y0 y1 y2 y3))
 | 0 => fun _ _ _ _ r h => by simp [slices_Index_string_string.l0] at h
 | k + 1 => by
  have ih0 := slices_Index_string_string.mono_l k
  ·intro y0 y1 y2 y3
   unfold slices_Index_string_string.l0
   repeat' first
   | (with_reducible exact ih0 _ _ _ _)
   | (with_reducible exact LeO.refl _)
   | (with_reducible exact LeO.none _)
   | (with_reducible refine LeO.ite ?_ ?_)
   | (with_reducible refine LeO.bind ?_ (fun _ => ?_))
   | exact ih0 _ _ _ _
   | exact LeO.none _
   | refine LeO.ite ?_ ?_
   | refine LeO.bind ?_ (fun _ => ?_)
theorem slices_Index_string_string.mono : ∀ a0 a1 k, LeO (slices_Index_string_string.f k a0 a1) (slices_Index_string_string.f (k + 1) a0 a1) := by
 intro a0 a1 k
 have ih0 := slices_Index_string_string.mono_l k
 unfold slices_Index_string_string.f
 repeat' first
   | (with_reducible exact ih0 _ _ _ _)
   | (with_reducible exact LeO.refl _)
   | (with_reducible exact LeO.none _)
   | (with_reducible refine LeO.ite ?_ ?_)
   | (with_reducible refine LeO.bind ?_ (fun _ => ?_))
   | exact ih0 _ _ _ _
   | exact LeO.none _
   | refine LeO.ite ?_ ?_
   | refine LeO.bind ?_ (fun _ => ?_)
set_option maxHeartbeats 8000000 in
set_option maxRecDepth 100000 in
theorem slices_Index_string_string.calls (k : Nat) (A0 : Option Addr) (c0 : Nat) (l0 : List ByteArray) (a1 : ByteArray) (r : Int) (w : World) (hr0 : Kd.C Kd.string w A0 l0.length l0) (hc0 : l0.length ≤ c0) (h : slices_Index_string_string.f k l0 a1 = some r) :
  Calls Tryd.prog 119 #[.slice A0 l0.length c0, .string a1] w fun e w' => e = .returned (.int .i64 r) ∧ Drawn0 w w' := by
 have HR0 := Aside0.mk hr0; have HC0 := Aside0.mk hc0; clear hr0 hc0; have H : (slices_Index_string_string.l0 k l0 a1 (l0.length : Int) 0) = some r := h
 clear h; have H' := Aside0.mk H; clear H; go_enter Tryd.func119, Tryd.ntmps119
 go_wp2; go_loopg [8] k (fun kq v8 w' => ∃ (x8_1 : Int), v8 = .int .i64 x8_1 ∧ Aside0 (slices_Index_string_string.l0 kq l0 a1 (l0.length : Int) x8_1 = some r) ∧ Aside0 (kq ≤ k) ∧ Drawn0 w w')
 case atStart => exact ⟨(0), (by first | rfl | (simp; done) | (simp [*]; done)), H', ⟨Nat.le_refl _⟩, by repeat (first | exact Drawn0.refl _ | apply Drawn0.step)⟩
 case round =>
  clear H'; (try clear c1); (try clear p2); obtain ⟨x8_1, rfl, HA, HK1, ⟨m1, rfl⟩⟩ := hrel
  cases gk with
  | zero => exact absurd HA.out (by simp [slices_Index_string_string.l0])
  | succ k1 =>
   have H := HA.out; clear HA; simp only [slices_Index_string_string.l0] at H
   by_cases c3 : x8_1 < (l0.length : Int)
   ·rw [if_pos c3] at H
    have c3b0 : decide (x8_1 < (l0.length : Int)) = true := decide_eq_true c3
    clear c3; by_cases c4 : 0 ≤ x8_1
    ·rw [if_pos c4] at H
     have c4b0 : decide (0 ≤ x8_1) = true := decide_eq_true c4
     clear c4; by_cases c5 : x8_1 < (l0.length : Int)
     ·rw [if_pos c5] at H
      have c5b0 : decide (x8_1 < (l0.length : Int)) = true := decide_eq_true c5
      clear c5; by_cases c6 : a1.toList = (rdOf ByteArray.empty l0 x8_1).toList
      ·rw [if_pos c6] at H
       have c6b0 : (a1.toList == (rdOf ByteArray.empty l0 x8_1).toList) = true := beq_iff_eq.mpr c6
       have c6b1 : (a1.toList != (rdOf ByteArray.empty l0 x8_1).toList) = false := bne_eq_false_iff_eq.mpr c6
       clear c6; obtain rfl := Option.some.inj H; have p105 : 0 ≤ (x8_1 : Int) := of_decide_eq_true (by first | (with_reducible assumption) | assumption)
       have q105 : x8_1 < (l0.length : Int) := of_decide_eq_true (by first | (with_reducible assumption) | assumption)
       obtain ⟨ad105, e105, hx105_0⟩ := Kd.at_string HR0.out x8_1 p105 q105
       cases e105
       replace p105 := eq_true p105
       replace q105 := eq_true q105
       go_wp2; go_ret; exact ⟨by first | rfl | (simp; done) | (simp [*]; done), by repeat (first | exact Drawn0.refl _ | apply Drawn0.step)⟩
      ·rw [if_neg c6] at H
       have c6b0 : (a1.toList == (rdOf ByteArray.empty l0 x8_1).toList) = false := beq_eq_false_iff_ne.mpr c6
       have c6b1 : (a1.toList != (rdOf ByteArray.empty l0 x8_1).toList) = true := bne_iff_ne.mpr c6
       have H' := Aside0.mk H; clear H; have p105 : 0 ≤ (x8_1 : Int) := of_decide_eq_true (by first | (with_reducible assumption) | assumption)
       have q105 : x8_1 < (l0.length : Int) := of_decide_eq_true (by first | (with_reducible assumption) | assumption)
       obtain ⟨ad105, e105, hx105_0⟩ := Kd.at_string HR0.out x8_1 p105 q105
       cases e105
       replace p105 := eq_true p105
       replace q105 := eq_true q105
       go_wp2; go_roundg k1
       case measure => have := HK1.out; omega
       case rel => exact ⟨(wrap64 (x8_1 + 1)), (by first | rfl | (simp; done) | (simp [*]; done)), H', ⟨by have := HK1.out; omega⟩, by repeat (first | exact Drawn0.refl _ | apply Drawn0.step)⟩
     ·rw [if_neg c5] at H
      exact absurd H (by simp)
    ·rw [if_neg c4] at H
     exact absurd H (by simp)
   ·rw [if_neg c3] at H
    have c3b0 : decide (x8_1 < (l0.length : Int)) = false := decide_eq_false c3
    clear c3; obtain rfl := Option.some.inj H; go_wp2; go_ret; exact ⟨by first | rfl | (simp; done) | (simp [*]; done), by repeat (first | exact Drawn0.refl _ | apply Drawn0.step)⟩
end Go.Proofs.YtjgomlcdmpcoaaaDoor.D
namespace Go.Proofs.YtjgomlcdmpcoaaaDoor.D
open Go.RowKit Go.Proofs.YtjgomlcdmpcoaaaDoorW.PrintWords Go.Proofs.YtjgomlcdmpcoaaaDoorW.PrintLast Go.Proofs.YtjgomlcdmpcoaaaDoorW.PrintMore
attribute [local go_sem] max2_int min2_int max_two min_two max_three min_three max_four min_four
set_option linter.unusedVariables false
set_option linter.unusedSimpArgs false
def slices_Contains_string_string.f (k : Nat) (l0 : List ByteArray) (a1 : ByteArray) : Option (Bool) := (slices_Index_string_string.f k l0 a1).bind fun t106 => (some (decide (t106 ≥ 0)))
theorem slices_Contains_string_string.mono : ∀ a0 a1 k, LeO (slices_Contains_string_string.f k a0 a1) (slices_Contains_string_string.f (k + 1) a0 a1) := by
 intro a0 a1 k
 unfold slices_Contains_string_string.f
 repeat' first
   | (with_reducible exact slices_Index_string_string.mono _ _ _)
   | (with_reducible exact LeO.refl _)
   | (with_reducible exact LeO.none _)
   | (with_reducible refine LeO.ite ?_ ?_)
   | (with_reducible refine LeO.bind ?_ (fun _ => ?_))
   | exact slices_Index_string_string.mono _ _ _
   | exact LeO.none _
   | refine LeO.ite ?_ ?_
   | refine LeO.bind ?_ (fun _ => ?_)
set_option maxHeartbeats 8000000 in
set_option maxRecDepth 100000 in
theorem slices_Contains_string_string.calls (k : Nat) (A0 : Option Addr) (c0 : Nat) (l0 : List ByteArray) (a1 : ByteArray) (r : Bool) (w : World) (hr0 : Kd.C Kd.string w A0 l0.length l0) (hc0 : l0.length ≤ c0) (h : slices_Contains_string_string.f k l0 a1 = some r) :
  Calls Tryd.prog 70 #[.slice A0 l0.length c0, .string a1] w fun e w' => e = .returned (.bool r) ∧ Drawn0 w w' := by
 have HR0 := Aside0.mk hr0; have HC0 := Aside0.mk hc0; clear hr0 hc0; have H : ((slices_Index_string_string.f k l0 a1).bind fun t106 => (some (decide (t106 ≥ 0)))) = some r := h
 clear h; replace H := Option.bind_eq_some_iff.mp H; obtain ⟨t106, A30, H⟩ := H
 replace H : (some (decide (t106 ≥ 0))) = some r := H
 have A3 := Aside0.mk A30; clear A30; obtain rfl := Option.some.inj H; go_enter Tryd.func70, Tryd.ntmps70
 go_wp2_with (first | ((with_reducible refine gate_callee (f := 119) rfl ?_); refine goesL_ (some 7) rfl rfl Tryd.func119 (by kernel_rfl) rfl #[.slice A0 l0.length c0, .string a1] rfl (by (try simp only [List.map_toArray, List.map_cons, List.map_nil]); first | done | rfl | (simp only [List.length_drop, List.length_take]; rfl)) ?_; (with_reducible refine (slices_Index_string_string.calls k _ _ l0 a1 t106 _ ?side1 ?side2 A3.out).mono ?_); (case side1 => repeat (first | exact HR0.out | (with_reducible refine Kd.C_alloc ?_ _) | (with_reducible refine Kd.C_drewN ?_ _) | (with_reducible refine Kd.C_drew ?_))); (case side2 => exact HC0.out); rintro e w' ⟨rfl, ⟨nd, rfl⟩⟩; refine ⟨_, rfl, ?_⟩))
 go_ret; exact ⟨by first | rfl | (simp; done) | (simp [*]; done), by repeat (first | exact Drawn0.refl _ | apply Drawn0.step)⟩
end Go.Proofs.YtjgomlcdmpcoaaaDoor.D
namespace Go.Proofs
open Go.Shelf
def Tryd.lays157_ren : Go.Shelf.Ren := ⟨fun | 157 => 120 | 229 => 160 | 199 => 161 | 261 => 177 | 311 => 181 | 312 => 182 | n => n, fun | 9 => 9 | 31 => 39 | 3 => 3 | 5 => 5 | 4 => 4 | 119 => 188 | 0 => 0 | 40 => 190 | 152 => 200 | 21 => 21 | 154 => 202 | 51 => 162 | 141 => 204 | 196 => 211 | 193 => 208 | 198 => 214 | 49 => 212 | 194 => 209 | 201 => 217 | 226 => 219 | 46 => 62 | 227 => 220 | n => n, fun | 0 => 0 | 6 => 1 | n => n⟩
theorem Tryd.lays157 : Go.Proofs.Lays.n157 Tryd.prog Tryd.lays157_ren := {
  mixed := by kernel_rfl
  f157 := Tryd.func120.trans (congrArg some (by kernel_rfl))
  f199 := Tryd.func161.trans (congrArg some (by kernel_rfl))
  f229 := Tryd.func160.trans (congrArg some (by kernel_rfl))
  f261 := Tryd.func177.trans (congrArg some (by kernel_rfl))
  f311 := Tryd.func181.trans (congrArg some (by kernel_rfl))
  f312 := Tryd.func182.trans (congrArg some (by kernel_rfl))
  t0 := Tryd.underlying0
  a0 := Tryd.isAgg0
  z0 := Tryd.sizeOf0
  v0 := Tryd.zeroValue0
  t3 := Tryd.underlying3
  a3 := Tryd.isAgg3
  z3 := Tryd.sizeOf3
  v3 := Tryd.zeroValue3
  t4 := Tryd.underlying4
  a4 := Tryd.isAgg4
  z4 := Tryd.sizeOf4
  v4 := Tryd.zeroValue4
  t5 := Tryd.underlying5
  a5 := Tryd.isAgg5
  z5 := Tryd.sizeOf5
  v5 := Tryd.zeroValue5
  t9 := Tryd.underlying9
  a9 := Tryd.isAgg9
  z9 := Tryd.sizeOf9
  v9 := Tryd.zeroValue9
  t21 := Tryd.underlying21
  a21 := Tryd.isAgg21
  z21 := Tryd.sizeOf21
  v21 := Tryd.zeroValue21
  t31 := Tryd.underlying39
  a31 := Tryd.isAgg39
  z31 := Tryd.sizeOf39
  v31 := Tryd.zeroValue39
  t40 := Tryd.underlying190
  a40 := Tryd.isAgg190
  z40 := Tryd.sizeOf190
  v40 := Tryd.zeroValue190
  t46 := Tryd.underlying62
  a46 := Tryd.isAgg62
  z46 := Tryd.sizeOf62
  v46 := Tryd.zeroValue62
  t49 := Tryd.underlying212
  a49 := Tryd.isAgg212
  z49 := Tryd.sizeOf212
  v49 := Tryd.zeroValue212
  t51 := Tryd.underlying162
  a51 := Tryd.isAgg162
  z51 := Tryd.sizeOf162
  v51 := Tryd.zeroValue162
  t119 := Tryd.underlying188
  a119 := Tryd.isAgg188
  z119 := Tryd.sizeOf188
  t141 := Tryd.underlying204
  a141 := Tryd.isAgg204
  z141 := Tryd.sizeOf204
  v141 := Tryd.zeroValue204
  t152 := Tryd.underlying200
  a152 := Tryd.isAgg200
  z152 := Tryd.sizeOf200
  v152 := Tryd.zeroValue200
  t154 := Tryd.underlying202
  a154 := Tryd.isAgg202
  z154 := Tryd.sizeOf202
  v154 := Tryd.zeroValue202
  t193 := Tryd.underlying208
  a193 := Tryd.isAgg208
  z193 := Tryd.sizeOf208
  v193 := Tryd.zeroValue208
  t194 := Tryd.underlying209
  a194 := Tryd.isAgg209
  z194 := Tryd.sizeOf209
  v194 := Tryd.zeroValue209
  t196 := Tryd.underlying211
  a196 := Tryd.isAgg211
  z196 := Tryd.sizeOf211
  v196 := Tryd.zeroValue211
  t198 := Tryd.underlying214
  a198 := Tryd.isAgg214
  z198 := Tryd.sizeOf214
  v198 := Tryd.zeroValue214
  t201 := Tryd.underlying217
  a201 := Tryd.isAgg217
  z201 := Tryd.sizeOf217
  v201 := Tryd.zeroValue217
  t226 := Tryd.underlying219
  a226 := Tryd.isAgg219
  z226 := Tryd.sizeOf219
  v226 := Tryd.zeroValue219
  t227 := Tryd.underlying220
  a227 := Tryd.isAgg220
  z227 := Tryd.sizeOf220
  v227 := Tryd.zeroValue220
  g0 := by kernel_rfl
  g6 := by kernel_rfl }
end Go.Proofs
namespace Go.Proofs.YtjgomlcdmpcoaaaDoor
open Go.RowKit Go.Proofs.YtjgomlcdmpcoaaaDoorW.PrintWords Go.Proofs.YtjgomlcdmpcoaaaDoorW.PrintLast
def wordsText : ByteArray := ⟨#[105, 110, 115, 101, 114, 116, 32, 105, 110, 116, 111, 32, 118, 97, 108, 117, 101, 115, 32, 117, 112, 100, 97, 116, 101, 32, 115, 101, 116, 32, 119, 104, 101, 114, 101, 32, 97, 110, 100, 32, 100, 101, 108, 101, 116, 101, 32, 102, 114, 111, 109, 32, 115, 101, 108, 101, 99, 116, 32, 99, 114, 101, 97, 116, 101, 32, 117, 110, 105, 113, 117, 101, 32, 116, 97, 98, 108, 101, 32, 105, 110, 100, 101, 120, 32, 111, 110, 32, 100, 114, 111, 112, 32, 97, 108, 116, 101, 114, 32, 97, 100, 100, 32, 99, 111, 108, 117, 109, 110, 32, 100, 101, 102, 97, 117, 108, 116, 32, 110, 111, 116, 32, 110, 117, 108, 108, 32, 105, 115, 32, 112, 114, 105, 109, 97, 114, 121, 32, 107, 101, 121, 32, 98, 111, 111, 108, 32, 105, 110, 116, 32, 102, 108, 111, 97, 116, 32, 98, 121, 116, 101, 115, 32, 116, 101, 120, 116, 32, 116, 114, 117, 101, 32, 102, 97, 108, 115, 101]⟩
def wordsL : List ByteArray := (Lib.fields wordsText.data.toList).map fun l => ⟨l.toArray⟩
def desc_words.f : Option (List ByteArray) := some wordsL
theorem wordsText_ascii : ∀ b ∈ wordsText.data.toList, b.toNat < 128 := by decide +kernel
set_option maxRecDepth 100000 in
theorem desc_words.calls (r : List ByteArray) (w : World) (h : desc_words.f = some r) (hG : GL w) :
    Calls Tryd.prog 71 #[] w fun e w' => ∃ v0_ : Value, e = .returned (v0_) ∧ Kd.R Kd.string 9 w' w.heap.size (fun _ => True) v0_ r ∧ Below w.heap.size w w' := by
  obtain rfl : wordsL = r := Option.some.inj h
  have hc : Calls Tryd.prog 120 #[.string wordsText] w fun e w' => e = .returned (.slice (some ⟨w.heap.size, 0, none⟩) wordsL.length wordsL.length) ∧ w' = w.alloc (.cells (wordsL.map Value.string).toArray 9) := by
    have hx := Any.strings_Fields_core Tryd.lays157 (by kernel_rfl) wordsText w (by decide +kernel) (fun j b hb => wordsText_ascii b (List.mem_of_getElem? hb)) hG.tab
    refine hx.mono ?_
    rintro e w' ⟨rfl, rfl⟩
    refine ⟨?_, ?_⟩
    · simp only [wordsL, List.length_map]
    · simp only [wordsL, List.map_map]
      rfl
  have HC := Lib.hid hc
  clear hc h
  go_enter Tryd.func71, Tryd.ntmps71
  go_wp2_with (go_at_call 120; refine HC.out.mono ?_; rintro e w' ⟨rfl, rfl⟩)
  go_ret
  refine ⟨_, rfl, ?_, below_alloc (Below.refl _ _) _⟩
  refine Kd.R_of_own (enc := Value.string) (h1 := fun _ => rfl) ?_ (fun _ _ => trivial)
  have ho := World.ownsRow_lit (base := w.heap.size) (e := 9) (size := 1) w (wordsL.map Value.string).toArray wordsL.length (Nat.le_refl _) (by decide +kernel) (by simp)
  simpa [encs] using ho
end Go.Proofs.YtjgomlcdmpcoaaaDoor
namespace Go.Proofs.YtjgomlcdmpcoaaaDoor.D
open Go.RowKit Go.Proofs.YtjgomlcdmpcoaaaDoorW.PrintWords Go.Proofs.YtjgomlcdmpcoaaaDoorW.PrintLast Go.Proofs.YtjgomlcdmpcoaaaDoorW.PrintMore
attribute [local go_sem] max2_int min2_int max_two min_two max_three min_three max_four min_four
set_option linter.unusedVariables false
set_option linter.unusedSimpArgs false
mutual
def desc_Name.j0 : Nat → ByteArray → Bool → Option (Bool)
 | 0, _, _ => none
 | k + 1, x0, x27 => if x27 = true then (some false) else (desc_Name.l0 k x0 (x0.size : Int) 0)
def desc_Name.l0 : Nat → ByteArray → Int → Int → Option (Bool)
 | 0, _, _, _ => none
 | k + 1, x0, x29, x30 => if x30 < x29 then (if 0 ≤ x30 then (if x30 < (x0.size : Int) then (if (bt x0 x30) < 97 then (if (bt x0 x30) < 48 then (if (bt x0 x30) = 95 then (desc_Name.l0 k x0 x29 (wrap64 (x30 + 1))) else (some false)) else (if (bt x0 x30) > 57 then (if (bt x0 x30) = 95 then (desc_Name.l0 k x0 x29 (wrap64 (x30 + 1))) else (some false)) else (desc_Name.l0 k x0 x29 (wrap64 (x30 + 1))))) else (if (bt x0 x30) > 122 then (if (bt x0 x30) < 48 then (if (bt x0 x30) = 95 then (desc_Name.l0 k x0 x29 (wrap64 (x30 + 1))) else (some false)) else (if (bt x0 x30) > 57 then (if (bt x0 x30) = 95 then (desc_Name.l0 k x0 x29 (wrap64 (x30 + 1))) else (some false)) else (desc_Name.l0 k x0 x29 (wrap64 (x30 + 1))))) else (desc_Name.l0 k x0 x29 (wrap64 (x30 + 1))))) else (none)) else (none)) else (some true)
end
def desc_Name.f (k : Nat) (a0 : ByteArray) : Option (Bool) := if (a0.size : Int) < 1 then (desc_Name.j0 k a0 true) else (if (a0.size : Int) > 16 then (desc_Name.j0 k a0 true) else (if 0 < (a0.size : Int) then (if (bt a0 0) < 97 then (desc_Name.j0 k a0 true) else (if (bt a0 0) > 122 then (desc_Name.j0 k a0 true) else ((desc_words.f).bind fun t107 => ((slices_Contains_string_string.f k t107 a0).bind fun t110 => (desc_Name.j0 k a0 t110))))) else (none)))
theorem desc_Name.mono_l : ∀ k, (∀ y0 y1, LeO (desc_Name.j0 k y0 y1) (desc_Name.j0 (k + 1) y0 y1)) ∧ (∀ y0 y1 y2, LeO (desc_Name.l0 k y0 y1 y2) (desc_Name.l0 (k + 1) y0 y1 y2))
 | 0 => ⟨fun _ _ r h => by simp [desc_Name.j0] at h, fun _ _ _ r h => by simp [desc_Name.l0] at h⟩
 | k + 1 => by
  obtain ⟨ih0, ih1⟩ := desc_Name.mono_l k
  refine ⟨?_, ?_⟩
  ·intro y0 y1
   unfold desc_Name.j0
   repeat' first
   | (with_reducible exact ih0 _ _)
   | (with_reducible exact ih1 _ _ _)
   | (with_reducible exact slices_Contains_string_string.mono _ _ _)
   | (with_reducible exact LeO.refl _)
   | (with_reducible exact LeO.none _)
   | (with_reducible refine LeO.ite ?_ ?_)
   | (with_reducible refine LeO.bind ?_ (fun _ => ?_))
   | exact ih0 _ _
   | exact ih1 _ _ _
   | exact slices_Contains_string_string.mono _ _ _
   | exact LeO.none _
   | refine LeO.ite ?_ ?_
   | refine LeO.bind ?_ (fun _ => ?_)
  ·intro y0 y1 y2
   unfold desc_Name.l0
   repeat' first
   | (with_reducible exact ih0 _ _)
   | (with_reducible exact ih1 _ _ _)
   | (with_reducible exact slices_Contains_string_string.mono _ _ _)
   | (with_reducible exact LeO.refl _)
   | (with_reducible exact LeO.none _)
   | (with_reducible refine LeO.ite ?_ ?_)
   | (with_reducible refine LeO.bind ?_ (fun _ => ?_))
   | exact ih0 _ _
   | exact ih1 _ _ _
   | exact slices_Contains_string_string.mono _ _ _
   | exact LeO.none _
   | refine LeO.ite ?_ ?_
   | refine LeO.bind ?_ (fun _ => ?_)
theorem desc_Name.mono : ∀ a0 k, LeO (desc_Name.f k a0) (desc_Name.f (k + 1) a0) := by
 intro a0 k
 obtain ⟨ih0, ih1⟩ := desc_Name.mono_l k
 unfold desc_Name.f
 repeat' first
   | (with_reducible exact ih0 _ _)
   | (with_reducible exact ih1 _ _ _)
   | (with_reducible exact slices_Contains_string_string.mono _ _ _)
   | (with_reducible exact LeO.refl _)
   | (with_reducible exact LeO.none _)
   | (with_reducible refine LeO.ite ?_ ?_)
   | (with_reducible refine LeO.bind ?_ (fun _ => ?_))
   | exact ih0 _ _
   | exact ih1 _ _ _
   | exact slices_Contains_string_string.mono _ _ _
   | exact LeO.none _
   | refine LeO.ite ?_ ?_
   | refine LeO.bind ?_ (fun _ => ?_)
set_option maxHeartbeats 8000000 in
set_option maxRecDepth 100000 in
theorem desc_Name.calls (k : Nat) (a0 : ByteArray) (r : Bool) (w : World) (h : desc_Name.f k a0 = some r) (hG : GL w) :
  Calls Tryd.prog 33 #[.string a0] w fun e w' => e = .returned (.bool r) ∧ Below w.heap.size w w' := by
 have HB := Aside0.mk (Below.refl w.heap.size w)
 have HG := Aside0.mk hG; clear hG; have H : (if (a0.size : Int) < 1 then (desc_Name.j0 k a0 true) else (if (a0.size : Int) > 16 then (desc_Name.j0 k a0 true) else (if 0 < (a0.size : Int) then (if (bt a0 0) < 97 then (desc_Name.j0 k a0 true) else (if (bt a0 0) > 122 then (desc_Name.j0 k a0 true) else ((desc_words.f).bind fun t107 => ((slices_Contains_string_string.f k t107 a0).bind fun t110 => (desc_Name.j0 k a0 t110))))) else (none)))) = some r := h
 clear h; have HC2 := Aside0.mk H; clear H; go_enter Tryd.func33, Tryd.ntmps33
 go_upto_region 1 with (fail)
 go_cut [27] (fun v27 wc => ∃ (kq : Nat) (x27_1 : Bool), v27 = .bool x27_1 ∧ Aside0 (desc_Name.j0 kq a0 x27_1 = some r) ∧ Aside0 (kq ≤ k) ∧ Aside0 (Below w.heap.size w wc))
 case first =>
  have H := HC2.out; clear HC2; by_cases c3 : (a0.size : Int) < 1
  ·rw [if_pos c3] at H
   have c3b0 : decide ((a0.size : Int) < 1) = true := decide_eq_true c3
   have c3b1 : decide (a0.size < 1) = true := decide_eq_true (by omega)
   clear c3
   (first | rw [c3b0] | (simp only [i64_w, i32_w]; rw [c3b0]) | skip)
   have H' := Aside0.mk H; clear H; go_wp2; go_meet
   case rel => exact ⟨_, (true), (by first | rfl | (simp; done) | (simp [*]; done)), H', ⟨by first | omega | exact Nat.le_refl _⟩, ⟨by repeat (first | (with_reducible first | exact HB.out | apply below_alloc | apply pw_below_drewN | apply below_drew1) | exact HB.out)⟩⟩
  ·rw [if_neg c3] at H
   have c3b0 : decide ((a0.size : Int) < 1) = false := decide_eq_false c3
   have c3b1 : decide (a0.size < 1) = false := decide_eq_false (by omega)
   clear c3
   (first | rw [c3b0] | (simp only [i64_w, i32_w]; rw [c3b0]) | skip)
   by_cases c4 : (a0.size : Int) > 16
   ·rw [if_pos c4] at H
    have c4b0 : decide (16 < (a0.size : Int)) = true := decide_eq_true c4
    have c4b1 : decide (16 < a0.size) = true := decide_eq_true (by omega)
    clear c4; have H' := Aside0.mk H; clear H; go_wp2; go_meet
    case rel => exact ⟨_, (true), (by first | rfl | (simp; done) | (simp [*]; done)), H', ⟨by first | omega | exact Nat.le_refl _⟩, ⟨by repeat (first | (with_reducible first | exact HB.out | apply below_alloc | apply pw_below_drewN | apply below_drew1) | exact HB.out)⟩⟩
   ·rw [if_neg c4] at H
    have c4b0 : decide (16 < (a0.size : Int)) = false := decide_eq_false c4
    have c4b1 : decide (16 < a0.size) = false := decide_eq_false (by omega)
    clear c4; by_cases c5 : 0 < (a0.size : Int)
    ·rw [if_pos c5] at H
     have c5b0 : decide (0 < (a0.size : Int)) = true := decide_eq_true c5
     have c5b1 : decide (0 < a0.size) = true := decide_eq_true (by omega)
     clear c5; by_cases c7 : (bt a0 0) < 97
     ·rw [if_pos c7] at H
      have c7b0 : decide ((bt a0 0) < 97) = true := decide_eq_true c7
      clear c7; have H' := Aside0.mk H; clear H; have p6 : 0 ≤ (0 : Int) := (by omega)
      have q6 : 0 < a0.size := (by have : (0 : Int) < (a0.size : Int) := of_decide_eq_true (by first | (with_reducible assumption) | assumption); omega)
      have hx6 : ∀ h : 0 < a0.size, ((a0[0]'h).toNat : Int) = bt a0 0 := bt_at a0 0
      clear p6; have qi6 : (0 < (a0.size : Int)) = True := eq_true (of_decide_eq_true (by first | (with_reducible assumption) | assumption))
      replace q6 := eq_true q6
      go_wp2; go_meet
      case rel => exact ⟨_, (true), (by first | rfl | (simp; done) | (simp [*]; done)), H', ⟨by first | omega | exact Nat.le_refl _⟩, ⟨by repeat (first | (with_reducible first | exact HB.out | apply below_alloc | apply pw_below_drewN | apply below_drew1) | exact HB.out)⟩⟩
     ·rw [if_neg c7] at H
      have c7b0 : decide ((bt a0 0) < 97) = false := decide_eq_false c7
      clear c7; by_cases c9 : (bt a0 0) > 122
      ·rw [if_pos c9] at H
       have c9b0 : decide (122 < (bt a0 0)) = true := decide_eq_true c9
       clear c9; have H' := Aside0.mk H; clear H; have p6 : 0 ≤ (0 : Int) := (by omega)
       have q6 : 0 < a0.size := (by have : (0 : Int) < (a0.size : Int) := of_decide_eq_true (by first | (with_reducible assumption) | assumption); omega)
       have hx6 : ∀ h : 0 < a0.size, ((a0[0]'h).toNat : Int) = bt a0 0 := bt_at a0 0
       clear p6; have qi6 : (0 < (a0.size : Int)) = True := eq_true (of_decide_eq_true (by first | (with_reducible assumption) | assumption))
       replace q6 := eq_true q6
       have p8 : 0 ≤ (0 : Int) := (by omega)
       have q8 : 0 < a0.size := (by have : (0 : Int) < (a0.size : Int) := of_decide_eq_true (by first | (with_reducible assumption) | assumption); omega)
       have hx8 : ∀ h : 0 < a0.size, ((a0[0]'h).toNat : Int) = bt a0 0 := bt_at a0 0
       clear p8; have qi8 : (0 < (a0.size : Int)) = True := eq_true (of_decide_eq_true (by first | (with_reducible assumption) | assumption))
       replace q8 := eq_true q8
       go_wp2; go_meet
       case rel => exact ⟨_, (true), (by first | rfl | (simp; done) | (simp [*]; done)), H', ⟨by first | omega | exact Nat.le_refl _⟩, ⟨by repeat (first | (with_reducible first | exact HB.out | apply below_alloc | apply pw_below_drewN | apply below_drew1) | exact HB.out)⟩⟩
      ·rw [if_neg c9] at H
       have c9b0 : decide (122 < (bt a0 0)) = false := decide_eq_false c9
       clear c9; replace H := Option.bind_eq_some_iff.mp H; obtain ⟨t107, A100, H⟩ := H
       replace H : ((slices_Contains_string_string.f k t107 a0).bind fun t110 => (desc_Name.j0 k a0 t110)) = some r := H
       have A10 := Aside0.mk A100; clear A100; replace H := Option.bind_eq_some_iff.mp H; obtain ⟨t110, A110, H⟩ := H
       replace H : (desc_Name.j0 k a0 t110) = some r := H
       have A11 := Aside0.mk A110; clear A110; have H' := Aside0.mk H; clear H; have p6 : 0 ≤ (0 : Int) := (by omega)
       have q6 : 0 < a0.size := (by have : (0 : Int) < (a0.size : Int) := of_decide_eq_true (by first | (with_reducible assumption) | assumption); omega)
       have hx6 : ∀ h : 0 < a0.size, ((a0[0]'h).toNat : Int) = bt a0 0 := bt_at a0 0
       clear p6; have qi6 : (0 < (a0.size : Int)) = True := eq_true (of_decide_eq_true (by first | (with_reducible assumption) | assumption))
       replace q6 := eq_true q6
       have p8 : 0 ≤ (0 : Int) := (by omega)
       have q8 : 0 < a0.size := (by have : (0 : Int) < (a0.size : Int) := of_decide_eq_true (by first | (with_reducible assumption) | assumption); omega)
       have hx8 : ∀ h : 0 < a0.size, ((a0[0]'h).toNat : Int) = bt a0 0 := bt_at a0 0
       clear p8; have qi8 : (0 < (a0.size : Int)) = True := eq_true (of_decide_eq_true (by first | (with_reducible assumption) | assumption))
       replace q8 := eq_true q8
       go_wp2_with (first | (go_at_call 71; (with_reducible refine (desc_words.calls  t107 _ A10.out ?side1).mono ?_); (case side1 => exact GL.of_below HG.out (by repeat (first | (with_reducible first | exact HB.out | apply below_alloc | apply pw_below_drewN | apply below_drew1) | exact HB.out))); rintro e w12 ⟨v108, rfl, ho0, hb⟩; have n0_ := Aside0.mk (Kd.R_lower ho0 (below_size (by repeat (first | (with_reducible first | exact HB.out | apply below_alloc | apply pw_below_drewN | apply below_drew1) | exact HB.out)))); have n1_ := Aside0.mk (below_step (by repeat (first | (with_reducible first | exact HB.out | apply below_alloc | apply pw_below_drewN | apply below_drew1) | exact HB.out)) hb); clear HB; have HO109 := n0_; have HB := n1_; clear n0_ n1_; (try clear hb); (try clear hb2); (try clear hk); (try clear hi); (try clear ho0); obtain ⟨Ao13, co13, eo13⟩ := Kd.R_slice HO109.out; subst eo13) | (go_at_call 70; (with_reducible refine (slices_Contains_string_string.calls k _ _ t107 a0 t110 _ ?side1 ?side2 A11.out).mono ?_); (case side1 => repeat (first | exact (Kd.R_reads' HO109.out).2.2 | (with_reducible refine Kd.C_alloc ?_ _) | (with_reducible refine Kd.C_drewN ?_ _) | (with_reducible refine Kd.C_drew ?_))); (case side2 => exact (Kd.R_reads' HO109.out).2.1); rintro e w' ⟨rfl, ⟨nd, rfl⟩⟩))
       go_meet
       case rel => exact ⟨_, (t110), (by first | rfl | (simp; done) | (simp [*]; done)), H', ⟨by first | omega | exact Nat.le_refl _⟩, ⟨by repeat (first | (with_reducible first | exact HB.out | apply below_alloc | apply pw_below_drewN | apply below_drew1) | exact HB.out)⟩⟩
    ·rw [if_neg c5] at H
     exact absurd H (by simp)
 case rest =>
  clear HC2; (try clear p2); (try clear c3); (try clear c3b0); (try clear c3b1); (try clear c4); (try clear c4b0); (try clear c4b1); (try clear c5); (try clear c5b0); (try clear c5b1); (try clear p6)
  (try clear q6); (try clear hx6); (try clear qi6); (try clear c7); (try clear c7b0); (try clear p8); (try clear q8); (try clear hx8); (try clear qi8); (try clear c9); (try clear c9b0); (try clear p6)
  (try clear p8); (try clear q6); (try clear q8); obtain ⟨kq, x27_1, rfl, HA, HJ1, HB⟩ := hcut
  cases kq with
  | zero => exact absurd HA.out (by simp [desc_Name.j0])
  | succ kj1 =>
   have H := HA.out; clear HA; simp only [desc_Name.j0] at H
   by_cases c14 : x27_1 = true
   ·subst c14
    have H1 : (some false) = some r := by rw [if_pos rfl] at H; exact H
    clear H; have H := H1; clear H1; obtain rfl := Option.some.inj H; go_wp2; go_ret; exact ⟨by first | rfl | (simp [errW_none, errW_some] <;> rfl) | (simp [*, errW_none, errW_some] <;> rfl), by repeat (first | (with_reducible first | exact HB.out | apply below_alloc | apply pw_below_drewN | apply below_drew1) | exact HB.out)⟩
   ·replace c14 := Bool.eq_false_iff.mpr c14
    subst c14; have H1 : (desc_Name.l0 kj1 a0 (a0.size : Int) 0) = some r := by rw [if_neg (show ¬ (false = true) by decide)] at H; exact H
    clear H; have H := H1; clear H1; have H' := Aside0.mk H; clear H; go_wp2; go_loopg [30] kj1 (fun kq v30 w' => ∃ (x30_2 : Int), v30 = .int .i64 x30_2 ∧ Aside0 (desc_Name.l0 kq a0 (a0.size : Int) x30_2 = some r) ∧ Aside0 (kq ≤ kj1) ∧ Aside0 (Below w.heap.size w w'))
    case atStart => exact ⟨(0), (by first | rfl | (simp; done) | (simp [*]; done)), H', ⟨Nat.le_refl _⟩, ⟨by repeat (first | (with_reducible first | exact HB.out | apply below_alloc | apply pw_below_drewN | apply below_drew1) | exact HB.out)⟩⟩
    case round =>
     clear H'; (try clear c1); (try clear p2); (try clear c3); (try clear c3b0); (try clear c3b1); (try clear c4); (try clear c4b0); (try clear c4b1); (try clear c5); (try clear c5b0); (try clear c5b1)
     (try clear p6); (try clear q6); (try clear hx6); (try clear qi6); (try clear c7); (try clear c7b0); (try clear p8); (try clear q8); (try clear hx8); (try clear qi8); (try clear c9); (try clear c9b0)
     (try clear c14); (try clear p2); (try clear p6); (try clear p8); (try clear q6); (try clear q8); obtain ⟨x30_2, rfl, HA, HK2, HB⟩ := hrel
     cases gk with
     | zero => exact absurd HA.out (by simp [desc_Name.l0])
     | succ k2 =>
      have H := HA.out; clear HA; simp only [desc_Name.l0] at H
      by_cases c15 : x30_2 < (a0.size : Int)
      ·rw [if_pos c15] at H
       have c15b0 : decide (x30_2 < (a0.size : Int)) = true := decide_eq_true c15
       clear c15; by_cases c16 : 0 ≤ x30_2
       ·rw [if_pos c16] at H
        have c16b0 : decide (0 ≤ x30_2) = true := decide_eq_true c16
        clear c16; by_cases c17 : x30_2 < (a0.size : Int)
        ·rw [if_pos c17] at H
         have c17b0 : decide (x30_2 < (a0.size : Int)) = true := decide_eq_true c17
         clear c17; by_cases c19 : (bt a0 x30_2) < 97
         ·rw [if_pos c19] at H
          have c19b0 : decide ((bt a0 x30_2) < 97) = true := decide_eq_true c19
          clear c19; by_cases c20 : (bt a0 x30_2) < 48
          ·rw [if_pos c20] at H
           have c20b0 : decide ((bt a0 x30_2) < 48) = true := decide_eq_true c20
           clear c20; by_cases c21 : (bt a0 x30_2) = 95
           ·rw [if_pos c21] at H
            have c21b0 : ((bt a0 x30_2) == 95) = true := beq_iff_eq.mpr c21
            have c21b1 : ((bt a0 x30_2) != 95) = false := bne_eq_false_iff_eq.mpr c21
            clear c21; have H' := Aside0.mk H; clear H; have p18 : 0 ≤ (x30_2 : Int) := of_decide_eq_true (by first | (with_reducible assumption) | assumption)
            have q18 : x30_2 < (a0.size : Int) := of_decide_eq_true (by first | (with_reducible assumption) | assumption)
            have hx18 := bt_at a0 x30_2
            replace p18 := eq_true p18
            replace q18 := eq_true q18
            go_wp2; go_roundg k2
            case measure => have := HJ1.out; have := HK2.out; omega
            case rel => exact ⟨(wrap64 (x30_2 + 1)), (by first | rfl | (simp; done) | (simp [*]; done)), H', ⟨by have := HJ1.out; have := HK2.out; omega⟩, ⟨by repeat (first | (with_reducible first | exact HB.out | apply below_alloc | apply pw_below_drewN | apply below_drew1) | exact HB.out)⟩⟩
           ·rw [if_neg c21] at H
            have c21b0 : ((bt a0 x30_2) == 95) = false := beq_eq_false_iff_ne.mpr c21
            have c21b1 : ((bt a0 x30_2) != 95) = true := bne_iff_ne.mpr c21
            obtain rfl := Option.some.inj H; have p18 : 0 ≤ (x30_2 : Int) := of_decide_eq_true (by first | (with_reducible assumption) | assumption)
            have q18 : x30_2 < (a0.size : Int) := of_decide_eq_true (by first | (with_reducible assumption) | assumption)
            have hx18 := bt_at a0 x30_2
            replace p18 := eq_true p18
            replace q18 := eq_true q18
            go_wp2; go_ret; exact ⟨by first | rfl | (simp [errW_none, errW_some] <;> rfl) | (simp [*, errW_none, errW_some] <;> rfl), by repeat (first | (with_reducible first | exact HB.out | apply below_alloc | apply pw_below_drewN | apply below_drew1) | exact HB.out)⟩
          ·rw [if_neg c20] at H
           have c20b0 : decide ((bt a0 x30_2) < 48) = false := decide_eq_false c20
           clear c20; by_cases c22 : (bt a0 x30_2) > 57
           ·rw [if_pos c22] at H
            have c22b0 : decide (57 < (bt a0 x30_2)) = true := decide_eq_true c22
            clear c22; by_cases c23 : (bt a0 x30_2) = 95
            ·rw [if_pos c23] at H
             have c23b0 : ((bt a0 x30_2) == 95) = true := beq_iff_eq.mpr c23
             have c23b1 : ((bt a0 x30_2) != 95) = false := bne_eq_false_iff_eq.mpr c23
             clear c23; have H' := Aside0.mk H; clear H; have p18 : 0 ≤ (x30_2 : Int) := of_decide_eq_true (by first | (with_reducible assumption) | assumption)
             have q18 : x30_2 < (a0.size : Int) := of_decide_eq_true (by first | (with_reducible assumption) | assumption)
             have hx18 := bt_at a0 x30_2
             replace p18 := eq_true p18
             replace q18 := eq_true q18
             go_wp2; go_roundg k2
             case measure => have := HJ1.out; have := HK2.out; omega
             case rel => exact ⟨(wrap64 (x30_2 + 1)), (by first | rfl | (simp; done) | (simp [*]; done)), H', ⟨by have := HJ1.out; have := HK2.out; omega⟩, ⟨by repeat (first | (with_reducible first | exact HB.out | apply below_alloc | apply pw_below_drewN | apply below_drew1) | exact HB.out)⟩⟩
            ·rw [if_neg c23] at H
             have c23b0 : ((bt a0 x30_2) == 95) = false := beq_eq_false_iff_ne.mpr c23
             have c23b1 : ((bt a0 x30_2) != 95) = true := bne_iff_ne.mpr c23
             obtain rfl := Option.some.inj H; have p18 : 0 ≤ (x30_2 : Int) := of_decide_eq_true (by first | (with_reducible assumption) | assumption)
             have q18 : x30_2 < (a0.size : Int) := of_decide_eq_true (by first | (with_reducible assumption) | assumption)
             have hx18 := bt_at a0 x30_2
             replace p18 := eq_true p18
             replace q18 := eq_true q18
             go_wp2; go_ret; exact ⟨by first | rfl | (simp [errW_none, errW_some] <;> rfl) | (simp [*, errW_none, errW_some] <;> rfl), by repeat (first | (with_reducible first | exact HB.out | apply below_alloc | apply pw_below_drewN | apply below_drew1) | exact HB.out)⟩
           ·rw [if_neg c22] at H
            have c22b0 : decide (57 < (bt a0 x30_2)) = false := decide_eq_false c22
            clear c22; have H' := Aside0.mk H; clear H; have p18 : 0 ≤ (x30_2 : Int) := of_decide_eq_true (by first | (with_reducible assumption) | assumption)
            have q18 : x30_2 < (a0.size : Int) := of_decide_eq_true (by first | (with_reducible assumption) | assumption)
            have hx18 := bt_at a0 x30_2
            replace p18 := eq_true p18
            replace q18 := eq_true q18
            go_wp2; go_roundg k2
            case measure => have := HJ1.out; have := HK2.out; omega
            case rel => exact ⟨(wrap64 (x30_2 + 1)), (by first | rfl | (simp; done) | (simp [*]; done)), H', ⟨by have := HJ1.out; have := HK2.out; omega⟩, ⟨by repeat (first | (with_reducible first | exact HB.out | apply below_alloc | apply pw_below_drewN | apply below_drew1) | exact HB.out)⟩⟩
         ·rw [if_neg c19] at H
          have c19b0 : decide ((bt a0 x30_2) < 97) = false := decide_eq_false c19
          clear c19; by_cases c24 : (bt a0 x30_2) > 122
          ·rw [if_pos c24] at H
           have c24b0 : decide (122 < (bt a0 x30_2)) = true := decide_eq_true c24
           clear c24; by_cases c25 : (bt a0 x30_2) < 48
           ·rw [if_pos c25] at H
            have c25b0 : decide ((bt a0 x30_2) < 48) = true := decide_eq_true c25
            clear c25; by_cases c26 : (bt a0 x30_2) = 95
            ·rw [if_pos c26] at H
             have c26b0 : ((bt a0 x30_2) == 95) = true := beq_iff_eq.mpr c26
             have c26b1 : ((bt a0 x30_2) != 95) = false := bne_eq_false_iff_eq.mpr c26
             clear c26; have H' := Aside0.mk H; clear H; have p18 : 0 ≤ (x30_2 : Int) := of_decide_eq_true (by first | (with_reducible assumption) | assumption)
             have q18 : x30_2 < (a0.size : Int) := of_decide_eq_true (by first | (with_reducible assumption) | assumption)
             have hx18 := bt_at a0 x30_2
             replace p18 := eq_true p18
             replace q18 := eq_true q18
             go_wp2; go_roundg k2
             case measure => have := HJ1.out; have := HK2.out; omega
             case rel => exact ⟨(wrap64 (x30_2 + 1)), (by first | rfl | (simp; done) | (simp [*]; done)), H', ⟨by have := HJ1.out; have := HK2.out; omega⟩, ⟨by repeat (first | (with_reducible first | exact HB.out | apply below_alloc | apply pw_below_drewN | apply below_drew1) | exact HB.out)⟩⟩
            ·rw [if_neg c26] at H
             have c26b0 : ((bt a0 x30_2) == 95) = false := beq_eq_false_iff_ne.mpr c26
             have c26b1 : ((bt a0 x30_2) != 95) = true := bne_iff_ne.mpr c26
             obtain rfl := Option.some.inj H; have p18 : 0 ≤ (x30_2 : Int) := of_decide_eq_true (by first | (with_reducible assumption) | assumption)
             have q18 : x30_2 < (a0.size : Int) := of_decide_eq_true (by first | (with_reducible assumption) | assumption)
             have hx18 := bt_at a0 x30_2
             replace p18 := eq_true p18
             replace q18 := eq_true q18
             go_wp2; go_ret; exact ⟨by first | rfl | (simp [errW_none, errW_some] <;> rfl) | (simp [*, errW_none, errW_some] <;> rfl), by repeat (first | (with_reducible first | exact HB.out | apply below_alloc | apply pw_below_drewN | apply below_drew1) | exact HB.out)⟩
           ·rw [if_neg c25] at H
            have c25b0 : decide ((bt a0 x30_2) < 48) = false := decide_eq_false c25
            clear c25; by_cases c27 : (bt a0 x30_2) > 57
            ·rw [if_pos c27] at H
             have c27b0 : decide (57 < (bt a0 x30_2)) = true := decide_eq_true c27
             clear c27; by_cases c28 : (bt a0 x30_2) = 95
             ·rw [if_pos c28] at H
              have c28b0 : ((bt a0 x30_2) == 95) = true := beq_iff_eq.mpr c28
              have c28b1 : ((bt a0 x30_2) != 95) = false := bne_eq_false_iff_eq.mpr c28
              clear c28; have H' := Aside0.mk H; clear H; have p18 : 0 ≤ (x30_2 : Int) := of_decide_eq_true (by first | (with_reducible assumption) | assumption)
              have q18 : x30_2 < (a0.size : Int) := of_decide_eq_true (by first | (with_reducible assumption) | assumption)
              have hx18 := bt_at a0 x30_2
              replace p18 := eq_true p18
              replace q18 := eq_true q18
              go_wp2; go_roundg k2
              case measure => have := HJ1.out; have := HK2.out; omega
              case rel => exact ⟨(wrap64 (x30_2 + 1)), (by first | rfl | (simp; done) | (simp [*]; done)), H', ⟨by have := HJ1.out; have := HK2.out; omega⟩, ⟨by repeat (first | (with_reducible first | exact HB.out | apply below_alloc | apply pw_below_drewN | apply below_drew1) | exact HB.out)⟩⟩
             ·rw [if_neg c28] at H
              have c28b0 : ((bt a0 x30_2) == 95) = false := beq_eq_false_iff_ne.mpr c28
              have c28b1 : ((bt a0 x30_2) != 95) = true := bne_iff_ne.mpr c28
              obtain rfl := Option.some.inj H; have p18 : 0 ≤ (x30_2 : Int) := of_decide_eq_true (by first | (with_reducible assumption) | assumption)
              have q18 : x30_2 < (a0.size : Int) := of_decide_eq_true (by first | (with_reducible assumption) | assumption)
              have hx18 := bt_at a0 x30_2
              replace p18 := eq_true p18
              replace q18 := eq_true q18
              go_wp2; go_ret; exact ⟨by first | rfl | (simp [errW_none, errW_some] <;> rfl) | (simp [*, errW_none, errW_some] <;> rfl), by repeat (first | (with_reducible first | exact HB.out | apply below_alloc | apply pw_below_drewN | apply below_drew1) | exact HB.out)⟩
            ·rw [if_neg c27] at H
             have c27b0 : decide (57 < (bt a0 x30_2)) = false := decide_eq_false c27
             clear c27; have H' := Aside0.mk H; clear H; have p18 : 0 ≤ (x30_2 : Int) := of_decide_eq_true (by first | (with_reducible assumption) | assumption)
             have q18 : x30_2 < (a0.size : Int) := of_decide_eq_true (by first | (with_reducible assumption) | assumption)
             have hx18 := bt_at a0 x30_2
             replace p18 := eq_true p18
             replace q18 := eq_true q18
             go_wp2; go_roundg k2
             case measure => have := HJ1.out; have := HK2.out; omega
             case rel => exact ⟨(wrap64 (x30_2 + 1)), (by first | rfl | (simp; done) | (simp [*]; done)), H', ⟨by have := HJ1.out; have := HK2.out; omega⟩, ⟨by repeat (first | (with_reducible first | exact HB.out | apply below_alloc | apply pw_below_drewN | apply below_drew1) | exact HB.out)⟩⟩
          ·rw [if_neg c24] at H
           have c24b0 : decide (122 < (bt a0 x30_2)) = false := decide_eq_false c24
           clear c24; have H' := Aside0.mk H; clear H; have p18 : 0 ≤ (x30_2 : Int) := of_decide_eq_true (by first | (with_reducible assumption) | assumption)
           have q18 : x30_2 < (a0.size : Int) := of_decide_eq_true (by first | (with_reducible assumption) | assumption)
           have hx18 := bt_at a0 x30_2
           replace p18 := eq_true p18
           replace q18 := eq_true q18
           go_wp2; go_roundg k2
           case measure => have := HJ1.out; have := HK2.out; omega
           case rel => exact ⟨(wrap64 (x30_2 + 1)), (by first | rfl | (simp; done) | (simp [*]; done)), H', ⟨by have := HJ1.out; have := HK2.out; omega⟩, ⟨by repeat (first | (with_reducible first | exact HB.out | apply below_alloc | apply pw_below_drewN | apply below_drew1) | exact HB.out)⟩⟩
        ·rw [if_neg c17] at H
         exact absurd H (by simp)
       ·rw [if_neg c16] at H
        exact absurd H (by simp)
      ·rw [if_neg c15] at H
       have c15b0 : decide (x30_2 < (a0.size : Int)) = false := decide_eq_false c15
       clear c15; obtain rfl := Option.some.inj H; go_wp2; go_ret; exact ⟨by first | rfl | (simp [errW_none, errW_some] <;> rfl) | (simp [*, errW_none, errW_some] <;> rfl), by repeat (first | (with_reducible first | exact HB.out | apply below_alloc | apply pw_below_drewN | apply below_drew1) | exact HB.out)⟩
end Go.Proofs.YtjgomlcdmpcoaaaDoor.D
namespace Go.Proofs.YtjgomlcdmpcoaaaDoor.D
open Go.RowKit Go.Proofs.YtjgomlcdmpcoaaaDoorW.PrintWords Go.Proofs.YtjgomlcdmpcoaaaDoorW.PrintLast Go.Proofs.YtjgomlcdmpcoaaaDoorW.PrintMore
attribute [local go_sem] max2_int min2_int max_two min_two max_three min_three max_four min_four
set_option linter.unusedVariables false
set_option linter.unusedSimpArgs false
def slices_Index_int_int.l0 : Nat → List Int → Int → Int → Int → Option (Int)
 | 0, _, _, _, _ => none
 | k + 1, x0, x1, x7, x8 => if x8 < x7 then (if 0 ≤ x8 then (if x8 < (x0.length : Int) then (if x1 = (rd x0 x8) then (some x8) else (slices_Index_int_int.l0 k x0 x1 x7 (wrap64 (x8 + 1)))) else (none)) else (none)) else (some (-1))
def slices_Index_int_int.f (k : Nat) (l0 : List Int) (a1 : Int) : Option (Int) := slices_Index_int_int.l0 k l0 a1 (l0.length : Int) 0
theorem slices_Index_int_int.mono_l : ∀ k, (∀ y0 y1 y2 y3, LeO (slices_Index_int_int.l0 k y0 y1 y2 y3) (slices_Index_int_int.l0 (k + 1) y0 y1 y2 y3))
 | 0 => fun _ _ _ _ r h => by simp [slices_Index_int_int.l0] at h
 | k + 1 => by
  have ih0 := slices_Index_int_int.mono_l k
  ·intro y0 y1 y2 y3
   unfold slices_Index_int_int.l0
   repeat' first
   | (with_reducible exact ih0 _ _ _ _)
   | (with_reducible exact LeO.refl _)
   | (with_reducible exact LeO.none _)
   | (with_reducible refine LeO.ite ?_ ?_)
   | (with_reducible refine LeO.bind ?_ (fun _ => ?_))
   | exact ih0 _ _ _ _
   | exact LeO.none _
   | refine LeO.ite ?_ ?_
   | refine LeO.bind ?_ (fun _ => ?_)
theorem slices_Index_int_int.mono : ∀ a0 a1 k, LeO (slices_Index_int_int.f k a0 a1) (slices_Index_int_int.f (k + 1) a0 a1) := by
 intro a0 a1 k
 have ih0 := slices_Index_int_int.mono_l k
 unfold slices_Index_int_int.f
 repeat' first
   | (with_reducible exact ih0 _ _ _ _)
   | (with_reducible exact LeO.refl _)
   | (with_reducible exact LeO.none _)
   | (with_reducible refine LeO.ite ?_ ?_)
   | (with_reducible refine LeO.bind ?_ (fun _ => ?_))
   | exact ih0 _ _ _ _
   | exact LeO.none _
   | refine LeO.ite ?_ ?_
   | refine LeO.bind ?_ (fun _ => ?_)
set_option maxHeartbeats 8000000 in
set_option maxRecDepth 100000 in
theorem slices_Index_int_int.calls (k : Nat) (A0 : Option Addr) (c0 : Nat) (l0 : List Int) (a1 : Int) (r : Int) (w : World) (hr0 : Kd.C (Kd.int .i64) w A0 l0.length l0) (hc0 : l0.length ≤ c0) (h : slices_Index_int_int.f k l0 a1 = some r) :
  Calls Tryd.prog 178 #[.slice A0 l0.length c0, .int .i64 a1] w fun e w' => e = .returned (.int .i64 r) ∧ Drawn0 w w' := by
 have HR0 := Aside0.mk hr0; have HC0 := Aside0.mk hc0; clear hr0 hc0; have H : (slices_Index_int_int.l0 k l0 a1 (l0.length : Int) 0) = some r := h
 clear h; have H' := Aside0.mk H; clear H; go_enter Tryd.func178, Tryd.ntmps178
 go_wp2; go_loopg [8] k (fun kq v8 w' => ∃ (x8_1 : Int), v8 = .int .i64 x8_1 ∧ Aside0 (slices_Index_int_int.l0 kq l0 a1 (l0.length : Int) x8_1 = some r) ∧ Aside0 (kq ≤ k) ∧ Drawn0 w w')
 case atStart => exact ⟨(0), (by first | rfl | (simp; done) | (simp [*]; done)), H', ⟨Nat.le_refl _⟩, by repeat (first | exact Drawn0.refl _ | apply Drawn0.step)⟩
 case round =>
  clear H'; (try clear c1); (try clear p2); obtain ⟨x8_1, rfl, HA, HK1, ⟨m1, rfl⟩⟩ := hrel
  cases gk with
  | zero => exact absurd HA.out (by simp [slices_Index_int_int.l0])
  | succ k1 =>
   have H := HA.out; clear HA; simp only [slices_Index_int_int.l0] at H
   by_cases c3 : x8_1 < (l0.length : Int)
   ·rw [if_pos c3] at H
    have c3b0 : decide (x8_1 < (l0.length : Int)) = true := decide_eq_true c3
    clear c3; by_cases c4 : 0 ≤ x8_1
    ·rw [if_pos c4] at H
     have c4b0 : decide (0 ≤ x8_1) = true := decide_eq_true c4
     clear c4; by_cases c5 : x8_1 < (l0.length : Int)
     ·rw [if_pos c5] at H
      have c5b0 : decide (x8_1 < (l0.length : Int)) = true := decide_eq_true c5
      clear c5; by_cases c6 : a1 = (rd l0 x8_1)
      ·rw [if_pos c6] at H
       have c6b0 : (a1 == (rd l0 x8_1)) = true := beq_iff_eq.mpr c6
       have c6b1 : (a1 != (rd l0 x8_1)) = false := bne_eq_false_iff_eq.mpr c6
       clear c6; obtain rfl := Option.some.inj H; have p116 : 0 ≤ (x8_1 : Int) := of_decide_eq_true (by first | (with_reducible assumption) | assumption)
       have q116 : x8_1 < (l0.length : Int) := of_decide_eq_true (by first | (with_reducible assumption) | assumption)
       obtain ⟨ad116, e116, hx116_0⟩ := Kd.at_int HR0.out x8_1 p116 q116
       cases e116
       replace p116 := eq_true p116
       replace q116 := eq_true q116
       go_wp2; go_ret; exact ⟨by first | rfl | (simp; done) | (simp [*]; done), by repeat (first | exact Drawn0.refl _ | apply Drawn0.step)⟩
      ·rw [if_neg c6] at H
       have c6b0 : (a1 == (rd l0 x8_1)) = false := beq_eq_false_iff_ne.mpr c6
       have c6b1 : (a1 != (rd l0 x8_1)) = true := bne_iff_ne.mpr c6
       have H' := Aside0.mk H; clear H; have p116 : 0 ≤ (x8_1 : Int) := of_decide_eq_true (by first | (with_reducible assumption) | assumption)
       have q116 : x8_1 < (l0.length : Int) := of_decide_eq_true (by first | (with_reducible assumption) | assumption)
       obtain ⟨ad116, e116, hx116_0⟩ := Kd.at_int HR0.out x8_1 p116 q116
       cases e116
       replace p116 := eq_true p116
       replace q116 := eq_true q116
       go_wp2; go_roundg k1
       case measure => have := HK1.out; omega
       case rel => exact ⟨(wrap64 (x8_1 + 1)), (by first | rfl | (simp; done) | (simp [*]; done)), H', ⟨by have := HK1.out; omega⟩, by repeat (first | exact Drawn0.refl _ | apply Drawn0.step)⟩
     ·rw [if_neg c5] at H
      exact absurd H (by simp)
    ·rw [if_neg c4] at H
     exact absurd H (by simp)
   ·rw [if_neg c3] at H
    have c3b0 : decide (x8_1 < (l0.length : Int)) = false := decide_eq_false c3
    clear c3; obtain rfl := Option.some.inj H; go_wp2; go_ret; exact ⟨by first | rfl | (simp; done) | (simp [*]; done), by repeat (first | exact Drawn0.refl _ | apply Drawn0.step)⟩
end Go.Proofs.YtjgomlcdmpcoaaaDoor.D
namespace Go.Proofs.YtjgomlcdmpcoaaaDoor.D
open Go.RowKit Go.Proofs.YtjgomlcdmpcoaaaDoorW.PrintWords Go.Proofs.YtjgomlcdmpcoaaaDoorW.PrintLast Go.Proofs.YtjgomlcdmpcoaaaDoorW.PrintMore
attribute [local go_sem] max2_int min2_int max_two min_two max_three min_three max_four min_four
set_option linter.unusedVariables false
set_option linter.unusedSimpArgs false
def slices_Contains_int_int.f (k : Nat) (l0 : List Int) (a1 : Int) : Option (Bool) := (slices_Index_int_int.f k l0 a1).bind fun t117 => (some (decide (t117 ≥ 0)))
theorem slices_Contains_int_int.mono : ∀ a0 a1 k, LeO (slices_Contains_int_int.f k a0 a1) (slices_Contains_int_int.f (k + 1) a0 a1) := by
 intro a0 a1 k
 unfold slices_Contains_int_int.f
 repeat' first
   | (with_reducible exact slices_Index_int_int.mono _ _ _)
   | (with_reducible exact LeO.refl _)
   | (with_reducible exact LeO.none _)
   | (with_reducible refine LeO.ite ?_ ?_)
   | (with_reducible refine LeO.bind ?_ (fun _ => ?_))
   | exact slices_Index_int_int.mono _ _ _
   | exact LeO.none _
   | refine LeO.ite ?_ ?_
   | refine LeO.bind ?_ (fun _ => ?_)
set_option maxHeartbeats 8000000 in
set_option maxRecDepth 100000 in
theorem slices_Contains_int_int.calls (k : Nat) (A0 : Option Addr) (c0 : Nat) (l0 : List Int) (a1 : Int) (r : Bool) (w : World) (hr0 : Kd.C (Kd.int .i64) w A0 l0.length l0) (hc0 : l0.length ≤ c0) (h : slices_Contains_int_int.f k l0 a1 = some r) :
  Calls Tryd.prog 163 #[.slice A0 l0.length c0, .int .i64 a1] w fun e w' => e = .returned (.bool r) ∧ Drawn0 w w' := by
 have HR0 := Aside0.mk hr0; have HC0 := Aside0.mk hc0; clear hr0 hc0; have H : ((slices_Index_int_int.f k l0 a1).bind fun t117 => (some (decide (t117 ≥ 0)))) = some r := h
 clear h; replace H := Option.bind_eq_some_iff.mp H; obtain ⟨t117, A30, H⟩ := H
 replace H : (some (decide (t117 ≥ 0))) = some r := H
 have A3 := Aside0.mk A30; clear A30; obtain rfl := Option.some.inj H; go_enter Tryd.func163, Tryd.ntmps163
 go_wp2_with (first | ((with_reducible refine gate_callee (f := 178) rfl ?_); refine goesL_ (some 7) rfl rfl Tryd.func178 (by kernel_rfl) rfl #[.slice A0 l0.length c0, .int .i64 a1] rfl (by (try simp only [List.map_toArray, List.map_cons, List.map_nil]); first | done | rfl | (simp only [List.length_drop, List.length_take]; rfl)) ?_; (with_reducible refine (slices_Index_int_int.calls k _ _ l0 a1 t117 _ ?side1 ?side2 A3.out).mono ?_); (case side1 => repeat (first | exact HR0.out | (with_reducible refine Kd.C_alloc ?_ _) | (with_reducible refine Kd.C_drewN ?_ _) | (with_reducible refine Kd.C_drew ?_))); (case side2 => exact HC0.out); rintro e w' ⟨rfl, ⟨nd, rfl⟩⟩; refine ⟨_, rfl, ?_⟩))
 go_ret; exact ⟨by first | rfl | (simp; done) | (simp [*]; done), by repeat (first | exact Drawn0.refl _ | apply Drawn0.step)⟩
end Go.Proofs.YtjgomlcdmpcoaaaDoor.D
namespace Go.Proofs.YtjgomlcdmpcoaaaDoor.H
open Go.RowKit Go.Proofs.YtjgomlcdmpcoaaaDoorW.PrintWords Go.Proofs.YtjgomlcdmpcoaaaDoorW.PrintLast Go.Proofs.YtjgomlcdmpcoaaaDoorW.PrintMore
open Go.Proofs.YtjgomlcdmpcoaaaDoor.D Go.Proofs.YtjgomlcdmpcoaaaDoor
set_option linter.unusedVariables false
def stateB (n : Int) : Bool := decide (0 ≤ n) && decide (n ≤ 4)
set_option maxHeartbeats 1000000 in
theorem state_calls (n : Int) (w : World) : Calls Tryd.prog 162 #[.int .i64 n] w fun e w' => e = .returned (.bool (stateB n)) ∧ w = w' := by
  by_cases h1 : 0 ≤ n
  · by_cases h2 : n ≤ 4
    · have b1 := decide_eq_true h1
      have b2 := decide_eq_true h2
      have hs : stateB n = true := by unfold stateB; rw [b1, b2]; rfl
      have HS := Lib.hid hs
      clear h1 h2 hs
      go_enter Tryd.func162, Tryd.ntmps162
      go_wp2
      go_ret
      exact ⟨by rw [HS.out]; rfl, rfl⟩
    · have b1 := decide_eq_true h1
      have b2 := decide_eq_false h2
      have hs : stateB n = false := by unfold stateB; rw [b1, b2]; rfl
      have HS := Lib.hid hs
      clear h1 h2 hs
      go_enter Tryd.func162, Tryd.ntmps162
      go_wp2
      go_ret
      exact ⟨by rw [HS.out]; rfl, rfl⟩
  · have b1 := decide_eq_false h1
    have hs : stateB n = false := by unfold stateB; rw [b1]; rfl
    have HS := Lib.hid hs
    clear h1 hs
    go_enter Tryd.func162, Tryd.ntmps162
    go_wp2
    go_ret
    exact ⟨by rw [HS.out]; rfl, rfl⟩
theorem wrap_small {i : Int} (h0 : -9223372036854775808 ≤ i) (h1 : i < 9223372036854775808) : wrap64 i = i := by unfold wrap64; omega
theorem index_int (l : List Int) (a : Int) (hl : l.length ≤ 9223372036854775807) : ∀ (m k i : Nat), i + m = l.length → m < k →
    ∃ j, slices_Index_int_int.l0 k l a (l.length : Int) (i : Int) = some j ∧ decide (j ≥ 0) = (l.drop i).contains a
  | 0, k + 1, i, h, _ => by
    obtain rfl : i = l.length := by omega
    refine ⟨-1, ?_, ?_⟩
    · unfold slices_Index_int_int.l0
      rw [if_neg (by omega)]
    · simp
  | m + 1, k + 1, i, h, hk => by
    obtain ⟨j, hj, ha⟩ := index_int l a hl m k (i + 1) (by omega) (by omega)
    have hi : i < l.length := by omega
    have hd : l.drop i = l[i] :: l.drop (i + 1) := List.drop_eq_getElem_cons hi
    have hr : rd l (i : Int) = l[i] := by simp [rd, List.getD, hi]
    unfold slices_Index_int_int.l0
    rw [if_pos (by omega), if_pos (by omega), if_pos (by omega), hr, hd]
    by_cases hs : a = l[i]
    · rw [if_pos hs]
      exact ⟨_, rfl, by rw [List.contains_cons, beq_iff_eq.mpr hs, Bool.true_or]; exact decide_eq_true (by omega)⟩
    · rw [if_neg hs, wrap_small (by omega) (by omega)]
      refine ⟨j, by simpa using hj, ?_⟩
      rw [ha, List.contains_cons, beq_eq_false_iff_ne.mpr hs, Bool.false_or]
theorem contains_calls (A : Option Addr) (c n : Nat) (l : List Int) (a : Int) (hn : l.length = n) (w : World) (h : (Kd.int .i64).C w A l.length l) (hc : n ≤ c) :
    Calls Tryd.prog 163 #[.slice A n c, .int .i64 a] w fun e w' => e = .returned (.bool (l.contains a)) ∧ Drawn0 w w' := by
  subst hn
  obtain ⟨j, hj, ha⟩ := index_int l a h.2.1 l.length (l.length + 1) 0 (by omega) (by omega)
  refine slices_Contains_int_int.calls (l.length + 1) A c l a _ w h hc ?_
  unfold slices_Contains_int_int.f slices_Index_int_int.f
  have hj' : slices_Index_int_int.l0 (l.length + 1) l a (l.length : Int) 0 = some j := hj
  rw [hj', Option.bind_some, ha, List.drop_zero]
theorem enters_any {f : FuncId} {fn : Func} {c : Code} (hf : Tryd.prog.funcs[f]? = some fn) (hname : (fn.name == "runtime.NumGoroutine") = false) (hb : fn.body = some c) : ∀ (args : Array Value) (w : World), (callFunc f args).run Tryd.prog w = .ok (.enter f args) w := fun args w => enters hf hname hb args w
def colsB (cols : List S75) : List Int → List Int → Bool
  | _, [] => true
  | pre, id :: r => !(pre.contains id) && (cols.any (fun c => c.f0 == id) && colsB cols (pre ++ [id]) r)
theorem bcell {W w1 : World} (hb : Below W.heap.size W w1) : (∀ b o, b < W.heap.size → w1.cell? ⟨b, o, none⟩ = W.cell? ⟨b, o, none⟩) ∧ (∀ b o, b < W.heap.size → w1.frozen? ⟨b, o, none⟩ = W.frozen? ⟨b, o, none⟩) :=
  ⟨fun b o h => hb.cell (p := ⟨b, o, none⟩) h, fun b o h => hb.frozen (p := ⟨b, o, none⟩) h⟩
def lowC (c : UInt8) : Bool := decide (97 ≤ c.toNat) && decide (c.toNat ≤ 122)
def namC (c : UInt8) : Bool := lowC c || ((decide (48 ≤ c.toNat) && decide (c.toNat ≤ 57)) || c.toNat == 95)
def isWord (s : ByteArray) : Bool := wordsL.any fun w => s.toList == w.toList
def nameB (s : ByteArray) : Bool := match s.data.toList with
  | [] => false
  | c :: l => decide (s.size ≤ 16) && (lowC c && (!isWord s && (c :: l).all namC))
def NameCalls : Prop := ∀ (s : ByteArray) (w : World), GL w → Calls Tryd.prog 33 #[.string s] w fun e w' => e = .returned (.bool (nameB s)) ∧ Below w.heap.size w w'
def indexB (t : S70) (x : S98) : Bool := nameB x.f1 && (decide (1 ≤ x.f2.length) && (decide (x.f2.length ≤ 8) && (stateB x.f4 && colsB t.f2 [] x.f2)))
theorem below_dN {B : Nat} {w W : World} (h : Below B w W) (n : Nat) : Below B w (W.drewN n) := h.trans ⟨rfl, rfl, rfl, Nat.le_refl _, fun _ _ => rfl⟩
theorem keepA {w wr : World} {v2 v3 x : Value} (hb : Below w.heap.size w wr) (hz : w.heap.size + 2 ≤ wr.heap.size) (h2 : wr.cell? ⟨w.heap.size, 2, none⟩ = some v2) (h3 : wr.cell? ⟨w.heap.size + 1, 2, none⟩ = some v3) {ty : TypeId} :
    let W := (wr.alloc (Obj.cells #[x] ty)).drew
    Below w.heap.size w W ∧ wr.heap.size < W.heap.size ∧ W.cell? ⟨w.heap.size, 2, none⟩ = some v2 ∧ W.cell? ⟨w.heap.size + 1, 2, none⟩ = some v3 ∧ W.cell? ⟨wr.heap.size, 0, none⟩ = some x := by
  intro W
  have hbW : Below wr.heap.size wr W := below_drew (below_alloc (Below.refl _ _) _)
  refine ⟨below_drew (below_alloc hb _), ?_, ?_, ?_, ?_⟩
  · show wr.heap.size < (wr.alloc (Obj.cells #[x] ty)).heap.size
    simp
  · rw [hbW.cell (p := ⟨w.heap.size, 2, none⟩) (by show w.heap.size < wr.heap.size; omega)]; exact h2
  · rw [hbW.cell (p := ⟨w.heap.size + 1, 2, none⟩) (by show w.heap.size + 1 < wr.heap.size; omega)]; exact h3
  · show (wr.alloc (Obj.cells #[x] ty)).cell? ⟨wr.heap.size, 0, none⟩ = some x
    simp
theorem keepB {w wr W W' : World} {v2 v3 x : Value} (hz : w.heap.size + 2 ≤ wr.heap.size) (hb : Below w.heap.size w W) (hl : wr.heap.size < W.heap.size) (h2 : W.cell? ⟨w.heap.size, 2, none⟩ = some v2) (h3 : W.cell? ⟨w.heap.size + 1, 2, none⟩ = some v3)
    (h4 : W.cell? ⟨wr.heap.size, 0, none⟩ = some x) (hn : Below W.heap.size W W') :
    Below w.heap.size w W' ∧ wr.heap.size < W'.heap.size ∧ W'.cell? ⟨w.heap.size, 2, none⟩ = some v2 ∧ W'.cell? ⟨w.heap.size + 1, 2, none⟩ = some v3 ∧ W'.cell? ⟨wr.heap.size, 0, none⟩ = some x := by
  have hs := hn.size
  refine ⟨below_then hb hb.size hn, by omega, ?_, ?_, ?_⟩
  · rw [hn.cell (p := ⟨w.heap.size, 2, none⟩) (by show w.heap.size < W.heap.size; omega)]; exact h2
  · rw [hn.cell (p := ⟨w.heap.size + 1, 2, none⟩) (by show w.heap.size + 1 < W.heap.size; omega)]; exact h3
  · rw [hn.cell (p := ⟨wr.heap.size, 0, none⟩) (by show wr.heap.size < W.heap.size; omega)]; exact h4
set_option maxHeartbeats 4000000 in
set_option maxRecDepth 100000 in
theorem index_calls (hN : NameCalls) (t : S70) (x : S98) (A2 : Option Addr) (c2 : Nat) (A3 : Option Addr) (c3 : Nat) (B2 : Option Addr) (d2 : Nat) (w : World) (hG : GL w)
    (hc2 : t.f2.length ≤ c2) (g2 : k75.C w A2 t.f2.length t.f2) (hd2 : x.f2.length ≤ d2) (h2 : (Kd.int .i64).C w B2 x.f2.length x.f2) :
    Calls Tryd.prog 125 #[.agg #[.int .i64 t.f0, .string t.f1, .slice A2 t.f2.length c2, .slice A3 t.f3.length c3, .int .i64 t.f4], .agg #[.int .i64 x.f0, .string x.f1, .slice B2 x.f2.length d2, .bool x.f3, .int .i64 x.f4]] w
      fun e w' => e = .returned (.bool (indexB t x)) ∧ Below w.heap.size w w' := by
  have HN := Lib.hid hN
  have HG := Aside0.mk hG
  have HC := Aside0.mk g2
  have HX := Aside0.mk h2
  have hS := Lib.hid (state_calls x.f4)
  have hI := Lib.hid (show indexB t x = (nameB x.f1 && (decide (1 ≤ x.f2.length) && (decide (x.f2.length ≤ 8) && (stateB x.f4 && colsB t.f2 [] x.f2)))) from rfl)
  clear hN hG g2 h2
  generalize indexB t x = R at hI ⊢
  obtain ⟨n, hn⟩ : ∃ n : Nat, n = x.f2.length := ⟨_, rfl⟩
  have HNL := Lib.hid hn
  generalize hb : nameB x.f1 = nb at hI
  generalize hs : stateB x.f4 = sb at hI
  have HNB := Lib.hid hb
  have HSB := Lib.hid hs
  clear hb hs hn
  have L1 : decide ((x.f2.length : Int) < 1) = !decide (1 ≤ x.f2.length) := by by_cases h : 1 ≤ x.f2.length <;> simp [h] <;> omega
  have L8 : decide (8 < (x.f2.length : Int)) = !decide (x.f2.length ≤ 8) := by by_cases h : x.f2.length ≤ 8 <;> simp [h] <;> omega
  generalize decide (1 ≤ x.f2.length) = d1 at L1 hI
  generalize decide (x.f2.length ≤ 8) = d8 at L8 hI
  cases nb <;> cases d1 <;> cases d8 <;> cases sb <;> simp only [Bool.not_true, Bool.not_false, Bool.false_and, Bool.true_and] at L1 L8 hI
  case true.true.true.true =>
    go_enter Tryd.func125, Tryd.ntmps125
    go_wp2_with (first | (go_at_call 33; refine (HN.out _ _ (HG.out.of_below (by repeat (first | exact Below.refl _ _ | apply below_alloc)))).mono ?_; rintro e w1 ⟨rfl, hb1⟩; rw [HNB.out]; obtain ⟨hc1, hf1⟩ := bcell hb1) | (go_at_call 162; refine (hS.out _).mono ?_; rintro e w2 ⟨rfl, rfl⟩; rw [HSB.out]))
    have HB1 := Aside0.mk (below_then (below_alloc (below_alloc (Below.refl _ _) _) _) (by simp; omega) hb1 : Below w.heap.size w w1)
    have K2 := Aside0.mk (by rw [hc1 _ _ (by simp <;> omega)]; simp : w1.cell? ⟨w.heap.size, 2, none⟩ = some (.slice A2 t.f2.length c2))
    have K3 := Aside0.mk (by rw [hc1 _ _ (by simp <;> omega)]; simp : w1.cell? ⟨w.heap.size + 1, 2, none⟩ = some (.slice B2 x.f2.length d2))
    have hz1 : w.heap.size + 2 ≤ w1.heap.size := by have := hb1.size; simp at this; omega
    clear hc1 hf1 hb1 L1 L8
    go_loopg [5, 6, 32] x.f2.length (fun gg _ _ u32 wr => ∃ kk : Nat, kk ≤ x.f2.length ∧ x.f2.length - kk ≤ gg ∧ u32 = .int .i64 kk ∧ w.heap.size + 2 ≤ wr.heap.size ∧ Aside0 (Below w.heap.size w wr) ∧ Aside0 (wr.cell? ⟨w.heap.size, 2, none⟩ = some (.slice A2 t.f2.length c2)) ∧ Aside0 (wr.cell? ⟨w.heap.size + 1, 2, none⟩ = some (.slice B2 x.f2.length d2)) ∧ Aside0 (colsB t.f2 [] x.f2 = colsB t.f2 (x.f2.take kk) (x.f2.drop kk)))
    case atStart => exact ⟨0, Nat.zero_le _, by omega, rfl, hz1, HB1, K2, K3, ⟨by rfl⟩⟩
    case round =>
      obtain ⟨kk, hkk, hg, rfl, hz, BW, C2, C3, CI⟩ := hrel
      clear HB1 K2 K3 hz1
      by_cases hlt : kk < x.f2.length
      · have hltz : (kk : Int) < (x.f2.length : Int) := by omega
        have hd : x.f2.drop kk = x.f2[kk] :: x.f2.drop (kk + 1) := List.drop_eq_getElem_cons hlt
        have htk : x.f2.take (kk + 1) = x.f2.take kk ++ [x.f2[kk]] := List.take_succ_eq_append_getElem hlt
        obtain ⟨ad, eB, hcell⟩ := (Kd.reads_of_C (enc := Value.int .i64) (d := (0 : Int)) (h1 := fun _ => rfl) HX.out).at_ (kk : Int) (by omega) (by omega)
        have hx : rdOf (0 : Int) x.f2 (kk : Int) = x.f2[kk] := by simp [rdOf, List.getD, hlt]
        rw [hx, Int.toNat_natCast] at hcell
        have hcw := pw_cell_below BW.out hcell
        generalize x.f2[kk] = id at hd htk hcell hcw
        cases eB
        have hst : colsB t.f2 (x.f2.take kk) (id :: x.f2.drop (kk + 1)) = (!((x.f2.take kk).contains id) && (t.f2.any (fun c => c.f0 == id) && colsB t.f2 (x.f2.take (kk + 1)) (x.f2.drop (kk + 1)))) := by rw [htk]; rfl
        have CI2 := CI.out
        rw [hd, hst] at CI2
        have HCI := Lib.hid CI2
        clear CI CI2 hst hd htk hx hcell
        have hcon := Lib.hid (contains_calls (some ad) d2 kk (x.f2.take kk) id (by rw [List.length_take]; omega))
        have hCt := Aside0.mk (Kd.C_take HX.out (m := kk) (by omega))
        obtain ⟨f2, hf2⟩ : ∃ f2 : World, f2 = wr := ⟨_, rfl⟩
        cases hc : (x.f2.take kk).contains id with
        | true =>
          rw [hc] at hcon
          have HK := Lib.hid hc
          clear hc hf2
          go_wp2_with fail
          have k0 : (0 : Int) ≤ (kk : Int) := by omega
          have k1 : (kk : Int) ≤ (x.f2.length : Int) := by omega
          have q3 : (wr.alloc (Obj.cells #[Value.int IntKind.i64 id] 3)).cell? ⟨w.heap.size + 1, 2, none⟩ = some (.slice (some ad) x.f2.length d2) := (keepA (ty := 3) (x := .int .i64 id) BW.out hz C2.out C3.out).2.2.2.1
          go_quiet ((go_at_call 163; exact Calls.quiet_of ((hcon.out _ (Kd.C_below hCt.out (below_dN (below_alloc BW.out _) _)) (by omega)).mono fun e w' h => ⟨h.1, h.2.out⟩)))
          go_wp2
          go_ret
          refine ⟨?_, below_dN (below_alloc BW.out _) _⟩
          rw [hI.out, HCI.out, HK.out]; rfl
        | false =>
          rw [hc] at hcon
          have HK := Lib.hid hc
          clear hc hf2
          have k0 : (0 : Int) ≤ (kk : Int) := by omega
          have k1 : (kk : Int) ≤ (x.f2.length : Int) := by omega
          have k2 : (kk : Int) ≤ (d2 : Int) := by omega
          cases hq : t.f2.any (fun c => c.f0 == id) with
          | true =>
            have HQ := Lib.hid hq
            clear hq
            go_wp2_with fail
            go_region_held3 (fun W => Below w.heap.size w W ∧ wr.heap.size < W.heap.size ∧ W.cell? ⟨w.heap.size, 2, none⟩ = some (.slice A2 t.f2.length c2) ∧ W.cell? ⟨w.heap.size + 1, 2, none⟩ = some (.slice (some ad) x.f2.length d2) ∧ W.cell? ⟨wr.heap.size, 0, none⟩ = some (.int .i64 id)) (first | assumption | exact keepA BW.out hz C2.out C3.out | exact keepB hz (by assumption) (by assumption) (by assumption) (by assumption) (by assumption) hd2.below | exact keepB hz (by assumption) (by assumption) (by assumption) (by assumption) (by assumption) hb3) (first | (go_at_call 163; go_split_ands; refine (hcon.out _ (Kd.C_below hCt.out (by assumption)) (by omega)).mono ?_; rintro e w2 ⟨rfl, hd2⟩) | (go_at_call 164; go_split_ands; refine (any75 165 _ (enters_any Tryd.func165 rfl rfl) _ _ _ _ _ (Kd.C_below HC.out (by assumption)) (pred165 id _ _ (Nat.lt_of_le_of_lt (Nat.le_refl _) (by assumption)) (by assumption))).mono ?_; rintro e w3 ⟨rfl, hb3⟩; rw [HQ.out]))
            rename_i hHeld
            obtain ⟨z1, z2, z3, z4, _⟩ := hHeld
            have hbig := HX.out.2.1
            go_wp2
            go_roundg (x.f2.length - (kk + 1))
            case measure => omega
            case rel =>
              refine ⟨kk + 1, by omega, by omega, by go_num, by omega, ⟨z1⟩, ⟨z3⟩, ⟨z4⟩, ⟨?_⟩⟩
              rw [HCI.out, HK.out, HQ.out]; rfl
          | false =>
            have HQ := Lib.hid hq
            clear hq
            go_wp2_with fail
            go_region_held3 (fun W => Below w.heap.size w W ∧ wr.heap.size < W.heap.size ∧ W.cell? ⟨w.heap.size, 2, none⟩ = some (.slice A2 t.f2.length c2) ∧ W.cell? ⟨w.heap.size + 1, 2, none⟩ = some (.slice (some ad) x.f2.length d2) ∧ W.cell? ⟨wr.heap.size, 0, none⟩ = some (.int .i64 id)) (first | assumption | exact keepA BW.out hz C2.out C3.out | exact keepB hz (by assumption) (by assumption) (by assumption) (by assumption) (by assumption) hd2.below | exact keepB hz (by assumption) (by assumption) (by assumption) (by assumption) (by assumption) hb3) (first | (go_at_call 163; go_split_ands; refine (hcon.out _ (Kd.C_below hCt.out (by assumption)) (by omega)).mono ?_; rintro e w2 ⟨rfl, hd2⟩) | (go_at_call 164; go_split_ands; refine (any75 165 _ (enters_any Tryd.func165 rfl rfl) _ _ _ _ _ (Kd.C_below HC.out (by assumption)) (pred165 id _ _ (Nat.lt_of_le_of_lt (Nat.le_refl _) (by assumption)) (by assumption))).mono ?_; rintro e w3 ⟨rfl, hb3⟩; rw [HQ.out]))
            rename_i hHeld
            obtain ⟨z1, z2, z3, z4, _⟩ := hHeld
            go_wp2
            go_ret
            refine ⟨?_, z1⟩
            rw [hI.out, HCI.out, HK.out, HQ.out]; rfl
      · have hltz : ¬ (kk : Int) < (x.f2.length : Int) := by omega
        have hkd : x.f2.drop kk = [] := List.drop_eq_nil_of_le (by omega)
        have CI2 := CI.out
        rw [hkd] at CI2
        have HCI := Lib.hid CI2
        clear CI CI2 hkd
        go_wp2
        go_ret
        refine ⟨?_, BW.out⟩
        rw [hI.out, HCI.out]; rfl
  all_goals
    go_enter Tryd.func125, Tryd.ntmps125
    go_wp2_with (first | (go_at_call 33; refine (HN.out _ _ (HG.out.of_below (by repeat (first | exact Below.refl _ _ | apply below_alloc)))).mono ?_; rintro e w1 ⟨rfl, hb1⟩; rw [HNB.out]; obtain ⟨hc1, hf1⟩ := bcell hb1) | (go_at_call 162; refine (hS.out _).mono ?_; rintro e w2 ⟨rfl, rfl⟩; rw [HSB.out]))
    go_ret
    refine ⟨by rw [hI.out]; rfl, ?_⟩
    exact below_then (below_alloc (below_alloc (Below.refl _ _) _) _) (by simp; omega) hb1
end Go.Proofs.YtjgomlcdmpcoaaaDoor.H
