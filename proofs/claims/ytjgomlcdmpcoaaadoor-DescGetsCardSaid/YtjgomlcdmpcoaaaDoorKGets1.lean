/- Own texts of this session, packed by its program wip/pp/pack.py: lemmas and walks of functions. -/
import Derived.Below
import Derived.Lib.Space
import Derived.Test.YtjgomlcdmpcoaaaDoorProg
import Derived.WalkKit
import Derived.ProofKit
import Derived.OpenShut
import Derived.ShutString
import Derived.Deep.DeepHandedRow
import Derived.Deep.DeepLaidRun
import Derived.Deep.DeepWitnessRowRef
import Derived.Lib.LaidTab
import Derived.Lib.LaidU8
import Derived.LaidSub
import Derived.MakeChecks
import Derived.Test.YtjgomlcdmpcoaaaDoorCards
import Derived.Test.YtjgomlcdmpcoaaaDoorTie
import Derived.Deep.Draws
import Derived.Deep.AppendLies
import Derived.Maps.AppendAt
import Derived.OwnWalk
import Derived.Laws.BytesArg
import Derived.Laws.MakeOwn
import Derived.Laws.OwnMore
import Derived.Deep.OwnRows
import Derived.Tactics
import Derived.Lib.ConvBytes
import Derived.Laws.Slices
import Derived.KernelRfl
import Derived.RowKit3
import Derived.Deep.LoopGhost
import Derived.Deep.QuietTactic
import Derived.BigQuiet
import Derived.WideLaws
import Derived.Deep.DeepCutAuto
import Derived.Deep.CutBlock
import Derived.Deep.RegionHeld3
import Derived.Laws.Rows
import Derived.Lib.AppendStr
import Derived.ArgAppend
import Derived.Laws.IdiomCopy
import Derived.OrdersHeld
import Derived.Laws.BitsLemmas
import Derived.RowKit
import Derived.Lib.Hide
import Derived.Laws.BitsAllLaws
import Derived.IntWalk
import Derived.OneCell
import Derived.Outline
import Derived.Deep.RegionLaw
import Derived.Test.YtjgomlcdmpcoaaaDoorKGets0
namespace Go.Proofs.YtjgomlcdmpcoaaaDoor
open Go.RowKit
def GL (w : World) : Prop := ∀ c : Nat, c < 256 → w.cell? ⟨0, c, none⟩ = some (.int .u8 (if Lib.isSp (UInt8.ofNat c) then 1 else 0))
theorem GL.tab {w : World} (h : GL w) : ∀ c : Nat, c < 256 → w.cell? ⟨0, c, none⟩ = some (.int .u8 (if Lib.isSp (UInt8.ofNat c) then 1 else 0)) := h
theorem GL.lt {w : World} (h : GL w) : 0 < w.heap.size := World.block_lt_of_cell? _ _ (h 0 (by decide))
theorem GL.of_below {w w' : World} (h : GL w) (hb : Below w.heap.size w w') : GL w' := fun c hc => by
  rw [hb.cell (p := ⟨0, c, none⟩) h.lt]
  exact h c hc
end Go.Proofs.YtjgomlcdmpcoaaaDoor
namespace Go.Proofs.YtjgomlcdmpcoaaaDoor.HLaid
open Go.ChangeShapes Go.WideShapes Go.ChangeAt Go.RowKit
theorem own : ownKnob Tryd.prog.godebug = none := by kernel_rfl
theorem gSpace : Tryd.prog.globalNamed "strings.asciiSpace" = some 0 := by kernel_rfl
theorem gSpaceT : (Tryd.prog.globals[0]?).map (·.type) = some 188 := by kernel_rfl
theorem cells188 : Tryd.prog.cellsOf 188 = 256 := by kernel_rfl
theorem cells5 : Tryd.prog.cellsOf 5 = 1 := by kernel_rfl
theorem gl {W : World} (h : laidMetH Tryd.prog Rows.descNamesRow.laid W) : GL W := by
  have h1 : laidMet Tryd.prog Rows.descNamesRow.laid W := by rw [← Go.MakeChecks.laidMetH_plain _ _ _ (by kernel_rfl)]; exact h
  have h2 := h1.filter fun x => x.1 == "strings.asciiSpace"
  have h3 : laidMet Tryd.prog [("strings.asciiSpace", Lib.tabData .u8 Lib.asciiSpaceTab)] W := by
    have e : (Rows.descNamesRow.laid.filter fun x => x.1 == "strings.asciiSpace") = [("strings.asciiSpace", Lib.tabData .u8 Lib.asciiSpaceTab)] := by kernel_rfl
    rw [← e]; exact h2
  have ht := Lib.tabIs_of_head (rest := []) gSpace gSpaceT Tryd.underlying188 Tryd.underlying5 cells5 cells188 h3
  intro c hc
  rw [ht.cell gSpace c (by rw [Lib.asciiSpaceTab_length]; exact hc), Lib.asciiSpaceTab_at c hc]
def tabCells : DataW Unit → Array Value
  | .agg ps => (ps.map fun | .lit (.int k z) => Value.int k z | _ => .int .u8 0).toArray
  | _ => #[]
noncomputable def laidWorld (os : Os) : World :=
  let N := (World.settled Tryd.prog os).heap.size
  let w0 := World.holding Tryd.prog os ⟨#[.cells (([9, 13, 1, 32, 133, 101, 160, 5760, 5600, 8192, 8202, 1, 8232, 8233, 1, 8239, 8287, 48, 12288, 12288, 1] : List Int).map fun z => Value.int .u16 z).toArray 214,
    .cells #[.slice (some ⟨N, 0, none⟩) 7 7, .slice none 0 0, .int .i64 2] 211], #[], []⟩
  let put (h : Array Obj) (g : Nat) (cs : Array Value) : Array Obj := h.modify g fun
    | .cells _ t frozen => .cells cs t frozen
    | o => o
  { w0 with heap := put (put w0.heap 0 (tabCells Rows.laid_strings_asciiSpace)) 1 #[.pointer (some ⟨N + 1, 0, none⟩)] }
theorem laid_met (os : Os) (args : Array Value) : laidMet Tryd.prog Rows.descNamesRow.laid ((laidWorld os).forCall (fun _ _ => 0) ⟨#[], args, []⟩).memory :=
  laidMet_of_run3 10 (by kernel_rfl) (by kernel_rfl) (by kernel_rfl)
end Go.Proofs.YtjgomlcdmpcoaaaDoor.HLaid
namespace Go.Proofs.YtjgomlcdmpcoaaaDoor.HLaid
open Go.ChangeShapes Go.WideShapes Go.ChangeAt Go.RowKit
def ioL : List Char := ([104, 97, 114, 110, 101, 115, 115, 32, 52, 52, 97, 97, 52, 99, 101, 97, 100, 50, 48, 55, 48, 99, 54, 48, 52, 50, 56, 56, 49, 97, 49, 54, 101, 52, 55, 57, 102, 55, 53, 52, 54, 99, 98, 55, 53, 101, 50, 102, 100, 52, 56, 57, 51, 49, 56, 100, 48, 57, 49, 101, 100, 55, 97, 97, 51, 98, 48, 100, 97, 55, 53, 56, 32, 99, 117, 116, 32, 97, 116, 32, 102, 97, 108, 115, 101, 119, 111, 114, 107, 47, 102, 97, 108, 115, 101, 119, 111, 114, 107, 108, 97, 119, 50, 52, 46, 74, 111, 98, 77, 97, 121, 115, 32, 102, 97, 108, 115, 101, 119, 111, 114, 107, 47, 102, 97, 108, 115, 101, 119, 111, 114, 107, 108, 97, 119, 50, 52, 46, 74, 111, 98, 78, 101, 120, 116, 115, 32, 102, 97, 108, 115, 101, 119, 111, 114, 107, 47, 102, 97, 108, 115, 101, 119, 111, 114, 107, 108, 97, 119, 50, 52, 46, 74, 111, 98, 69, 110, 100, 115, 32, 102, 97, 108, 115, 101, 119, 111, 114, 107, 47, 102, 97, 108, 115, 101, 119, 111, 114, 107, 108, 97, 119, 54, 46, 68, 101, 115, 99, 78, 97, 109, 101, 115, 32, 102, 97, 108, 115, 101, 119, 111, 114, 107, 47, 102, 97, 108, 115, 101, 119, 111, 114, 107, 108, 97, 119, 54, 46, 68, 101, 115, 99, 77, 97, 121, 115, 32, 102, 97, 108, 115, 101, 119, 111, 114, 107, 47, 102, 97, 108, 115, 101, 119, 111, 114, 107, 108, 97, 119, 54, 46, 68, 101, 115, 99, 80, 117, 116, 115, 32, 102, 97, 108, 115, 101, 119, 111, 114, 107, 47, 102, 97, 108, 115, 101, 119, 111, 114, 107, 108, 97, 119, 50, 52, 46, 74, 111, 98, 80, 117, 116, 115, 32, 102, 97, 108, 115, 101, 119, 111, 114, 107, 47, 102, 97, 108, 115, 101, 119, 111, 114, 107, 108, 97, 119, 50, 52, 46, 74, 111, 98, 71, 101, 116, 115, 32, 102, 97, 108, 115, 101, 119, 111, 114, 107, 47, 102, 97, 108, 115, 101, 119, 111, 114, 107, 108, 97, 119, 50, 52, 46, 74, 111, 98, 66, 97, 99, 107, 32, 102, 97, 108, 115, 101, 119, 111, 114, 107, 47, 102, 97, 108, 115, 101, 119, 111, 114, 107, 108, 97, 119, 54, 46, 68, 101, 115, 99, 71, 101, 116, 115, 32, 102, 97, 108, 115, 101, 119, 111, 114, 107, 47, 102, 97, 108, 115, 101, 119, 111, 114, 107, 108, 97, 119, 54, 46, 68, 101, 115, 99, 66, 97, 99, 107, 32, 102, 97, 108, 115, 101, 119, 111, 114, 107, 47, 102, 97, 108, 115, 101, 119, 111, 114, 107, 108, 97, 119, 54, 46, 68, 101, 115, 99, 84, 117, 114, 110, 101, 100, 32, 102, 97, 108, 115, 101, 119, 111, 114, 107, 47, 102, 97, 108, 115, 101, 119, 111, 114, 107, 108, 97, 119, 49, 57, 46, 67, 97, 116, 97, 108, 111, 103, 67, 114, 101, 97, 116, 101, 115, 32, 102, 97, 108, 115, 101, 119, 111, 114, 107, 47, 102, 97, 108, 115, 101, 119, 111, 114, 107, 108, 97, 119, 49, 57, 46, 67, 97, 116, 97, 108, 111, 103, 66, 101, 103, 105, 110, 115, 32, 102, 97, 108, 115, 101, 119, 111, 114, 107, 47, 102, 97, 108, 115, 101, 119, 111, 114, 107, 108, 97, 119, 49, 57, 46, 67, 97, 116, 97, 108, 111, 103, 83, 116, 101, 112, 115, 32, 102, 97, 108, 115, 101, 119, 111, 114, 107, 47, 102, 97, 108, 115, 101, 119, 111, 114, 107, 108, 97, 119, 49, 57, 46, 67, 97, 116, 97, 108, 111, 103, 82, 105, 103, 104, 116, 32, 102, 97, 108, 115, 101, 119, 111, 114, 107, 47, 102, 97, 108, 115, 101, 119, 111, 114, 107, 108, 97, 119, 49, 57, 46, 67, 97, 116, 97, 108, 111, 103, 82, 111, 117, 110, 100, 32, 102, 97, 108, 115, 101, 119, 111, 114, 107, 47, 102, 97, 108, 115, 101, 119, 111, 114, 107, 108, 97, 119, 49, 57, 46, 67, 97, 116, 97, 108, 111, 103, 84, 97, 98, 108, 101, 115, 32, 102, 97, 108, 115, 101, 119, 111, 114, 107, 47, 102, 97, 108, 115, 101, 119, 111, 114, 107, 108, 97, 119, 49, 57, 46, 67, 97, 116, 97, 108, 111, 103, 87, 97, 121, 115] : List Nat).map Char.ofNat
theorem io : Tryd.prog.initOrder = String.ofList ioL := by kernel_rfl
theorem ioT : Tryd.prog.initOrder.toList = ioL := by rw [io, String.toList_ofList]
theorem ws : behindMainWord (wordsSigns Tryd.prog.initOrder.toList) = behindMainWord (wordsSigns ioL) := by rw [ioT]
theorem hl : Tryd.prog.headLifts = [] := by
  unfold Program.headLifts
  rw [ws]
  kernel_rfl
def gmk (ws : List (List Char)) (hl : List String) : Option Make :=
  match ws with
  | c :: rest => if c == "gc".toList || c == "spec".toList then some .whole else if c == "cut".toList || (c == "finals".toList && rest.head? == some "cut".toList) then some .cut else if c == "carried".toList then some .carried else if hl.isEmpty then none else some (.lifted hl)
  | [] => none
theorem make_eq (P : Program) : P.make = gmk (behindMainWord (wordsSigns P.initOrder.toList)) P.headLifts := rfl
theorem hmk0 : gmk (behindMainWord (wordsSigns ioL)) [] = some Rows.descNamesRow.make := by kernel_rfl
theorem hmk : Tryd.prog.make = some Rows.descNamesRow.make := by
  rw [make_eq, ws, hl]
  exact hmk0
def gme (P : Program) (ws : List (List Char)) : Bool :=
  match ws with
  | c :: rest =>
    ((c == "gc".toList || c == "spec".toList) && (rest.isEmpty || rest.head? == some "stop".toList)) ||
    (c == "carried".toList && rest.take 2 == ["gc".toList, "cut".toList] && !P.laysLater && !P.bearsReflect) ||
    ((stripLifts liftWords (c :: rest)).2.head? == some "cut".toList &&
      ((stripLifts liftWords (c :: rest)).1.contains "finals" || !P.laysLater) && ((stripLifts liftWords (c :: rest)).1.contains "reflectrows" || !P.bearsReflect) &&
      ((stripLifts liftWords (c :: rest)).1.contains "reflectrows" || !(stripLifts liftWords (c :: rest)).1.contains "leanrows") &&
      P.doorFits (stripLifts liftWords (c :: rest)).1)
  | [] => false
theorem mayEnter_eq (P : Program) : P.mayEnter = gme P (behindMainWord (wordsSigns P.initOrder.toList)) := rfl
theorem hme : Tryd.prog.mayEnter = true := by
  rw [mayEnter_eq, ws]
  kernel_rfl
def glf (ws : List (List Char)) (hl : List String) : Bool := (ws.head? == some "carried".toList && ws.take 3 != ["carried".toList, "gc".toList, "cut".toList]) || hl.contains "finals"
theorem lifts_eq (P : Program) : P.liftsFinal = glf (behindMainWord (wordsSigns P.initOrder.toList)) P.headLifts := rfl
theorem hlf : Tryd.prog.liftsFinal = false := by
  rw [lifts_eq, ws, hl]
  kernel_rfl
def gjf (b1 b2 : Bool) (mk : Option Make) (P : Program) (f : FuncId) (fn : Func) (s : ChangeSpec) (c : OpenClaim) : Bool :=
  c.wf (OpenSpec.ofChange s) && laidOutB P && mapsRowed P &&
  fn.params.all (P.readableRec ·) && namedTie P c.named s.vars &&
  (c.stops == []) && (P.stops == []) && (c.knobs == []) && (P.stopKnobs == []) &&
  (c.inPlace == P.inPlace f) && (c.unfollowed == P.unfollowed f) && (c.recurses == P.recurses f) && (c.named == P.varsNamed f) &&
  (c.maps == (fn.params.toList ++ s.plain.varTypes P).any (P.mapsRec ·)) && (c.ifaces == (fn.params.toList ++ s.plain.varTypes P).any (P.ifacesRec ·)) && (c.mapsOut == P.mapsAmong fn.resultTypes.toList) &&
  (c.loops == (fn.params.toList ++ s.plain.varTypes P).any (P.loopsFrom ·)) && (c.wideKeys == (fn.params.toList ++ s.plain.varTypes P ++ fn.resultTypes.toList).any (P.wideKeysFrom ·)) &&
  s.vars.all (P.varReadable ·) && fn.resultTypes.all (fun t => P.readableRec t && decide (t < P.types.size)) && (c.ifacesOut == fn.resultTypes.toList.any (P.ifacesRec ·)) && (c.loopsOut == fn.resultTypes.toList.any (P.loopsFrom ·)) && (c.plainKeys == P.plainKeys) && c.shortTexts.isNone && P.stopsHeard && b1 && (c.lifted == b2) && (mk == some c.make) && (c.kinds == (if c.domain.isEmpty then [] else fn.params.toList.map fun t => match P.underlying t with | some (.int k) => some k | _ => none)) && (c.pinned == c.pinnedBy) &&
  (c.veiled == (fn.params.toList ++ s.plain.varTypes P ++ fn.resultTypes.toList).any (P.veiledRec ·)) && c.veiledFits P fn.params.toList (fn.params.toList ++ s.plain.varTypes P ++ fn.resultTypes.toList)
theorem jf_eq (P : Program) (f : FuncId) (fn : Func) (s : ChangeSpec) (c : OpenClaim) : joinedFacts P f fn s c = gjf P.mayEnter P.liftsFinal P.make P f fn s c := rfl
theorem joined {f : FuncId} {fn : Func} {s : ChangeSpec} {c : OpenClaim} (h : gjf true false (some Rows.descNamesRow.make) Tryd.prog f fn s c = true) : joinedFacts Tryd.prog f fn s c = true := by
  rw [jf_eq, hme, hlf, hmk]
  exact h
def gmi (ws : List (List Char)) : Option (Bool × List Char) :=
  match ws with
  | h :: s :: _ => if !isSumSigns s then none else if h == "harness".toList then some (true, s) else if h == "ownmain".toList then some (false, s) else none
  | _ => none
theorem mainIs_eq (P : Program) : P.mainIs = gmi (wordsSigns P.initOrder.toList) := rfl
theorem hmain : Tryd.prog.mainIs = some (true, "44aa4cead2070c6042881a16e479f7546cb75e2fd489318d091ed7aa3b0da758".toList) := by
  rw [mainIs_eq, ioT]
  kernel_rfl
end Go.Proofs.YtjgomlcdmpcoaaaDoor.HLaid
namespace Go.Proofs.YtjgomlcdmpcoaaaDoor.D
open Go.RowKit Go.Proofs.YtjgomlcdmpcoaaaDoorW.PrintWords Go.Proofs.YtjgomlcdmpcoaaaDoorW.PrintLast Go.Proofs.YtjgomlcdmpcoaaaDoorW.PrintMore
attribute [local go_sem] max2_int min2_int max_two min_two max_three min_three max_four min_four
set_option linter.unusedVariables false
set_option linter.unusedSimpArgs false
def errW : Option Int → Value
 | none => .nilIface
 | some c => .iface 0 (.int .i64 c)
theorem errW_none : errW none = .nilIface := rfl
theorem errW_some (c : Int) : errW (some c) = .iface 0 (.int .i64 c) := rfl
theorem info3 : (Tryd.prog.info? 3).map (fun i => (i.zero, i.size, i.bytes)) = some (some (.int .i64 0), 1, 8) := by kernel_rfl
theorem info5 : (Tryd.prog.info? 5).map (fun i => (i.zero, i.size, i.bytes)) = some (some (.int .u8 0), 1, 1) := by kernel_rfl
theorem info70 : (Tryd.prog.info? 70).map (fun i => (i.zero, i.size, i.bytes)) = some (some (.agg #[(.int .i64 0), (.string ⟨#[]⟩), (.slice none 0 0), (.slice none 0 0), (.int .i64 0)]), 5, 80) := by kernel_rfl
theorem info75 : (Tryd.prog.info? 75).map (fun i => (i.zero, i.size, i.bytes)) = some (some (.agg #[(.int .i64 0), (.string ⟨#[]⟩), (.int .i64 0), (.int .i64 0), (.int .i64 0), (.int .i64 0), (.int .i64 0), (.int .u64 0), (.string ⟨#[]⟩)]), 9, 88) := by kernel_rfl
theorem info98 : (Tryd.prog.info? 98).map (fun i => (i.zero, i.size, i.bytes)) = some (some (.agg #[(.int .i64 0), (.string ⟨#[]⟩), (.slice none 0 0), (.bool false), (.int .i64 0)]), 5, 64) := by kernel_rfl
structure S73 where
 f0 : Int
 f1 : Int
 f2 : Int
 f3 : ByteArray
def z73 : S73 := ⟨(0 : Int), (0 : Int), (0 : Int), (⟨#[]⟩ : ByteArray)⟩
def k73 : Kd S73 := Kd.iso (Kd.pair (Kd.int .i64) (Kd.pair (Kd.int .i64) (Kd.pair (Kd.int .u64) Kd.string))) (fun x : S73 => (x.f0, x.f1, x.f2, x.f3))
theorem k73_open {w : World} {x : S73} {cs : List Value} (h : k73.K w x cs) : cs = [.int .i64 x.f0, .int .i64 x.f1, .int .u64 x.f2, .string x.f3] := by
 obtain ⟨_, _, rfl, rfl, ⟨_, _, rfl, rfl, ⟨_, _, rfl, rfl, rfl⟩⟩⟩ := h
 exact rfl
theorem k73_mk (w : World) (x : S73)  : k73.K w x [.int .i64 x.f0, .int .i64 x.f1, .int .u64 x.f2, .string x.f3] := ⟨[.int .i64 x.f0], [.int .i64 x.f1, .int .u64 x.f2, .string x.f3], rfl, rfl, ⟨[.int .i64 x.f1], [.int .u64 x.f2, .string x.f3], rfl, rfl, ⟨[.int .u64 x.f2], [.string x.f3], rfl, rfl, rfl⟩⟩⟩
theorem k73_mkM (w : World) (base : Nat) (ok : Nat → Prop) (x : S73)  : k73.M w base ok x [.int .i64 x.f0, .int .i64 x.f1, .int .u64 x.f2, .string x.f3] := ⟨[.int .i64 x.f0], [.int .i64 x.f1, .int .u64 x.f2, .string x.f3], rfl, rfl, ⟨[.int .i64 x.f1], [.int .u64 x.f2, .string x.f3], rfl, rfl, ⟨[.int .u64 x.f2], [.string x.f3], rfl, rfl, rfl⟩⟩⟩
structure S75 where
 f0 : Int
 f1 : ByteArray
 f2 : Int
 f3 : Int
 f4 : Int
 f5 : S73
def z75 : S75 := ⟨(0 : Int), (⟨#[]⟩ : ByteArray), (0 : Int), (0 : Int), (0 : Int), z73⟩
def k75 : Kd S75 := Kd.iso (Kd.pair (Kd.int .i64) (Kd.pair Kd.string (Kd.pair (Kd.int .i64) (Kd.pair (Kd.int .i64) (Kd.pair (Kd.int .i64) k73))))) (fun x : S75 => (x.f0, x.f1, x.f2, x.f3, x.f4, x.f5))
theorem k75_open {w : World} {x : S75} {cs : List Value} (h : k75.K w x cs) : cs = [.int .i64 x.f0, .string x.f1, .int .i64 x.f2, .int .i64 x.f3, .int .i64 x.f4, .int .i64 x.f5.f0, .int .i64 x.f5.f1, .int .u64 x.f5.f2, .string x.f5.f3] := by
 obtain ⟨_, _, rfl, rfl, ⟨_, _, rfl, rfl, ⟨_, _, rfl, rfl, ⟨_, _, rfl, rfl, ⟨_, _, rfl, rfl, s5⟩⟩⟩⟩⟩ := h
 obtain rfl := k73_open s5
 exact rfl
theorem k75_mk (w : World) (x : S75)  : k75.K w x [.int .i64 x.f0, .string x.f1, .int .i64 x.f2, .int .i64 x.f3, .int .i64 x.f4, .int .i64 x.f5.f0, .int .i64 x.f5.f1, .int .u64 x.f5.f2, .string x.f5.f3] := ⟨[.int .i64 x.f0], [.string x.f1, .int .i64 x.f2, .int .i64 x.f3, .int .i64 x.f4, .int .i64 x.f5.f0, .int .i64 x.f5.f1, .int .u64 x.f5.f2, .string x.f5.f3], rfl, rfl, ⟨[.string x.f1], [.int .i64 x.f2, .int .i64 x.f3, .int .i64 x.f4, .int .i64 x.f5.f0, .int .i64 x.f5.f1, .int .u64 x.f5.f2, .string x.f5.f3], rfl, rfl, ⟨[.int .i64 x.f2], [.int .i64 x.f3, .int .i64 x.f4, .int .i64 x.f5.f0, .int .i64 x.f5.f1, .int .u64 x.f5.f2, .string x.f5.f3], rfl, rfl, ⟨[.int .i64 x.f3], [.int .i64 x.f4, .int .i64 x.f5.f0, .int .i64 x.f5.f1, .int .u64 x.f5.f2, .string x.f5.f3], rfl, rfl, ⟨[.int .i64 x.f4], [.int .i64 x.f5.f0, .int .i64 x.f5.f1, .int .u64 x.f5.f2, .string x.f5.f3], rfl, rfl, (k73_mk w x.f5 )⟩⟩⟩⟩⟩
theorem k75_mkM (w : World) (base : Nat) (ok : Nat → Prop) (x : S75)  : k75.M w base ok x [.int .i64 x.f0, .string x.f1, .int .i64 x.f2, .int .i64 x.f3, .int .i64 x.f4, .int .i64 x.f5.f0, .int .i64 x.f5.f1, .int .u64 x.f5.f2, .string x.f5.f3] := ⟨[.int .i64 x.f0], [.string x.f1, .int .i64 x.f2, .int .i64 x.f3, .int .i64 x.f4, .int .i64 x.f5.f0, .int .i64 x.f5.f1, .int .u64 x.f5.f2, .string x.f5.f3], rfl, rfl, ⟨[.string x.f1], [.int .i64 x.f2, .int .i64 x.f3, .int .i64 x.f4, .int .i64 x.f5.f0, .int .i64 x.f5.f1, .int .u64 x.f5.f2, .string x.f5.f3], rfl, rfl, ⟨[.int .i64 x.f2], [.int .i64 x.f3, .int .i64 x.f4, .int .i64 x.f5.f0, .int .i64 x.f5.f1, .int .u64 x.f5.f2, .string x.f5.f3], rfl, rfl, ⟨[.int .i64 x.f3], [.int .i64 x.f4, .int .i64 x.f5.f0, .int .i64 x.f5.f1, .int .u64 x.f5.f2, .string x.f5.f3], rfl, rfl, ⟨[.int .i64 x.f4], [.int .i64 x.f5.f0, .int .i64 x.f5.f1, .int .u64 x.f5.f2, .string x.f5.f3], rfl, rfl, (k73_mkM w base ok x.f5 )⟩⟩⟩⟩⟩
def rd_T75 (xs : List S75) (i : Int) : S75 := xs.getD i.toNat z75
theorem at_T75 {w : World} {A : Option Addr} {n : Nat} {xs : List S75} (h : Kd.C k75 w A n xs) (i : Int) (h0 : 0 ≤ i) (h1 : i < n) : ∃ ad , A = some ad ∧ w.cell? (ad.add (i.toNat * 9)) = some (.int .i64 (rd_T75 xs i).f0) ∧ w.cell? ⟨(ad.add (i.toNat * 9)).block, (ad.add (i.toNat * 9)).off + 1, none⟩ = some (.string (rd_T75 xs i).f1) ∧ w.cell? ⟨(ad.add (i.toNat * 9)).block, (ad.add (i.toNat * 9)).off + 2, none⟩ = some (.int .i64 (rd_T75 xs i).f2) ∧ w.cell? ⟨(ad.add (i.toNat * 9)).block, (ad.add (i.toNat * 9)).off + 3, none⟩ = some (.int .i64 (rd_T75 xs i).f3) ∧ w.cell? ⟨(ad.add (i.toNat * 9)).block, (ad.add (i.toNat * 9)).off + 4, none⟩ = some (.int .i64 (rd_T75 xs i).f4) ∧ w.cell? ⟨(ad.add (i.toNat * 9)).block, (ad.add (i.toNat * 9)).off + 5, none⟩ = some (.int .i64 (rd_T75 xs i).f5.f0) ∧ w.cell? ⟨(ad.add (i.toNat * 9)).block, (ad.add (i.toNat * 9)).off + 6, none⟩ = some (.int .i64 (rd_T75 xs i).f5.f1) ∧ w.cell? ⟨(ad.add (i.toNat * 9)).block, (ad.add (i.toNat * 9)).off + 7, none⟩ = some (.int .u64 (rd_T75 xs i).f5.f2) ∧ w.cell? ⟨(ad.add (i.toNat * 9)).block, (ad.add (i.toNat * 9)).off + 8, none⟩ = some (.string (rd_T75 xs i).f5.f3) := by
 obtain ⟨ad, c, e, _, hK, hc0⟩ := Kd.C_get h z75 i h0 h1
 have hc : ∀ j u, c[j]? = some u → w.cell? (ad.add (i.toNat * 9 + j)) = some u := hc0
 obtain rfl := k75_open hK
 exact ⟨ad, e, hc 0 _ rfl, by rw [← add_field _ _ 1 (by omega)]; exact hc 1 _ rfl, by rw [← add_field _ _ 2 (by omega)]; exact hc 2 _ rfl, by rw [← add_field _ _ 3 (by omega)]; exact hc 3 _ rfl, by rw [← add_field _ _ 4 (by omega)]; exact hc 4 _ rfl, by rw [← add_field _ _ 5 (by omega)]; exact hc 5 _ rfl, by rw [← add_field _ _ 6 (by omega)]; exact hc 6 _ rfl, by rw [← add_field _ _ 7 (by omega)]; exact hc 7 _ rfl, by rw [← add_field _ _ 8 (by omega)]; exact hc 8 _ rfl⟩
structure S98 where
 f0 : Int
 f1 : ByteArray
 f2 : (List Int)
 f3 : Bool
 f4 : Int
def z98 : S98 := ⟨(0 : Int), (⟨#[]⟩ : ByteArray), ([] : List Int), false, (0 : Int)⟩
def k98 : Kd S98 := Kd.iso (Kd.pair (Kd.int .i64) (Kd.pair Kd.string (Kd.pair (Kd.slice 3 (Kd.int .i64)) (Kd.pair Kd.bool (Kd.int .i64))))) (fun x : S98 => (x.f0, x.f1, x.f2, x.f3, x.f4))
theorem k98_open {w : World} {x : S98} {cs : List Value} (h : k98.K w x cs) : ∃ A2 c2, cs = [.int .i64 x.f0, .string x.f1, .slice A2 x.f2.length c2, .bool x.f3, .int .i64 x.f4] ∧ x.f2.length ≤ c2 ∧ (Kd.int .i64).C w A2 x.f2.length x.f2 := by
 obtain ⟨_, _, rfl, rfl, ⟨_, _, rfl, rfl, ⟨_, _, rfl, ⟨A2, c2, rfl, l2, g2⟩, ⟨_, _, rfl, rfl, rfl⟩⟩⟩⟩ := h
 exact ⟨A2, c2, rfl, l2, g2⟩
theorem k98_mkM (w : World) (base : Nat) (ok : Nat → Prop) (x : S98) {v2 : Value} (g2 : (Kd.int .i64).R 3 w base ok v2 x.f2) : k98.M w base ok x [.int .i64 x.f0, .string x.f1, v2, .bool x.f3, .int .i64 x.f4] := ⟨[.int .i64 x.f0], [.string x.f1, v2, .bool x.f3, .int .i64 x.f4], rfl, rfl, ⟨[.string x.f1], [v2, .bool x.f3, .int .i64 x.f4], rfl, rfl, ⟨[v2], [.bool x.f3, .int .i64 x.f4], rfl, ⟨v2, rfl, g2⟩, ⟨[.bool x.f3], [.int .i64 x.f4], rfl, rfl, rfl⟩⟩⟩⟩
def rd_T98 (xs : List S98) (i : Int) : S98 := xs.getD i.toNat z98
theorem at_T98 {w : World} {A : Option Addr} {n : Nat} {xs : List S98} (h : Kd.C k98 w A n xs) (i : Int) (h0 : 0 ≤ i) (h1 : i < n) : ∃ ad A2 c2, A = some ad ∧ w.cell? (ad.add (i.toNat * 5)) = some (.int .i64 (rd_T98 xs i).f0) ∧ w.cell? ⟨(ad.add (i.toNat * 5)).block, (ad.add (i.toNat * 5)).off + 1, none⟩ = some (.string (rd_T98 xs i).f1) ∧ w.cell? ⟨(ad.add (i.toNat * 5)).block, (ad.add (i.toNat * 5)).off + 2, none⟩ = some (.slice A2 (rd_T98 xs i).f2.length c2) ∧ w.cell? ⟨(ad.add (i.toNat * 5)).block, (ad.add (i.toNat * 5)).off + 3, none⟩ = some (.bool (rd_T98 xs i).f3) ∧ w.cell? ⟨(ad.add (i.toNat * 5)).block, (ad.add (i.toNat * 5)).off + 4, none⟩ = some (.int .i64 (rd_T98 xs i).f4) ∧ (rd_T98 xs i).f2.length ≤ c2 ∧ (Kd.int .i64).C w A2 (rd_T98 xs i).f2.length (rd_T98 xs i).f2 := by
 obtain ⟨ad, c, e, _, hK, hc0⟩ := Kd.C_get h z98 i h0 h1
 have hc : ∀ j u, c[j]? = some u → w.cell? (ad.add (i.toNat * 5 + j)) = some u := hc0
 obtain ⟨A2, c2, rfl, l2, g2⟩ := k98_open hK
 exact ⟨ad, A2, c2, e, hc 0 _ rfl, by rw [← add_field _ _ 1 (by omega)]; exact hc 1 _ rfl, by rw [← add_field _ _ 2 (by omega)]; exact hc 2 _ rfl, by rw [← add_field _ _ 3 (by omega)]; exact hc 3 _ rfl, by rw [← add_field _ _ 4 (by omega)]; exact hc 4 _ rfl, l2, g2⟩
structure S70 where
 f0 : Int
 f1 : ByteArray
 f2 : (List S75)
 f3 : (List S98)
 f4 : Int
def z70 : S70 := ⟨(0 : Int), (⟨#[]⟩ : ByteArray), ([] : List S75), ([] : List S98), (0 : Int)⟩
def k70 : Kd S70 := Kd.iso (Kd.pair (Kd.int .i64) (Kd.pair Kd.string (Kd.pair (Kd.slice 75 k75) (Kd.pair (Kd.slice 98 k98) (Kd.int .i64))))) (fun x : S70 => (x.f0, x.f1, x.f2, x.f3, x.f4))
theorem k70_open {w : World} {x : S70} {cs : List Value} (h : k70.K w x cs) : ∃ A2 c2 A3 c3, cs = [.int .i64 x.f0, .string x.f1, .slice A2 x.f2.length c2, .slice A3 x.f3.length c3, .int .i64 x.f4] ∧ x.f2.length ≤ c2 ∧ k75.C w A2 x.f2.length x.f2 ∧ x.f3.length ≤ c3 ∧ k98.C w A3 x.f3.length x.f3 := by
 obtain ⟨_, _, rfl, rfl, ⟨_, _, rfl, rfl, ⟨_, _, rfl, ⟨A2, c2, rfl, l2, g2⟩, ⟨_, _, rfl, ⟨A3, c3, rfl, l3, g3⟩, rfl⟩⟩⟩⟩ := h
 exact ⟨A2, c2, A3, c3, rfl, l2, g2, l3, g3⟩
theorem k70_mkM (w : World) (base : Nat) (ok : Nat → Prop) (x : S70) {v2 : Value} (g2 : k75.R 75 w base ok v2 x.f2) {v3 : Value} (g3 : k98.R 98 w base ok v3 x.f3) : k70.M w base ok x [.int .i64 x.f0, .string x.f1, v2, v3, .int .i64 x.f4] := ⟨[.int .i64 x.f0], [.string x.f1, v2, v3, .int .i64 x.f4], rfl, rfl, ⟨[.string x.f1], [v2, v3, .int .i64 x.f4], rfl, rfl, ⟨[v2], [v3, .int .i64 x.f4], rfl, ⟨v2, rfl, g2⟩, ⟨[v3], [.int .i64 x.f4], rfl, ⟨v3, rfl, g3⟩, rfl⟩⟩⟩⟩
def rd_T70 (xs : List S70) (i : Int) : S70 := xs.getD i.toNat z70
theorem at_T70 {w : World} {A : Option Addr} {n : Nat} {xs : List S70} (h : Kd.C k70 w A n xs) (i : Int) (h0 : 0 ≤ i) (h1 : i < n) : ∃ ad A2 c2 A3 c3, A = some ad ∧ w.cell? (ad.add (i.toNat * 5)) = some (.int .i64 (rd_T70 xs i).f0) ∧ w.cell? ⟨(ad.add (i.toNat * 5)).block, (ad.add (i.toNat * 5)).off + 1, none⟩ = some (.string (rd_T70 xs i).f1) ∧ w.cell? ⟨(ad.add (i.toNat * 5)).block, (ad.add (i.toNat * 5)).off + 2, none⟩ = some (.slice A2 (rd_T70 xs i).f2.length c2) ∧ w.cell? ⟨(ad.add (i.toNat * 5)).block, (ad.add (i.toNat * 5)).off + 3, none⟩ = some (.slice A3 (rd_T70 xs i).f3.length c3) ∧ w.cell? ⟨(ad.add (i.toNat * 5)).block, (ad.add (i.toNat * 5)).off + 4, none⟩ = some (.int .i64 (rd_T70 xs i).f4) ∧ (rd_T70 xs i).f2.length ≤ c2 ∧ k75.C w A2 (rd_T70 xs i).f2.length (rd_T70 xs i).f2 ∧ (rd_T70 xs i).f3.length ≤ c3 ∧ k98.C w A3 (rd_T70 xs i).f3.length (rd_T70 xs i).f3 := by
 obtain ⟨ad, c, e, _, hK, hc0⟩ := Kd.C_get h z70 i h0 h1
 have hc : ∀ j u, c[j]? = some u → w.cell? (ad.add (i.toNat * 5 + j)) = some u := hc0
 obtain ⟨A2, c2, A3, c3, rfl, l2, g2, l3, g3⟩ := k70_open hK
 exact ⟨ad, A2, c2, A3, c3, e, hc 0 _ rfl, by rw [← add_field _ _ 1 (by omega)]; exact hc 1 _ rfl, by rw [← add_field _ _ 2 (by omega)]; exact hc 2 _ rfl, by rw [← add_field _ _ 3 (by omega)]; exact hc 3 _ rfl, by rw [← add_field _ _ 4 (by omega)]; exact hc 4 _ rfl, l2, g2, l3, g3⟩
end Go.Proofs.YtjgomlcdmpcoaaaDoor.D
namespace Go.Proofs.YtjgomlcdmpcoaaaDoor.H
open Go.RowKit Go.Proofs.YtjgomlcdmpcoaaaDoorW.PrintWords Go.Proofs.YtjgomlcdmpcoaaaDoorW.PrintLast Go.Proofs.YtjgomlcdmpcoaaaDoorW.PrintMore
set_option linter.unusedVariables false
def cr1 (c : Int) : Int := if (bits .and .u32 c 1 == 1) = true then bits .xor .u32 (c / 2) 2197175160 else c / 2
def crN : Nat → Int → Int
  | 0, c => c
  | n + 1, c => crN n (cr1 c)
def crB (c b : Int) : Int := crN 8 (bits .xor .u32 c (b % 4294967296))
def crL (c : Int) (l : List UInt8) : Int := l.foldl (fun c b => crB c (b.toNat : Int)) c
def sumI (s : ByteArray) : Int := bits .xor .u32 IntKind.u32.max (crL 4294967295 s.data.toList)
theorem bits_u32 (op : BinOp) (a b : Int) : 0 ≤ bits op .u32 a b ∧ bits op .u32 a b < 4294967296 := by
  have h : ∀ x : Int, 0 ≤ IntKind.u32.wrap x ∧ IntKind.u32.wrap x < 4294967296 := fun x => by rw [IntKind.wrap_u32']; omega
  cases op <;> exact h _
theorem cr1_bd (c : Int) (h0 : 0 ≤ c) (h1 : c < 4294967296) : 0 ≤ cr1 c ∧ cr1 c < 4294967296 := by
  unfold cr1
  split
  · exact bits_u32 _ _ _
  · omega
set_option maxHeartbeats 1000000 in
theorem sum_calls (s : ByteArray) (w : World) (hs : s.size ≤ maxLen) : Calls Tryd.prog 132 #[.string s] w fun e w' => e = .returned (.int .u32 (sumI s)) ∧ w = w' := by
  unfold maxLen at hs
  go_enter Tryd.func132, Tryd.ntmps132
  go_wp2
  go_loop [3, 7] (fun c i => ∃ k : Nat, ∃ x : Int, k ≤ s.size ∧ i = .int .i64 k ∧ c = .int .u32 x ∧ 0 ≤ x ∧ x < 4294967296 ∧ Aside0 (crL 4294967295 s.data.toList = crL x (s.data.toList.drop k))) (fun _ i => s.size - (intOf i).toNat)
  case atStart => exact ⟨0, _, Nat.zero_le _, rfl, rfl, by decide, by decide, ⟨rfl⟩⟩
  case round =>
    obtain ⟨k, x, hk, rfl, rfl, hx0, hx1, HC⟩ := hrel
    by_cases hlt : k < s.size
    · have hd : s.data.toList.drop k = s[k] :: s.data.toList.drop (k + 1) := by
        have := List.drop_eq_getElem_cons (l := s.data.toList) (i := k) (by rw [Array.length_toList]; exact hlt)
        rw [this]; rfl
      rw [hd] at HC
      have hy := bits_u32 .xor x ((s[k].toNat : Int) % 4294967296)
      have HC2 : Aside0 (crL 4294967295 s.data.toList = crL (crN 8 (bits .xor .u32 x ((s[k].toNat : Int) % 4294967296))) (s.data.toList.drop (k + 1))) := ⟨HC.out⟩
      clear HC hd
      have HY := Aside0.mk hy
      clear hy
      go_wp2
      generalize bits .xor .u32 x ((s[k].toNat : Int) % 4294967296) = y at HC2 HY ⊢
      obtain ⟨hy0, hy1⟩ := HY.out
      clear HY
      go_loop [3, 16] (fun c j => ∃ n : Nat, ∃ z : Int, n ≤ 8 ∧ j = .int .i64 n ∧ c = .int .u32 z ∧ 0 ≤ z ∧ z < 4294967296 ∧ Aside0 (crN 8 y = crN (8 - n) z)) (fun _ j => 8 - (intOf j).toNat)
      case atStart => exact ⟨0, _, by decide, rfl, rfl, hy0, hy1, ⟨rfl⟩⟩
      case round =>
        obtain ⟨n, z, hn, rfl, rfl, hz0, hz1, HZ⟩ := hrel
        by_cases hnl : n < 8
        · have e8 : 8 - n = (8 - (n + 1)) + 1 := by omega
          rw [e8] at HZ
          have bd := cr1_bd z hz0 hz1
          have HB := Aside0.mk bd
          clear bd e8
          cases hq : (bits .and .u32 z 1 == 1) with
          | true =>
            have HZ2 : Aside0 (crN 8 y = crN (8 - (n + 1)) (bits .xor .u32 (z / 2) 2197175160) ∧ cr1 z = bits .xor .u32 (z / 2) 2197175160) := ⟨by rw [HZ.out, crN]; unfold cr1; rw [if_pos hq]; exact ⟨rfl, rfl⟩⟩
            clear HZ
            go_wp2
            go_round
            case rel => exact ⟨n + 1, _, by omega, by go_num, rfl, by rw [← HZ2.out.2]; exact HB.out.1, by rw [← HZ2.out.2]; exact HB.out.2, ⟨HZ2.out.1⟩⟩
            case measure => simp [intOf]; omega
          | false =>
            have HZ2 : Aside0 (crN 8 y = crN (8 - (n + 1)) (z / 2) ∧ cr1 z = z / 2) := ⟨by rw [HZ.out, crN]; unfold cr1; rw [if_neg (by rw [hq]; decide)]; exact ⟨rfl, rfl⟩⟩
            clear HZ
            go_wp2
            go_round
            case rel => exact ⟨n + 1, _, by omega, by go_num, rfl, by rw [← HZ2.out.2]; exact HB.out.1, by rw [← HZ2.out.2]; exact HB.out.2, ⟨HZ2.out.1⟩⟩
            case measure => simp [intOf]; omega
        · obtain rfl : n = 8 := by omega
          have hz : crN 8 y = z := HZ.out
          clear HZ hn
          have HZ := Aside0.mk hz
          clear hz
          go_wp2
          go_round
          case rel => exact ⟨k + 1, z, by omega, by go_num, rfl, hz0, hz1, ⟨by rw [HC2.out, HZ.out]⟩⟩
          case measure => simp [intOf]; omega
    · have hd : s.data.toList.drop k = [] := List.drop_eq_nil_of_le (by rw [Array.length_toList]; have : s.data.size = s.size := rfl; omega)
      have HC2 : Aside0 (crL 4294967295 s.data.toList = x) := ⟨by rw [HC.out, hd]; rfl⟩
      clear HC hd
      go_wp2
      go_ret
      exact ⟨by unfold sumI; rw [HC2.out]; rfl, rfl⟩
set_option maxHeartbeats 1000000 in
theorem rsum_calls (s : ByteArray) (w : World) (hs : s.size ≤ maxLen) : Calls Tryd.prog 135 #[.string s] w fun e w' => e = .returned (.int .u32 (sumI s)) ∧ w = w' := by
  unfold maxLen at hs
  go_enter Tryd.func135, Tryd.ntmps135
  go_wp2
  go_loop [3, 4] (fun c i => ∃ k : Nat, ∃ x : Int, k ≤ s.size ∧ i = .int .i64 k ∧ c = .int .u32 x ∧ 0 ≤ x ∧ x < 4294967296 ∧ Aside0 (crL 4294967295 s.data.toList = crL x (s.data.toList.drop k))) (fun _ i => s.size - (intOf i).toNat)
  case atStart => exact ⟨0, _, Nat.zero_le _, rfl, rfl, by decide, by decide, ⟨rfl⟩⟩
  case round =>
    obtain ⟨k, x, hk, rfl, rfl, hx0, hx1, HC⟩ := hrel
    by_cases hlt : k < s.size
    · have hd : s.data.toList.drop k = s[k] :: s.data.toList.drop (k + 1) := by
        have := List.drop_eq_getElem_cons (l := s.data.toList) (i := k) (by rw [Array.length_toList]; exact hlt)
        rw [this]; rfl
      rw [hd] at HC
      have hy := bits_u32 .xor x ((s[k].toNat : Int) % 4294967296)
      have HC2 : Aside0 (crL 4294967295 s.data.toList = crL (crN 8 (bits .xor .u32 x ((s[k].toNat : Int) % 4294967296))) (s.data.toList.drop (k + 1))) := ⟨HC.out⟩
      clear HC hd
      have HY := Aside0.mk hy
      clear hy
      go_wp2
      generalize bits .xor .u32 x ((s[k].toNat : Int) % 4294967296) = y at HC2 HY ⊢
      obtain ⟨hy0, hy1⟩ := HY.out
      clear HY
      go_loop [3, 5] (fun c j => ∃ n : Nat, ∃ z : Int, n ≤ 8 ∧ j = .int .i64 n ∧ c = .int .u32 z ∧ 0 ≤ z ∧ z < 4294967296 ∧ Aside0 (crN 8 y = crN (8 - n) z)) (fun _ j => 8 - (intOf j).toNat)
      case atStart => exact ⟨0, _, by decide, rfl, rfl, hy0, hy1, ⟨rfl⟩⟩
      case round =>
        obtain ⟨n, z, hn, rfl, rfl, hz0, hz1, HZ⟩ := hrel
        by_cases hnl : n < 8
        · have e8 : 8 - n = (8 - (n + 1)) + 1 := by omega
          rw [e8] at HZ
          have bd := cr1_bd z hz0 hz1
          have HB := Aside0.mk bd
          clear bd e8
          cases hq : (bits .and .u32 z 1 == 1) with
          | true =>
            have HZ2 : Aside0 (crN 8 y = crN (8 - (n + 1)) (bits .xor .u32 (z / 2) 2197175160) ∧ cr1 z = bits .xor .u32 (z / 2) 2197175160) := ⟨by rw [HZ.out, crN]; unfold cr1; rw [if_pos hq]; exact ⟨rfl, rfl⟩⟩
            clear HZ
            go_wp2
            go_round
            case rel => exact ⟨n + 1, _, by omega, by go_num, rfl, by rw [← HZ2.out.2]; exact HB.out.1, by rw [← HZ2.out.2]; exact HB.out.2, ⟨HZ2.out.1⟩⟩
            case measure => simp [intOf]; omega
          | false =>
            have HZ2 : Aside0 (crN 8 y = crN (8 - (n + 1)) (z / 2) ∧ cr1 z = z / 2) := ⟨by rw [HZ.out, crN]; unfold cr1; rw [if_neg (by rw [hq]; decide)]; exact ⟨rfl, rfl⟩⟩
            clear HZ
            go_wp2
            go_round
            case rel => exact ⟨n + 1, _, by omega, by go_num, rfl, by rw [← HZ2.out.2]; exact HB.out.1, by rw [← HZ2.out.2]; exact HB.out.2, ⟨HZ2.out.1⟩⟩
            case measure => simp [intOf]; omega
        · obtain rfl : n = 8 := by omega
          have hz : crN 8 y = z := HZ.out
          clear HZ hn
          have HZ := Aside0.mk hz
          clear hz
          go_wp2
          go_round
          case rel => exact ⟨k + 1, z, by omega, by go_num, rfl, hz0, hz1, ⟨by rw [HC2.out, HZ.out]⟩⟩
          case measure => simp [intOf]; omega
    · have hd : s.data.toList.drop k = [] := List.drop_eq_nil_of_le (by rw [Array.length_toList]; have : s.data.size = s.size := rfl; omega)
      have HC2 : Aside0 (crL 4294967295 s.data.toList = x) := ⟨by rw [HC.out, hd]; rfl⟩
      clear HC hd
      go_wp2
      go_ret
      exact ⟨by unfold sumI; rw [HC2.out]; rfl, rfl⟩
end Go.Proofs.YtjgomlcdmpcoaaaDoor.H
namespace Go.Proofs.YtjgomlcdmpcoaaaDoor.H
open Go.RowKit Go.Proofs.YtjgomlcdmpcoaaaDoorW.PrintWords Go.Proofs.YtjgomlcdmpcoaaaDoorW.PrintLast Go.Proofs.YtjgomlcdmpcoaaaDoorW.PrintMore
set_option linter.unusedVariables false
def four (c : Int) : List Int := [c / 16777216, c / 65536 % 256, c / 256 % 256, c % 256]
def sealB (s : ByteArray) : ByteArray := s ++ strOfNums (four (sumI s))
theorem sumI_bd (s : ByteArray) : 0 ≤ sumI s ∧ sumI s < 4294967296 := bits_u32 _ _ _
theorem four_string (c : Int) (w : World) : (convert 61 9 (Value.slice (some { block := w.heap.size, off := 0 }) 4 4)).run Tryd.prog (w.alloc (Obj.cells #[Value.int IntKind.u8 (c / 16777216), Value.int IntKind.u8 (c / 65536 % 256), Value.int IntKind.u8 (c / 256 % 256), Value.int IntKind.u8 (c % 256)] 5)) = .ok (.string (strOfNums (four c))) (w.alloc (Obj.cells #[Value.int IntKind.u8 (c / 16777216), Value.int IntKind.u8 (c / 65536 % 256), Value.int IntKind.u8 (c / 256 % 256), Value.int IntKind.u8 (c % 256)] 5)) :=
  own_string (base := 0) (e' := 5) Tryd.underlying61 Tryd.underlying5 Tryd.underlying9 (World.ownsRow_lit (base := 0) (e := 5) (size := 1) w (nums .u8 (four c)).toArray 4 (Nat.zero_le _) (by decide) (by simp [nums, four]))
set_option maxRecDepth 100000 in
set_option maxHeartbeats 1000000 in
theorem seal_calls (s : ByteArray) (w : World) (hs : s.size + 4 ≤ maxLen) : Calls Tryd.prog 78 #[.string s] w fun e w' => e = .returned (.string (sealB s)) ∧ Below w.heap.size w w' := by
  have hbd := sumI_bd s
  have hc := Lib.hid (sum_calls s w (by unfold maxLen at hs ⊢; omega))
  unfold maxLen at hs
  have hR : sealB s = s ++ strOfNums (four (sumI s)) := rfl
  generalize sealB s = R at hR ⊢
  have HR := Lib.hid hR
  clear hR
  generalize sumI s = c at hbd hc HR
  obtain ⟨h0, h1⟩ := hbd
  have hz4 : (strOfNums (four c)).size = 4 := rfl
  have hz5 : ¬ 2 ^ 63 - 1 < s.size + 4 := by omega
  have hcv := Lib.hid (four_string c w)
  have hcw := hcv.out
  clear hcv
  go_enter Tryd.func78, Tryd.ntmps78
  go_wp2_with (go_at_call 132; refine hc.out.mono ?_; rintro e w' ⟨rfl, rfl⟩)
  go_ret
  refine ⟨?_, below_alloc (Below.refl _ _) _⟩
  rw [HR.out]
  rfl
set_option maxRecDepth 100000 in
set_option maxHeartbeats 1000000 in
theorem rseal_calls (s : ByteArray) (w : World) (hs : s.size + 4 ≤ maxLen) : Calls Tryd.prog 81 #[.string s] w fun e w' => e = .returned (.string (sealB s)) ∧ Below w.heap.size w w' := by
  have hbd := sumI_bd s
  have hc := Lib.hid (rsum_calls s w (by unfold maxLen at hs ⊢; omega))
  unfold maxLen at hs
  have hR : sealB s = s ++ strOfNums (four (sumI s)) := rfl
  generalize sealB s = R at hR ⊢
  have HR := Lib.hid hR
  clear hR
  generalize sumI s = c at hbd hc HR
  obtain ⟨h0, h1⟩ := hbd
  have hz4 : (strOfNums (four c)).size = 4 := rfl
  have hz5 : ¬ 2 ^ 63 - 1 < s.size + 4 := by omega
  have hcv := Lib.hid (four_string c w)
  have hcw := hcv.out
  clear hcv
  go_enter Tryd.func81, Tryd.ntmps81
  go_wp2_with (go_at_call 135; refine hc.out.mono ?_; rintro e w' ⟨rfl, rfl⟩)
  go_ret
  refine ⟨?_, below_alloc (Below.refl _ _) _⟩
  rw [HR.out]
  rfl
end Go.Proofs.YtjgomlcdmpcoaaaDoor.H

namespace Go.Proofs.YtjgomlcdmpcoaaaDoor.H
open Go.RowKit Go.Proofs.YtjgomlcdmpcoaaaDoorW.PrintWords Go.Proofs.YtjgomlcdmpcoaaaDoorW.PrintLast Go.Proofs.YtjgomlcdmpcoaaaDoorW.PrintMore
set_option linter.unusedVariables false
def bl (s : ByteArray) : List Int := s.data.toList.map fun x => (x.toNat : Int)
theorem bl_at (s : ByteArray) (k : Nat) (hk : k < s.size) : ∃ b : UInt8, s.data.toList[k]? = some b ∧ (bl s).getD k 0 = (b.toNat : Int) := by
  have hk' : k < s.data.toList.length := by rw [Array.length_toList]; exact hk
  refine ⟨s.data.toList[k], List.getElem?_eq_getElem hk', ?_⟩
  unfold bl
  rw [List.getD_eq_getElem?_getD, List.getElem?_map, List.getElem?_eq_getElem hk']
  rfl
end Go.Proofs.YtjgomlcdmpcoaaaDoor.H
namespace Go.Proofs.YtjgomlcdmpcoaaaDoor.H
open Go.RowKit Go.Proofs.YtjgomlcdmpcoaaaDoorW.PrintWords Go.Proofs.YtjgomlcdmpcoaaaDoorW.PrintLast Go.Proofs.YtjgomlcdmpcoaaaDoorW.PrintMore
set_option linter.unusedVariables false
def beL (c : Int) (l : List Int) : Int := l.foldl (fun c b => c * 256 + b) c
theorem or_byte (x b : Int) (h0 : 0 ≤ x) (h1 : x < 72057594037927936) (hb : 0 ≤ b) (hb1 : b < 256) : bits .or .u64 (x * 256) b = x * 256 + b := by
  rw [Go.u64_or (x * 256) b (by omega) (by omega) (by omega) (by omega)]
  have e : (x * 256).toNat = 2 ^ 8 * x.toNat := by omega
  rw [e, ← Nat.two_pow_add_eq_or_of_lt (by omega : b.toNat < 2 ^ 8)]
  omega
end Go.Proofs.YtjgomlcdmpcoaaaDoor.H
namespace Go.Proofs.YtjgomlcdmpcoaaaDoor.H
open Go.RowKit Go.Proofs.YtjgomlcdmpcoaaaDoorW.PrintWords Go.Proofs.YtjgomlcdmpcoaaaDoorW.PrintLast Go.Proofs.YtjgomlcdmpcoaaaDoorW.PrintMore
set_option linter.unusedVariables false
def WB (T : TypeId) (w : World) (g : Nat) (bs : List Int) : Prop :=
  ∃ v, w.heap[g]? = some (.cells #[v] T (0, 0)) ∧ w.ownsRow (g + 1) 5 1 v bs.length (nums .u8 bs)
structure Wr (g : Nat) (w w' : World) : Prop where
  below : Below g w w'
  block : ∀ i, i < w.heap.size → i ≠ g → (∀ cs fr, w.heap[i]? ≠ some (.cells cs 5 fr)) → w'.heap[i]? = w.heap[i]?
theorem Wr.refl (g : Nat) (w : World) : Wr g w w := ⟨Below.refl _ _, fun _ _ _ _ => rfl⟩
theorem Wr.trans {g : Nat} {a b c : World} (h : Wr g a b) (k : Wr g b c) : Wr g a c :=
  ⟨h.below.trans k.below, fun i hi hne ht => by
    have e := h.block i hi hne ht
    rw [k.block i (Nat.lt_of_lt_of_le hi h.below.size) hne (fun cs fr => by rw [e]; exact ht cs fr), e]⟩
theorem Wr.of_below {g : Nat} {w w' : World} (h : Below w.heap.size w w') (hg : g ≤ w.heap.size) : Wr g w w' := ⟨h.mono hg, fun i hi _ _ => h.block i hi⟩
theorem Wr.cells {g : Nat} {w w' : World} (h : Wr g w w') {i : Nat} {cs : Array Value} {t : TypeId} {fr : Nat × Nat} (hi : w.heap[i]? = some (.cells cs t fr)) (ht : t ≠ 5) (hne : i ≠ g) : w'.heap[i]? = some (.cells cs t fr) := by
  rw [h.block i (lt_of_block hi) hne (fun cs' fr' e => by rw [hi] at e; injection e with e; injection e with _ e _; exact ht e)]
  exact hi
theorem Wr.size {g : Nat} {w w' : World} (h : Wr g w w') : w.heap.size ≤ w'.heap.size := h.below.size
theorem WB.lt {T : TypeId} {w : World} {g : Nat} {bs : List Int} (h : WB T w g bs) : g < w.heap.size := by
  obtain ⟨v, h, _⟩ := h
  exact lt_of_block h
theorem WB.below {T : TypeId} {w w' : World} {g : Nat} {bs : List Int} (h : WB T w g bs) (hb : Below w.heap.size w w') : WB T w' g bs := by
  obtain ⟨v, h1, h2⟩ := h
  exact ⟨v, blk_below h1 hb, pw_own_below h2 hb⟩
theorem blk_cell {w : World} {i j : Nat} {cs : Array Value} {t : TypeId} {fr : Nat × Nat} {v : Value} (hi : w.heap[i]? = some (.cells cs t fr)) (hj : cs[j]? = some v) : w.cell? ⟨i, j, none⟩ = some v := by
  simp [World.cell?, hi, hj]
theorem own_ne_writer {T : TypeId} {w : World} {g : Nat} {bs : List Int} {v : Value} (h : w.ownsRow (g + 1) 5 1 v bs.length (nums .u8 bs)) : v.ownBlock ≠ some g := by
  rcases h.2 with ⟨rfl, _⟩ | ⟨g', cap, cur, rfl, hg, _⟩
  · simp [Value.ownBlock]
  · simp [Value.ownBlock]; omega
theorem wr_store {T : TypeId} (hT : T ≠ 5) {w W W1 : World} {g : Nat} {bs cs : List Int} {v v' : Value} (hv : w.heap[g]? = some (.cells #[v] T (0, 0))) (ho : w.ownsRow (g + 1) 5 1 v bs.length (nums .u8 bs))
    (hb : Below w.heap.size w W) (hown : W1.ownsRow (g + 1) 5 1 v' (bs.length + cs.length) (nums .u8 bs ++ nums .u8 cs)) (hg : W.grownBy W1 v.ownBlock) :
    WB T (W1.setCell ⟨g, 0, none⟩ v') g (bs ++ cs) ∧ Wr g w (W1.setCell ⟨g, 0, none⟩ v') := by
  have hlt := lt_of_block hv
  have hne := own_ne_writer (T := T) ho
  have hgW : W1.heap[g]? = some (.cells #[v] T (0, 0)) := by
    rw [hg.block g (Nat.lt_of_lt_of_le hlt hb.size) (fun e => hne e.symm), hb.block g hlt]; exact hv
  have e : nums .u8 bs ++ nums .u8 cs = nums .u8 (bs ++ cs) := by simp [nums]
  refine ⟨⟨v', one_setCell hgW, ?_⟩, ?_, ?_⟩
  · rw [List.length_append, ← e]
    exact ownsRow_setCell_other hown (a := ⟨g, 0, none⟩) (own_ne_writer (T := T) (bs := bs ++ cs) (w := W1) (by rw [List.length_append, ← e]; exact hown)) v'
  · refine Below.setCell (p := ⟨g, 0, none⟩) ?_ (Nat.le_refl _) _
    refine ((hb.mono (Nat.le_of_lt hlt)).trans ⟨hg.os, hg.tape, hg.output, hg.size, fun k hk => hg.block k (by have := hb.size; omega) (fun e => ?_)⟩)
    have := own_base ho k e.symm
    omega
  · intro i hi hig ht
    rw [Below.heap_setCell _ _ _ _ hig]
    refine (hg.block i (Nat.lt_of_lt_of_le hi hb.size) (fun e => ?_)).trans (hb.block i hi)
    obtain ⟨cells, hc⟩ := own_typed ho i e.symm
    exact ht _ _ hc
theorem wr_keepB {T : TypeId} {wr W w1 : World} {g : Nat} {v : Value} {bs : List Int} (hv : wr.heap[g]? = some (.cells #[v] T (0, 0))) (ho : wr.ownsRow (g + 1) 5 1 v bs.length (nums .u8 bs)) (hb : Below wr.heap.size wr W) (hg : W.grownBy w1 v.ownBlock) :
    w1.drew.cell? ⟨g, 0, none⟩ = some v ∧ w1.drew.frozen? ⟨g, 0, none⟩ = false := by
  have hlt := lt_of_block hv
  have hgW : w1.heap[g]? = some (.cells #[v] T (0, 0)) := by
    rw [hg.block g (Nat.lt_of_lt_of_le hlt hb.size) (fun e => own_ne_writer (T := T) ho e.symm), hb.block g hlt]; exact hv
  exact ⟨cell_of_one (t := T) hgW, free_of_one (t := T) hgW⟩
theorem wr_keepB' {T : TypeId} {wr W w1 : World} {g : Nat} {v : Value} {bs : List Int} (hv : wr.heap[g]? = some (.cells #[v] T (0, 0))) (ho : wr.ownsRow (g + 1) 5 1 v bs.length (nums .u8 bs)) (hb : Below wr.heap.size wr W) (hg : W.grownBy w1 v.ownBlock) :
    w1.cell? ⟨g, 0, none⟩ = some v ∧ w1.frozen? ⟨g, 0, none⟩ = false := wr_keepB hv ho hb hg
theorem WB.new (T : TypeId) (w : World) : WB T (w.alloc (.cells #[.slice none 0 0] T)) w.heap.size [] :=
  ⟨_, heap_alloc_new w _, by simp [nums], .inl ⟨rfl, rfl⟩⟩
def e8 (n : Int) : List Int := [n / 72057594037927936 % 256, n / 281474976710656 % 256, n / 1099511627776 % 256, n / 4294967296 % 256, n / 16777216 % 256, n / 65536 % 256, n / 256 % 256, n % 256]
theorem e8_len (n : Int) : (e8 n).length = 8 := rfl
end Go.Proofs.YtjgomlcdmpcoaaaDoor.H



namespace Go.Proofs.YtjgomlcdmpcoaaaDoor.H
open Go.RowKit Go.Proofs.YtjgomlcdmpcoaaaDoorW.PrintWords Go.Proofs.YtjgomlcdmpcoaaaDoorW.PrintLast Go.Proofs.YtjgomlcdmpcoaaaDoorW.PrintMore
open Go.Proofs.YtjgomlcdmpcoaaaDoor.D Go.Proofs.YtjgomlcdmpcoaaaDoor
set_option linter.unusedVariables false
theorem e8_get (n : Int) (k : Nat) (hk : k < 8) : IntKind.u8.wrap (n / 2 ^ (8 * (7 - (k : Int))).toNat) = (e8 n).getD k 0 := by
  rw [IntKind.wrap_u8]
  match k, hk with
  | 0, _ => rfl
  | 1, _ => rfl
  | 2, _ => rfl
  | 3, _ => rfl
  | 4, _ => rfl
  | 5, _ => rfl
  | 6, _ => rfl
  | 7, _ => simp [e8]
set_option maxRecDepth 100000 in
set_option maxHeartbeats 4000000 in
theorem word_calls (g : Nat) (bs : List Int) (n : Int) (w : World) (hw : WB 112 w g bs) (hlen : bs.length ≤ 1000000000) :
    Calls Tryd.prog 128 #[.pointer (some ⟨g, 0, none⟩), .int .u64 n] w fun e w' => e = .returned (.tuple #[]) ∧ WB 112 w' g (bs ++ e8 n) ∧ Wr g w w' := by
  obtain ⟨i0, hi0, hz0, hz1, hz2⟩ := info_parts D.info5
  have HW := Aside0.mk hw
  clear hw
  go_enter Tryd.func128, Tryd.ntmps128
  go_wp2
  go_loopg [4, 5] 8 (fun gg _ u5 wr => ∃ k : Nat, k ≤ 8 ∧ 8 - k ≤ gg ∧ u5 = .int .i64 k ∧ Aside0 (WB 112 wr g (bs ++ (e8 n).take k) ∧ Wr g w wr))
  case atStart => exact ⟨0, by omega, by omega, rfl, ⟨by simpa using HW.out, Wr.refl _ _⟩⟩
  case round =>
    obtain ⟨k, hk, hg, rfl, HR⟩ := hrel
    by_cases hlt : k < 8
    · obtain ⟨cur, hcur⟩ : ∃ cur, cur = bs ++ (e8 n).take k := ⟨_, rfl⟩
      rw [← hcur] at HR
      have hL : cur.length + 1 ≤ 140737488355328 := by rw [hcur, List.length_append, List.length_take]; omega
      have hbyte : IntKind.u8.wrap (n / 2 ^ (8 * (7 - (k : Int))).toNat) = (e8 n).getD k 0 := e8_get n k hlt
      have hnext : bs ++ (e8 n).take (k + 1) = cur ++ [(e8 n).getD k 0] := by
        rw [hcur, List.append_assoc, List.take_succ_eq_append_getElem (by rw [e8_len]; exact hlt), List.getD_eq_getElem?_getD, List.getElem?_eq_getElem (by rw [e8_len]; exact hlt)]
        rfl
      have HN := Lib.hid hnext
      have HB := Lib.hid hbyte
      clear hcur hnext hbyte
      obtain ⟨⟨v, hv, ho⟩, hwr⟩ := HR.out
      have c0 := cell_of_one hv
      have f0 := free_of_one hv
      have HV := Aside0.mk hv
      have HO := Aside0.mk ho
      have HWR := Aside0.mk hwr
      clear HR hv ho hwr
      have hL1 : cur.length + 1 ≤ maxLen := by unfold maxLen; omega
      have hL2 : (cur.length + 1) * 1 ≤ 140737488355328 := by omega
      have hL3 : g + 1 ≤ (wr.alloc (Obj.cells #[Value.int IntKind.u8 (IntKind.u8.wrap (n / 2 ^ (8 * (7 - (k : Int))).toNat))] 5)).heap.size := by have := lt_of_block HV.out; simp; omega
      have e1 : IntKind.i64.wrap (7 - (k : Int)) = 7 - (k : Int) := IntWalk.i64_in _ (by omega)
      have e2 : IntKind.i64.wrap (8 * (7 - (k : Int))) = 8 * (7 - (k : Int)) := IntWalk.i64_in _ (by omega)
      have e3 : (0 : Int) ≤ 8 * (7 - (k : Int)) := by omega
      have c2 : ∀ o, (wr.alloc o).cell? ⟨g, 0, none⟩ = some v := fun o => cell_of_one (t := 112) (blk_alloc HV.out o)
      go_wp2_with fail
      go_region_law
        ((refine step_append_lies _ (by rfl) _ _ _ (by rfl) (g + 1) 5 i0 _ 1 1 Tryd.underlying61 hi0 hz0 hz1 hz2 rfl (by omega) v cur.length (nums .u8 cur) (by rfl) (HO.out.alloc _) ⟨wr.heap.size, 0, none⟩ 1 1 (nums .u8 [IntKind.u8.wrap (n / 2 ^ (8 * (7 - (k : Int))).toNat)]) (by rfl) (by rfl) (World.news_of_block (cs := #[_]) (t := 5) (fr := (0, 0)) (heap_alloc_new wr _)) (by simp [nums, Value.oneCell']) (by omega) hL1 hL2 hL3 (wr.heap.size + 1) (by simp) ?_; intro gg cap w1 hown1 hgrow hat hlt1; have c1 := (wr_keepB' HV.out HO.out (below_drew (below_alloc (Below.refl _ _) _)) hgrow).1; have f1 := (wr_keepB' HV.out HO.out (below_drew (below_alloc (Below.refl _ _) _)) hgrow).2))
      all_goals
        have hst := wr_store (T := 112) (by decide) HV.out HO.out (below_drew (below_alloc (Below.refl _ _) _)) hown1 hgrow
        rw [HB.out, ← HN.out] at hst
        have HS := Aside0.mk hst
        clear hst hown1 hgrow e1 e2 e3 c2 hL1 hL2 hL3 hat
        go_wp2
        go_roundg (8 - (k + 1))
        case measure => omega
        case rel => exact ⟨k + 1, by omega, by omega, by go_num, ⟨HS.out.1, HWR.out.trans HS.out.2⟩⟩
    · obtain rfl : k = 8 := by omega
      go_wp2
      go_end0
      exact ⟨rfl, by simpa [e8] using HR.out.1, HR.out.2⟩
def un64 (n : Int) : Int := n % 18446744073709551616
set_option maxHeartbeats 1000000 in
theorem num_calls (g : Nat) (bs : List Int) (n : Int) (w : World) (hw : WB 112 w g bs) (hlen : bs.length ≤ 1000000000) :
    Calls Tryd.prog 76 #[.pointer (some ⟨g, 0, none⟩), .int .i64 n] w fun e w' => e = .returned (.tuple #[]) ∧ WB 112 w' g (bs ++ e8 (un64 n)) ∧ Wr g w w' := by
  have hc := Lib.hid (word_calls g bs (un64 n) w hw hlen)
  clear hw
  go_enter Tryd.func76, Tryd.ntmps76
  go_wp2_with (go_at_call 128; refine hc.out.mono ?_; rintro e w' ⟨rfl, hw1, hw2⟩)
  go_end0
  exact ⟨rfl, hw1, hw2⟩
def tru (b : Bool) : Int := if b then 1 else 0
set_option maxHeartbeats 1000000 in
theorem truth_calls (g : Nat) (bs : List Int) (b : Bool) (w : World) (hw : WB 112 w g bs) (hlen : bs.length ≤ 1000000000) :
    Calls Tryd.prog 131 #[.pointer (some ⟨g, 0, none⟩), .bool b] w fun e w' => e = .returned (.tuple #[]) ∧ WB 112 w' g (bs ++ e8 (tru b)) ∧ Wr g w w' := by
  cases b with
  | true =>
    have hc := Lib.hid (num_calls g bs 1 w hw hlen)
    clear hw
    go_enter Tryd.func131, Tryd.ntmps131
    go_wp2_with (go_at_call 76; refine hc.out.mono ?_; rintro e w' ⟨rfl, hw1, hw2⟩)
    go_end0
    exact ⟨rfl, hw1, hw2⟩
  | false =>
    have hc := Lib.hid (num_calls g bs 0 w hw hlen)
    clear hw
    go_enter Tryd.func131, Tryd.ntmps131
    go_wp2_with (go_at_call 76; refine hc.out.mono ?_; rintro e w' ⟨rfl, hw1, hw2⟩)
    go_end0
    exact ⟨rfl, hw1, hw2⟩
end Go.Proofs.YtjgomlcdmpcoaaaDoor.H

namespace Go.Proofs.YtjgomlcdmpcoaaaDoor.H
open Go.RowKit Go.Proofs.YtjgomlcdmpcoaaaDoorW.PrintWords Go.Proofs.YtjgomlcdmpcoaaaDoorW.PrintLast Go.Proofs.YtjgomlcdmpcoaaaDoorW.PrintMore
open Go.Proofs.YtjgomlcdmpcoaaaDoor.D Go.Proofs.YtjgomlcdmpcoaaaDoor
set_option linter.unusedVariables false
theorem strCells_nums (s : ByteArray) : Lib.strCells s = nums .u8 (bytesOf s) := by
  unfold Lib.strCells nums bytesOf
  rw [List.map_map]
  rfl
def tx (s : ByteArray) : List Int := e8 (un64 s.size) ++ bytesOf s
theorem tx_len (s : ByteArray) : (tx s).length = 8 + s.size := by unfold tx; rw [List.length_append, e8_len, bytesOf_length]
set_option maxRecDepth 100000 in
set_option maxHeartbeats 1000000 in
theorem text_calls (g : Nat) (bs : List Int) (s : ByteArray) (w : World) (hw : WB 112 w g bs) (hlen : bs.length + s.size + 8 ≤ 1000000000) :
    Calls Tryd.prog 129 #[.pointer (some ⟨g, 0, none⟩), .string s] w fun e w' => e = .returned (.tuple #[]) ∧ WB 112 w' g (bs ++ tx s) ∧ Wr g w w' := by
  obtain ⟨i0, hi0, hz0, hz1, hz2⟩ := info_parts D.info5
  have hc := Lib.hid (num_calls g bs s.size w hw (by omega))
  clear hw
  go_enter Tryd.func129, Tryd.ntmps129
  go_wp2_with fail
  refine hc.out.mono ?_
  rintro e w1 ⟨rfl, hw1, hw2⟩
  obtain ⟨cur, hcur⟩ : ∃ cur, bs ++ e8 (un64 s.size) = cur := ⟨_, rfl⟩
  rw [hcur] at hw1
  obtain ⟨v, hv, ho⟩ := hw1
  have hcl : cur.length = bs.length + 8 := by rw [← hcur, List.length_append, e8_len]
  have HCU := Lib.hid hcur
  clear hcur
  have c0 := cell_of_one hv
  have f0 := free_of_one hv
  have HV := Aside0.mk hv
  have HO := Aside0.mk ho
  have HWR := Aside0.mk hw2
  have hL1 : cur.length + s.size ≤ maxLen := by unfold maxLen; omega
  have hL2 : cur.length + s.size ≤ 140737488355328 := by omega
  have hL3 : g + 1 ≤ w1.heap.size := lt_of_block HV.out
  have HCL := Lib.hid hcl
  clear hv ho hw2 hcl
  go_wp2_with (at_builtin; refine Lib.wpList_append_own_string _ rfl _ _ _ _ rfl (g + 1) 5 i0 Tryd.underlying61 Tryd.underlying9 hi0 hz0 hz1 hz2 v cur.length (nums .u8 cur) rfl HO.out s rfl hL1 hL2 hL3 ?_; intro v2 w2 hown hgrow hnil; rw [strCells_nums] at hown; rw [← bytesOf_length s] at hown; have c1 := (wr_keepB' HV.out HO.out (Below.refl _ _) hgrow).1; have f1 := (wr_keepB' HV.out HO.out (Below.refl _ _) hgrow).2; obtain ⟨A, c, rfl⟩ := own_slice hown; have hst := wr_store (T := 112) (by decide) HV.out HO.out (Below.refl _ _) hown hgrow; have HS := Aside0.mk hst; clear hst hown hgrow hnil hL1 hL2 hL3)
  go_end0
  refine ⟨rfl, ?_, HWR.out.trans HS.out.2⟩
  have := HS.out.1
  rw [← HCU.out] at this
  unfold tx
  rw [← List.append_assoc]
  rw [HCU.out] at this ⊢
  exact this
end Go.Proofs.YtjgomlcdmpcoaaaDoor.H
namespace Go.Proofs.YtjgomlcdmpcoaaaDoor.H
open Go.RowKit Go.Proofs.YtjgomlcdmpcoaaaDoorW.PrintWords Go.Proofs.YtjgomlcdmpcoaaaDoorW.PrintLast Go.Proofs.YtjgomlcdmpcoaaaDoorW.PrintMore
open Go.Proofs.YtjgomlcdmpcoaaaDoor.D Go.Proofs.YtjgomlcdmpcoaaaDoor
set_option linter.unusedVariables false
set_option linter.unusedSimpArgs false
theorem wstep {T : TypeId} {g B : Nat} {w0 W W2 : World} {cur cur2 : List Int} {cs : Array Value} {t : TypeId} {fr : Nat × Nat} (h : WB T W g cur ∧ Wr g w0 W ∧ W.heap[B]? = some (.cells cs t fr)) (ht : t ≠ 5) (hne : B ≠ g)
    (ha : WB T W2 g cur2) (hb : Wr g W W2) : WB T W2 g cur2 ∧ Wr g w0 W2 ∧ W2.heap[B]? = some (.cells cs t fr) := ⟨ha, h.2.1.trans hb, hb.cells h.2.2 ht hne⟩
def cells75 (x : S75) : Array Value := #[.int .i64 x.f0, .string x.f1, .int .i64 x.f2, .int .i64 x.f3, .int .i64 x.f4, .int .i64 x.f5.f0, .int .i64 x.f5.f1, .int .u64 x.f5.f2, .string x.f5.f3]
def colL (x : S75) : List Int := e8 (un64 x.f0) ++ (tx x.f1 ++ (e8 (un64 x.f2) ++ (e8 (un64 x.f3) ++ (e8 (un64 x.f4) ++ (e8 (un64 x.f5.f0) ++ (e8 (un64 x.f5.f1) ++ (e8 x.f5.f2 ++ tx x.f5.f3)))))))
theorem colL_len (x : S75) : (colL x).length = 72 + x.f1.size + x.f5.f3.size := by unfold colL; simp only [List.length_append, e8_len, tx_len]; omega
set_option maxRecDepth 100000 in
set_option maxHeartbeats 4000000 in
theorem column_calls (g : Nat) (bs : List Int) (x : S75) (w : World) (hw : WB 112 w g bs) (hlen : bs.length + x.f1.size + x.f5.f3.size + 72 ≤ 1000000000) :
    Calls Tryd.prog 130 #[.pointer (some ⟨g, 0, none⟩), .agg #[.int .i64 x.f0, .string x.f1, .int .i64 x.f2, .int .i64 x.f3, .int .i64 x.f4, .int .i64 x.f5.f0, .int .i64 x.f5.f1, .int .u64 x.f5.f2, .string x.f5.f3]] w
      fun e w' => e = .returned (.tuple #[]) ∧ WB 112 w' g (bs ++ colL x) ∧ Wr g w w' := by
  have hg := hw.lt
  have hBg : w.heap.size ≠ g := by omega
  have HS := Aside0.mk (show WB 112 (w.alloc (.cells (cells75 x) 75)) g bs ∧ Wr g w (w.alloc (.cells (cells75 x) 75)) ∧ (w.alloc (.cells (cells75 x) 75)).heap[w.heap.size]? = some (.cells (cells75 x) 75 (0, 0)) from
    ⟨hw.below (below_alloc (Below.refl _ _) _), Wr.of_below (below_alloc (Below.refl _ _) _) (Nat.le_of_lt hg), heap_alloc_new w _⟩)
  clear hw
  go_enter Tryd.func130, Tryd.ntmps130
  go_wp2_with fail
  refine (num_calls g _ x.f0 _ HS.out.1 (by (try simp only [List.length_append, e8_len, tx_len]); omega)).mono ?_
  rintro e w2 ⟨rfl, ha, hb⟩
  have n_ := Aside0.mk (wstep HS.out (by decide) hBg ha hb)
  clear HS ha hb
  have HS := n_
  clear n_
  have k1 := blk_cell (j := 1) (v := .string x.f1) HS.out.2.2 rfl
  go_wp2_with fail
  refine (text_calls g _ x.f1 _ HS.out.1 (by (try simp only [List.length_append, e8_len, tx_len]); omega)).mono ?_
  rintro e w2 ⟨rfl, ha, hb⟩
  have n_ := Aside0.mk (wstep HS.out (by decide) hBg ha hb)
  clear HS ha hb k1
  have HS := n_
  clear n_
  have k2 := blk_cell (j := 2) (v := .int .i64 x.f2) HS.out.2.2 rfl
  go_wp2_with fail
  refine (num_calls g _ x.f2 _ HS.out.1 (by (try simp only [List.length_append, e8_len, tx_len]); omega)).mono ?_
  rintro e w2 ⟨rfl, ha, hb⟩
  have n_ := Aside0.mk (wstep HS.out (by decide) hBg ha hb)
  clear HS ha hb k2
  have HS := n_
  clear n_
  have k3 := blk_cell (j := 3) (v := .int .i64 x.f3) HS.out.2.2 rfl
  go_wp2_with fail
  refine (num_calls g _ x.f3 _ HS.out.1 (by (try simp only [List.length_append, e8_len, tx_len]); omega)).mono ?_
  rintro e w2 ⟨rfl, ha, hb⟩
  have n_ := Aside0.mk (wstep HS.out (by decide) hBg ha hb)
  clear HS ha hb k3
  have HS := n_
  clear n_
  have k4 := blk_cell (j := 4) (v := .int .i64 x.f4) HS.out.2.2 rfl
  go_wp2_with fail
  refine (num_calls g _ x.f4 _ HS.out.1 (by (try simp only [List.length_append, e8_len, tx_len]); omega)).mono ?_
  rintro e w2 ⟨rfl, ha, hb⟩
  have n_ := Aside0.mk (wstep HS.out (by decide) hBg ha hb)
  clear HS ha hb k4
  have HS := n_
  clear n_
  have k5 := blk_cell (j := 5) (v := .int .i64 x.f5.f0) HS.out.2.2 rfl
  go_wp2_with fail
  refine (num_calls g _ x.f5.f0 _ HS.out.1 (by (try simp only [List.length_append, e8_len, tx_len]); omega)).mono ?_
  rintro e w2 ⟨rfl, ha, hb⟩
  have n_ := Aside0.mk (wstep HS.out (by decide) hBg ha hb)
  clear HS ha hb k5
  have HS := n_
  clear n_
  have k6 := blk_cell (j := 6) (v := .int .i64 x.f5.f1) HS.out.2.2 rfl
  go_wp2_with fail
  refine (word_calls g _ (un64 x.f5.f1) _ HS.out.1 (by (try simp only [List.length_append, e8_len, tx_len]); omega)).mono ?_
  rintro e w2 ⟨rfl, ha, hb⟩
  have n_ := Aside0.mk (wstep HS.out (by decide) hBg ha hb)
  clear HS ha hb k6
  have HS := n_
  clear n_
  have k7 := blk_cell (j := 7) (v := .int .u64 x.f5.f2) HS.out.2.2 rfl
  go_wp2_with fail
  refine (word_calls g _ x.f5.f2 _ HS.out.1 (by (try simp only [List.length_append, e8_len, tx_len]); omega)).mono ?_
  rintro e w2 ⟨rfl, ha, hb⟩
  have n_ := Aside0.mk (wstep HS.out (by decide) hBg ha hb)
  clear HS ha hb k7
  have HS := n_
  clear n_
  have k8 := blk_cell (j := 8) (v := .string x.f5.f3) HS.out.2.2 rfl
  go_wp2_with fail
  refine (text_calls g _ x.f5.f3 _ HS.out.1 (by (try simp only [List.length_append, e8_len, tx_len]); omega)).mono ?_
  rintro e w2 ⟨rfl, ha, hb⟩
  have n_ := Aside0.mk (wstep HS.out (by decide) hBg ha hb)
  clear HS ha hb k8
  have HS := n_
  clear n_
  go_wp2
  go_end0
  refine ⟨rfl, ?_, HS.out.2.1⟩
  have := HS.out.1
  simp only [List.append_assoc] at this
  exact this
end Go.Proofs.YtjgomlcdmpcoaaaDoor.H
namespace Go.Proofs.YtjgomlcdmpcoaaaDoor.H
open Go.RowKit Go.Proofs.YtjgomlcdmpcoaaaDoorW.PrintWords Go.Proofs.YtjgomlcdmpcoaaaDoorW.PrintLast Go.Proofs.YtjgomlcdmpcoaaaDoorW.PrintMore
open Go.Proofs.YtjgomlcdmpcoaaaDoor.D Go.Proofs.YtjgomlcdmpcoaaaDoor
set_option linter.unusedVariables false
set_option linter.unusedSimpArgs false
def St (T : TypeId) (g : Nat) (w0 W : World) (cur : List Int) (L : List (Nat × Array Value × TypeId)) : Prop :=
  WB T W g cur ∧ Wr g w0 W ∧ ∀ p ∈ L, p.2.2 ≠ 5 ∧ p.1 ≠ g ∧ W.heap[p.1]? = some (.cells p.2.1 p.2.2 (0, 0))
section
variable {T : TypeId} {g : Nat} {w0 W W2 : World} {cur cur2 : List Int} {L : List (Nat × Array Value × TypeId)} {p : Nat × Array Value × TypeId}
theorem St.step (h : St T g w0 W cur L) (ha : WB T W2 g cur2) (hb : Wr g W W2) : St T g w0 W2 cur2 L :=
  ⟨ha, h.2.1.trans hb, fun p hp => let q := h.2.2 p hp; ⟨q.1, q.2.1, hb.cells q.2.2 q.1 q.2.1⟩⟩
theorem St.lt (h : St T g w0 W cur L) : g < W.heap.size := h.1.lt
theorem St.box (h : St T g w0 W cur L) (cs : Array Value) (t : TypeId) (ht : t ≠ 5) : St T g w0 (W.alloc (.cells cs t)) cur ((W.heap.size, cs, t) :: L) := by
  have hb := below_alloc (Below.refl _ W) (.cells cs t)
  refine ⟨h.1.below hb, h.2.1.trans (Wr.of_below hb (Nat.le_of_lt h.1.lt)), fun p hp => ?_⟩
  rcases List.mem_cons.1 hp with rfl | hp
  · exact ⟨ht, (Nat.ne_of_lt h.1.lt).symm, heap_alloc_new W _⟩
  · have q := h.2.2 p hp
    exact ⟨q.1, q.2.1, blk_alloc q.2.2 _⟩
theorem St.pop (h : St T g w0 W cur (p :: L)) : St T g w0 W cur L := ⟨h.1, h.2.1, fun q hq => h.2.2 q (List.mem_cons_of_mem _ hq)⟩
theorem St.head (h : St T g w0 W cur (p :: L)) {j : Nat} {v : Value} (hj : p.2.1[j]? = some v) : W.cell? ⟨p.1, j, none⟩ = some v := blk_cell (h.2.2 p List.mem_cons_self).2.2 hj
end
theorem fm_take {α : Type} (f : α → List Int) (l : List α) (k : Nat) (h : k < l.length) : (l.take (k + 1)).flatMap f = (l.take k).flatMap f ++ f l[k] := by
  rw [List.take_succ_eq_append_getElem h, List.flatMap_append]
  simp
theorem fm_le {α : Type} (f : α → List Int) (l : List α) (k : Nat) (h : k < l.length) : ((l.take k).flatMap f).length + (f l[k]).length ≤ (l.flatMap f).length := by
  have h1 := fm_take f l k h
  have h2 : (l.flatMap f).length = ((l.take (k + 1)).flatMap f).length + ((l.drop (k + 1)).flatMap f).length := by
    rw [← List.length_append, ← List.flatMap_append, List.take_append_drop]
  rw [h2, h1, List.length_append]
  omega
def colsL (l : List S75) : List Int := l.flatMap colL
def intL (n : Int) : List Int := e8 (un64 n)
def intsL (l : List Int) : List Int := l.flatMap intL
def indL (x : S98) : List Int := e8 (un64 x.f0) ++ (tx x.f1 ++ (e8 (un64 x.f2.length) ++ (intsL x.f2 ++ (e8 (tru x.f3) ++ e8 (un64 x.f4)))))
def indsL (l : List S98) : List Int := l.flatMap indL
def tabL (t : S70) : List Int := e8 (un64 t.f0) ++ (tx t.f1 ++ (e8 (un64 t.f2.length) ++ (colsL t.f2 ++ (e8 (un64 t.f3.length) ++ (indsL t.f3 ++ e8 (un64 t.f4))))))
theorem indL_len (x : S98) : (indL x).length = 40 + x.f1.size + (intsL x.f2).length := by unfold indL; simp only [List.length_append, e8_len, tx_len]; omega
theorem tabL_len (t : S70) : (tabL t).length = 40 + t.f1.size + (colsL t.f2).length + (indsL t.f3).length := by unfold tabL; simp only [List.length_append, e8_len, tx_len]; omega
set_option maxRecDepth 100000 in
set_option maxHeartbeats 16000000 in
theorem table_calls (W0 : World) (g : Nat) (bs : List Int) (t : S70) (A2 : Option Addr) (c2 : Nat) (A3 : Option Addr) (c3 : Nat) (w : World) (hw : WB 112 w g bs) (h0 : Below W0.heap.size W0 w) (hgW : W0.heap.size ≤ g)
    (h2 : k75.C W0 A2 t.f2.length t.f2) (h3 : k98.C W0 A3 t.f3.length t.f3) (hlen : bs.length + (tabL t).length ≤ 1000000000) :
    Calls Tryd.prog 77 #[.pointer (some ⟨g, 0, none⟩), .agg #[.int .i64 t.f0, .string t.f1, .slice A2 t.f2.length c2, .slice A3 t.f3.length c3, .int .i64 t.f4]] w
      fun e w' => e = .returned (.tuple #[]) ∧ WB 112 w' g (bs ++ tabL t) ∧ Wr g w w' := by
  have HS := Aside0.mk (St.box (w0 := w) (L := []) ⟨hw, Wr.refl _ _, fun p hp => by cases hp⟩ #[.int .i64 t.f0, .string t.f1, .slice A2 t.f2.length c2, .slice A3 t.f3.length c3, .int .i64 t.f4] 70 (by decide))
  have HC := Aside0.mk h2
  have HX := Aside0.mk h3
  have H0 := Aside0.mk h0
  have HL := Lib.hid hlen
  have big2 := h2.2.1
  have big3 := h3.2.1
  clear hw h0 h2 h3 hlen
  go_enter Tryd.func77, Tryd.ntmps77
  go_wp2_with fail
  refine (num_calls g _ t.f0 _ HS.out.1 (by have := HL.out; rw [tabL_len] at this; (try simp only [List.length_append, e8_len, tx_len]); omega)).mono ?_
  rintro e w2 ⟨rfl, ha, hb⟩
  have n_ := Aside0.mk (HS.out.step ha hb)
  clear HS ha hb
  have HS := n_
  clear n_
  have k1 := HS.out.head (j := 1) (v := .string t.f1) rfl
  go_wp2_with fail
  refine (text_calls g _ t.f1 _ HS.out.1 (by have := HL.out; rw [tabL_len] at this; (try simp only [List.length_append, e8_len, tx_len]); omega)).mono ?_
  rintro e w2 ⟨rfl, ha, hb⟩
  have n_ := Aside0.mk (HS.out.step ha hb)
  clear HS ha hb k1
  have HS := n_
  clear n_
  have k1 := HS.out.head (j := 2) (v := .slice A2 t.f2.length c2) rfl
  go_wp2_with fail
  refine (num_calls g _ t.f2.length _ HS.out.1 (by have := HL.out; rw [tabL_len] at this; (try simp only [List.length_append, e8_len, tx_len]); omega)).mono ?_
  rintro e w2 ⟨rfl, ha, hb⟩
  have n_ := Aside0.mk (HS.out.step ha hb)
  clear HS ha hb k1
  have HS := n_
  clear n_
  have k1 := HS.out.head (j := 2) (v := .slice A2 t.f2.length c2) rfl
  go_wp2_with fail
  obtain ⟨cur, hcur⟩ : ∃ cur, bs ++ e8 (un64 t.f0) ++ tx t.f1 ++ e8 (un64 t.f2.length) = cur := ⟨_, rfl⟩
  rw [hcur] at HS
  have hcl : cur.length = bs.length + 24 + t.f1.size := by rw [← hcur]; simp only [List.length_append, e8_len, tx_len]; omega
  have HCL := Lib.hid hcl
  have HCU := Lib.hid hcur
  clear hcl hcur k1
  go_loopg [5, 26] t.f2.length (fun gg _ u26 wr => ∃ kk : Nat, kk ≤ t.f2.length ∧ t.f2.length - kk ≤ gg ∧ u26 = .int .i64 kk ∧ Aside0 (St 112 g w wr (cur ++ colsL (t.f2.take kk)) [(w.heap.size, #[.int .i64 t.f0, .string t.f1, .slice A2 t.f2.length c2, .slice A3 t.f3.length c3, .int .i64 t.f4], 70)]))
  case atStart => exact ⟨0, Nat.zero_le _, by omega, rfl, ⟨by have := HS.out; rw [← List.append_nil cur] at this; exact this⟩⟩
  case round =>
    obtain ⟨kk, hkk, hgg, rfl, HR⟩ := hrel
    clear HS
    by_cases hlt : kk < t.f2.length
    · have hltz : (kk : Int) < (t.f2.length : Int) := by omega
      have hC := Kd.C_below HC.out (H0.out.trans (HR.out.2.1.below.mono hgW))
      obtain ⟨ad, eA, h0, h1, h2, h3, h4, h5, h6, h7, h8⟩ := at_T75 hC (kk : Int) (by omega) (by omega)
      have hx : rd_T75 t.f2 (kk : Int) = t.f2[kk] := by unfold rd_T75; simp [List.getD, hlt]
      rw [hx] at h0 h1 h2 h3 h4 h5 h6 h7 h8
      simp only [Int.toNat_natCast] at h0 h1 h2 h3 h4 h5 h6 h7 h8
      cases eA
      have hT := Lib.hid (fm_take colL t.f2 kk hlt)
      have hE := Lib.hid (fm_le colL t.f2 kk hlt)
      generalize t.f2[kk] = x at h0 h1 h2 h3 h4 h5 h6 h7 h8 hT hE
      have HS := Aside0.mk (HR.out.box (cells75 x) 75 (by decide))
      clear hx hC HR
      go_wp2_with fail
      refine (column_calls g _ x _ HS.out.1 (by have a1 := HL.out; have a2 := HCL.out; have a3 := hE.out; rw [tabL_len] at a1; rw [colL_len] at a3; rw [List.length_append]; unfold colsL at *; omega)).mono ?_
      rintro e w2 ⟨rfl, ha, hb⟩
      have n_ := Aside0.mk (HS.out.step ha hb)
      clear HS ha hb h0 h1 h2 h3 h4 h5 h6 h7 h8
      have HS := n_
      clear n_
      go_wp2
      go_roundg (t.f2.length - (kk + 1))
      case measure => omega
      case rel => exact ⟨kk + 1, by omega, by omega, by go_num, ⟨by have := HS.out.pop; unfold colsL at this ⊢; rw [hT.out, ← List.append_assoc]; exact this⟩⟩
    · have hltz : ¬ (kk : Int) < (t.f2.length : Int) := by omega
      have hS := HR.out
      rw [List.take_of_length_le (by omega)] at hS
      have HS := Aside0.mk hS
      clear HR hS
      obtain ⟨wo, hwo⟩ : ∃ wo : World, wo = wr := ⟨_, rfl⟩
      subst hwo
      have k2 := HS.out.head (j := 3) (v := .slice A3 t.f3.length c3) rfl
      go_wp2_with fail
      refine (num_calls g _ t.f3.length _ HS.out.1 (by have := HL.out; have := HCL.out; rw [tabL_len] at *; (try simp only [List.length_append, e8_len, tx_len]); omega)).mono ?_
      rintro e w2 ⟨rfl, ha, hb⟩
      have n_ := Aside0.mk (HS.out.step ha hb)
      clear HS ha hb k2
      have HS := n_
      clear n_
      have k1 := HS.out.head (j := 3) (v := .slice A3 t.f3.length c3) rfl
      go_wp2_with fail
      obtain ⟨cu2, hcu2⟩ : ∃ cu2, cur ++ colsL t.f2 ++ e8 (un64 t.f3.length) = cu2 := ⟨_, rfl⟩
      rw [hcu2] at HS
      have hcl2 : cu2.length = bs.length + 32 + t.f1.size + (colsL t.f2).length := by rw [← hcu2]; simp only [List.length_append, e8_len, tx_len]; have := HCL.out; omega
      have HCL2 := Lib.hid hcl2
      have HCU2 := Lib.hid hcu2
      clear hcl2 hcu2 k1
      go_loopg [7, 42] t.f3.length (fun gg _ u42 wr => ∃ kk : Nat, kk ≤ t.f3.length ∧ t.f3.length - kk ≤ gg ∧ u42 = .int .i64 kk ∧ Aside0 (St 112 g w wr (cu2 ++ indsL (t.f3.take kk)) [(w.heap.size, #[.int .i64 t.f0, .string t.f1, .slice A2 t.f2.length c2, .slice A3 t.f3.length c3, .int .i64 t.f4], 70)]))
      case atStart => exact ⟨0, Nat.zero_le _, by omega, rfl, ⟨by have := HS.out; rw [← List.append_nil cu2] at this; exact this⟩⟩
      case round =>
        obtain ⟨kk, hkk, hgg, rfl, HR⟩ := hrel
        clear HS
        by_cases hlt : kk < t.f3.length
        · have hltz : (kk : Int) < (t.f3.length : Int) := by omega
          have hBW := H0.out.trans (HR.out.2.1.below.mono hgW)
          obtain ⟨ad, B2, d2, eA, h0, h1, h2, h3, h4, hd2, hcols⟩ := at_T98 HX.out (kk : Int) (by omega) (by omega)
          have hx : rd_T98 t.f3 (kk : Int) = t.f3[kk] := by unfold rd_T98; simp [List.getD, hlt]
          rw [hx] at h0 h1 h2 h3 h4 hd2 hcols
          simp only [Int.toNat_natCast] at h0 h1 h2 h3 h4
          replace h0 := pw_cell_below hBW h0
          replace h1 := pw_cell_below hBW h1
          replace h2 := pw_cell_below hBW h2
          replace h3 := pw_cell_below hBW h3
          replace h4 := pw_cell_below hBW h4
          cases eA
          have hT := Lib.hid (fm_take indL t.f3 kk hlt)
          have hE := Lib.hid (fm_le indL t.f3 kk hlt)
          generalize t.f3[kk] = x at h0 h1 h2 h3 h4 hd2 hcols hT hE
          have HS := Aside0.mk (HR.out.box #[.int .i64 x.f0, .string x.f1, .slice B2 x.f2.length d2, .bool x.f3, .int .i64 x.f4] 98 (by decide))
          have HI := Aside0.mk hcols
          have hbx := hcols.2.1
          have hpre : (cu2 ++ indsL (t.f3.take kk)).length + (indL x).length ≤ 1000000000 := by
            have a1 := HL.out; have a2 := HCL2.out; have a3 := hE.out; rw [tabL_len] at a1; rw [List.length_append]; unfold indsL at *; omega
          obtain ⟨pre, hpr⟩ : ∃ pre, cu2 ++ indsL (t.f3.take kk) = pre := ⟨_, rfl⟩
          rw [hpr] at HS hpre
          have HPR := Lib.hid hpr
          have HPL := Lib.hid hpre
          clear hx hcols HR hBW hpr hpre
          go_wp2_with fail
          refine (num_calls g _ x.f0 _ HS.out.1 (by have := HPL.out; rw [indL_len] at this; (try simp only [List.length_append, e8_len, tx_len]); omega)).mono ?_
          rintro e w2 ⟨rfl, ha, hb⟩
          have n_ := Aside0.mk (HS.out.step ha hb)
          clear HS ha hb h0 h1 h2 h3 h4
          have HS := n_
          clear n_
          have k1 := HS.out.head (j := 1) (v := .string x.f1) rfl
          go_wp2_with fail
          refine (text_calls g _ x.f1 _ HS.out.1 (by have := HPL.out; rw [indL_len] at this; (try simp only [List.length_append, e8_len, tx_len]); omega)).mono ?_
          rintro e w2 ⟨rfl, ha, hb⟩
          have n_ := Aside0.mk (HS.out.step ha hb)
          clear HS ha hb k1
          have HS := n_
          clear n_
          have k1 := HS.out.head (j := 2) (v := .slice B2 x.f2.length d2) rfl
          go_wp2_with fail
          refine (num_calls g _ x.f2.length _ HS.out.1 (by have := HPL.out; rw [indL_len] at this; (try simp only [List.length_append, e8_len, tx_len]); omega)).mono ?_
          rintro e w2 ⟨rfl, ha, hb⟩
          have n_ := Aside0.mk (HS.out.step ha hb)
          clear HS ha hb k1
          have HS := n_
          clear n_
          have k1 := HS.out.head (j := 2) (v := .slice B2 x.f2.length d2) rfl
          go_wp2_with fail
          obtain ⟨cu3, hcu3⟩ : ∃ cu3, pre ++ e8 (un64 x.f0) ++ tx x.f1 ++ e8 (un64 x.f2.length) = cu3 := ⟨_, rfl⟩
          rw [hcu3] at HS
          have hcl3 : cu3.length = pre.length + 24 + x.f1.size := by rw [← hcu3]; simp only [List.length_append, e8_len, tx_len]; omega
          have HCL3 := Lib.hid hcl3
          have HCU3 := Lib.hid hcu3
          clear hcl3 hcu3 k1
          obtain ⟨wq, hwq⟩ : ∃ wq : World, wq = wr := ⟨_, rfl⟩
          subst hwq
          go_loopg [9, 62] x.f2.length (fun gg _ u62 wr => ∃ jj : Nat, jj ≤ x.f2.length ∧ x.f2.length - jj ≤ gg ∧ u62 = .int .i64 jj ∧ Aside0 (St 112 g w wr (cu3 ++ intsL (x.f2.take jj)) [(wq.heap.size, #[.int .i64 x.f0, .string x.f1, .slice B2 x.f2.length d2, .bool x.f3, .int .i64 x.f4], 98), (w.heap.size, #[.int .i64 t.f0, .string t.f1, .slice A2 t.f2.length c2, .slice (some ad) t.f3.length c3, .int .i64 t.f4], 70)]))
          case atStart => exact ⟨0, Nat.zero_le _, by omega, rfl, ⟨by have := HS.out; rw [← List.append_nil cu3] at this; exact this⟩⟩
          case round =>
            obtain ⟨jj, hjj, hjg, rfl, HR⟩ := hrel
            clear HS
            by_cases hlj : jj < x.f2.length
            · have hljz : (jj : Int) < (x.f2.length : Int) := by omega
              obtain ⟨ad3, eB, hcell⟩ := (Kd.reads_of_C (enc := Value.int .i64) (d := (0 : Int)) (h1 := fun _ => rfl) HI.out).at_ (jj : Int) (by omega) (by omega)
              have hy : rdOf (0 : Int) x.f2 (jj : Int) = x.f2[jj] := by simp [rdOf, List.getD, hlj]
              rw [hy, Int.toNat_natCast] at hcell
              replace hcell := pw_cell_below (H0.out.trans (HR.out.2.1.below.mono hgW)) hcell
              cases eB
              have hT3 := Lib.hid (fm_take intL x.f2 jj hlj)
              have hE3 := Lib.hid (fm_le intL x.f2 jj hlj)
              generalize x.f2[jj] = y at hcell hT3 hE3
              have HS := HR
              clear hy HR
              go_wp2_with fail
              refine (num_calls g _ y _ HS.out.1 (by have a1 := HPL.out; have a2 := HCL3.out; have a3 := hE3.out; rw [indL_len] at a1; rw [List.length_append]; unfold intsL at *; have a4 : (intL y).length = 8 := rfl; omega)).mono ?_
              rintro e w2 ⟨rfl, ha, hb⟩
              have n_ := Aside0.mk (HS.out.step ha hb)
              clear HS ha hb hcell
              have HS := n_
              clear n_
              go_wp2
              go_roundg (x.f2.length - (jj + 1))
              case measure => omega
              case rel => exact ⟨jj + 1, by omega, by omega, by go_num, ⟨by have := HS.out; unfold intsL at this ⊢; rw [hT3.out, ← List.append_assoc]; exact this⟩⟩
            · have hljz : ¬ (jj : Int) < (x.f2.length : Int) := by omega
              have hS := HR.out
              rw [List.take_of_length_le (by omega)] at hS
              have HS := Aside0.mk hS
              clear HR hS
              have k2 := HS.out.head (j := 3) (v := .bool x.f3) rfl
              go_wp2_with fail
              refine (truth_calls g _ x.f3 _ HS.out.1 (by have a1 := HPL.out; have a2 := HCL3.out; rw [indL_len] at a1; (try simp only [List.length_append, e8_len, tx_len]); omega)).mono ?_
              rintro e w2 ⟨rfl, ha, hb⟩
              have n_ := Aside0.mk (HS.out.step ha hb)
              clear HS ha hb k2
              have HS := n_
              clear n_
              have k1 := HS.out.head (j := 4) (v := .int .i64 x.f4) rfl
              go_wp2_with fail
              refine (num_calls g _ x.f4 _ HS.out.1 (by have a1 := HPL.out; have a2 := HCL3.out; rw [indL_len] at a1; (try simp only [List.length_append, e8_len, tx_len]); omega)).mono ?_
              rintro e w2 ⟨rfl, ha, hb⟩
              have n_ := Aside0.mk (HS.out.step ha hb)
              clear HS ha hb k1
              have HS := n_
              clear n_
              go_wp2
              go_roundg (t.f3.length - (kk + 1))
              case measure => omega
              case rel =>
                refine ⟨kk + 1, by omega, by omega, by go_num, ⟨?_⟩⟩
                have := HS.out.pop
                rw [← HCU3.out, ← HPR.out] at this
                unfold indsL at this ⊢
                rw [hT.out]
                unfold indL
                simp only [List.append_assoc] at this ⊢
                exact this
        · have hltz : ¬ (kk : Int) < (t.f3.length : Int) := by omega
          have hS := HR.out
          rw [List.take_of_length_le (by omega)] at hS
          have HS := Aside0.mk hS
          clear HR hS
          have k2 := HS.out.head (j := 4) (v := .int .i64 t.f4) rfl
          go_wp2_with fail
          refine (num_calls g _ t.f4 _ HS.out.1 (by have a1 := HL.out; have a2 := HCL2.out; rw [tabL_len] at a1; rw [List.length_append]; omega)).mono ?_
          rintro e w2 ⟨rfl, ha, hb⟩
          have n_ := Aside0.mk (HS.out.step ha hb)
          clear HS ha hb k2
          have HS := n_
          clear n_
          go_wp2
          go_end0
          refine ⟨rfl, ?_, HS.out.2.1⟩
          have := HS.out.1
          rw [← HCU2.out, ← HCU.out] at this
          unfold tabL
          simp only [List.append_assoc] at this ⊢
          exact this
end Go.Proofs.YtjgomlcdmpcoaaaDoor.H
namespace Go.Proofs.YtjgomlcdmpcoaaaDoor.D
open Go.RowKit Go.Proofs.YtjgomlcdmpcoaaaDoorW.PrintWords Go.Proofs.YtjgomlcdmpcoaaaDoorW.PrintLast Go.Proofs.YtjgomlcdmpcoaaaDoorW.PrintMore
attribute [local go_sem] max2_int min2_int max_two min_two max_three min_three max_four min_four
set_option linter.unusedVariables false
set_option linter.unusedSimpArgs false
def falseworkref2_eight.l0 : Nat → Int → List Int → Int → Option (ByteArray)
 | 0, _, _, _ => none
 | k + 1, x0, x3, x4 => if x4 ≥ 0 then (if 0 ≤ x4 then (if x4 < (x3.length : Int) then (falseworkref2_eight.l0 k (x0 / 256) (x3.set (x4 : Int).toNat ((x0) % 256)) (wrap64 (x4 - 1))) else (none)) else (none)) else (some (strOfNums x3))
def falseworkref2_eight.f (k : Nat) (a0 : Int) : Option (ByteArray) := if 8 ≤ 281474976710656 then (falseworkref2_eight.l0 k a0 (List.replicate 8 0) 7) else (none)
theorem falseworkref2_eight.mono_l : ∀ k, (∀ y0 y1 y2, LeO (falseworkref2_eight.l0 k y0 y1 y2) (falseworkref2_eight.l0 (k + 1) y0 y1 y2))
 | 0 => fun _ _ _ r h => by simp [falseworkref2_eight.l0] at h
 | k + 1 => by
  have ih0 := falseworkref2_eight.mono_l k
  ·intro y0 y1 y2
   unfold falseworkref2_eight.l0
   repeat' first
   | (with_reducible exact ih0 _ _ _)
   | (with_reducible exact LeO.refl _)
   | (with_reducible exact LeO.none _)
   | (with_reducible refine LeO.ite ?_ ?_)
   | (with_reducible refine LeO.bind ?_ (fun _ => ?_))
   | exact ih0 _ _ _
   | exact LeO.none _
   | refine LeO.ite ?_ ?_
   | refine LeO.bind ?_ (fun _ => ?_)
theorem falseworkref2_eight.mono : ∀ a0 k, LeO (falseworkref2_eight.f k a0) (falseworkref2_eight.f (k + 1) a0) := by
 intro a0 k
 have ih0 := falseworkref2_eight.mono_l k
 unfold falseworkref2_eight.f
 repeat' first
   | (with_reducible exact ih0 _ _ _)
   | (with_reducible exact LeO.refl _)
   | (with_reducible exact LeO.none _)
   | (with_reducible refine LeO.ite ?_ ?_)
   | (with_reducible refine LeO.bind ?_ (fun _ => ?_))
   | exact ih0 _ _ _
   | exact LeO.none _
   | refine LeO.ite ?_ ?_
   | refine LeO.bind ?_ (fun _ => ?_)
set_option maxHeartbeats 8000000 in
set_option maxRecDepth 100000 in
theorem falseworkref2_eight.calls (k : Nat) (a0 : Int) (r : ByteArray) (w : World) (h : falseworkref2_eight.f k a0 = some r) :
  Calls Tryd.prog 166 #[.int .u64 a0] w fun e w' => e = .returned (.string r) ∧ Below w.heap.size w w' := by
 have HB := Aside0.mk (Below.refl w.heap.size w)
 have H : (if 8 ≤ 281474976710656 then (falseworkref2_eight.l0 k a0 (List.replicate 8 0) 7) else (none)) = some r := h
 clear h; by_cases c2 : 8 ≤ 281474976710656
 ·rw [if_pos c2] at H
  have c2b0 := eq_true c2
  have c2b1 : decide (8 ≤ 281474976710656) = true := decide_eq_true c2
  clear c2; obtain ⟨y367, hy367⟩ : ∃ y_ : List Int, y_ = (List.replicate 8 0) := ⟨_, rfl⟩
  replace H : (falseworkref2_eight.l0 k a0 y367 7) = some r := by first | (rw [hy367]; with_reducible exact H) | (have H2_ := (Option.bind_some _ _).symm.trans H; rw [hy367]; with_reducible exact H2_) | (have H2_ := (Option.bind_some _ _).symm.trans H; with_reducible exact H2_) | with_reducible exact H | (rw [hy367]; exact H) | exact H
  have Ny367 := Aside0.mk hy367; clear hy367; have H' := Aside0.mk H; clear H; go_enter Tryd.func166, Tryd.ntmps166
  go_wp2_with (first | ((with_reducible refine gate_dst (N := 5) rfl ?_); refine Kd.R_make (Kd.int .u8) _ 5 rfl (N := 5) rfl 61 _ _ rfl 8 rfl rfl Tryd.underlying61 (.int .u8 0) 1 info5 rfl (by decide) (by omega) 0 (ok := fun _ => True) (okp := fun _ => True) rfl (fun _ hk => hk) trivial (by omega) (by omega) (Below.refl _ _) (Nat.le_refl _) ?_; intro v368 w3 ho4 hb hg_ hnew_; clear hg_ hnew_; (first | rw [← Ny367.out] at ho4 | (simp only [Int.reduceToNat] at ho4; rw [← Ny367.out] at ho4)); have n0_ := Aside0.mk (Kd.R_lower ho4 (below_size (by repeat (first | (with_reducible first | exact HB.out | apply below_alloc | apply pw_below_drewN | apply below_drew1) | exact HB.out)))); have n1_ := Aside0.mk (below_step (by repeat (first | (with_reducible first | exact HB.out | apply below_alloc | apply pw_below_drewN | apply below_drew1) | exact HB.out)) hb); clear HB; have HO369 := n0_; have HB := n1_; clear n0_ n1_; clear hb ho4))
  go_loopg [0, 4] k (fun kq v0 v4 w' => ∃ (x0_1 : Int) (x3_1 : List Int) (x4_1 : Int), v0 = .int .u64 x0_1 ∧ v4 = .int .i64 x4_1 ∧ Aside0 (falseworkref2_eight.l0 kq x0_1 x3_1 x4_1 = some r) ∧ Aside0 (kq ≤ k) ∧ Aside0 (Kd.R (Kd.int .u8) 5 w' w.heap.size (fun _ => True) v368 x3_1) ∧ Aside0 (Below w.heap.size w w'))
  case atStart => exact ⟨(a0), (y367), (7), (by first | rfl | (simp; done) | (simp [*]; done)), (by first | rfl | (simp; done) | (simp [*]; done)), H', ⟨Nat.le_refl _⟩, ⟨by (with_reducible repeat (first | apply Kd.R_alloc | apply Kd.R_drewN | apply Kd.R_drew)); exact HO369.out⟩, ⟨by repeat (first | (with_reducible first | exact HB.out | apply below_alloc | apply pw_below_drewN | apply below_drew1) | exact HB.out)⟩⟩
  case round =>
   clear H'; (try clear c1); (try clear c2); (try clear c2b0); (try clear c2b1); (try clear p2); obtain ⟨x0_1, x3_1, x4_1, rfl, rfl, HA, HK1, HO_3, HB⟩ := hrel
   cases gk with
   | zero => exact absurd HA.out (by simp [falseworkref2_eight.l0])
   | succ k1 =>
    have H := HA.out; clear HA; simp only [falseworkref2_eight.l0] at H
    by_cases c5 : x4_1 ≥ 0
    ·rw [if_pos c5] at H
     have c5b0 : decide (0 ≤ x4_1) = true := decide_eq_true c5
     clear c5; by_cases c6 : 0 ≤ x4_1
     ·rw [if_pos c6] at H
      have c6b0 : decide (0 ≤ x4_1) = true := decide_eq_true c6
      clear c6; by_cases c7 : x4_1 < (x3_1.length : Int)
      ·rw [if_pos c7] at H
       have c7b0 : decide (x4_1 < (x3_1.length : Int)) = true := decide_eq_true c7
       clear c7; obtain ⟨y370, hy370⟩ : ∃ y_ : List Int, y_ = (x3_1.set (x4_1 : Int).toNat ((x0_1) % 256)) := ⟨_, rfl⟩
       replace H : (falseworkref2_eight.l0 k1 (x0_1 / 256) y370 (wrap64 (x4_1 - 1))) = some r := by first | (rw [hy370]; with_reducible exact H) | (have H2_ := (Option.bind_some _ _).symm.trans H; rw [hy370]; with_reducible exact H2_) | (have H2_ := (Option.bind_some _ _).symm.trans H; with_reducible exact H2_) | with_reducible exact H | (rw [hy370]; exact H) | exact H
       have Ny370 := Aside0.mk hy370; clear hy370; have H' := Aside0.mk H; clear H; have p8 : 0 ≤ (x4_1 : Int) := of_decide_eq_true (by first | (with_reducible assumption) | assumption)
       have q8 : (x4_1 : Int) < ((x3_1.length : Int) : Int) := of_decide_eq_true (by first | (with_reducible assumption) | assumption)
       obtain ⟨go8, co8, eo8, gb8, gl8, cl8, HG8⟩ := Kd.R_form HO_3.out (by omega)
       (first | cases eo8 | (injection eo8 with ea_ en_ ec_; (first | subst ea_ | (injection ea_ with ea_; subst ea_)); subst ec_; clear en_)); have GB8 := Aside0.mk gb8; have GG8 := Aside0.mk HG8
       clear gb8 gl8 HG8; obtain ⟨hx8_0, hf8_0⟩ := Kd.R_celln 0 HO_3.out (x4_1 : Int) p8 q8
       replace p8 := eq_true p8
       replace q8 := eq_true q8
       have HP9 := Kd.R_putg HO_3.out (x4_1 : Int) ((x0_1) % 256)
       go_wp2_with (first | ((with_reducible refine gate_store (t := 5) (p := 14) rfl ?_); refine store_event (t := 5) (p := 14) (v := ?vo_w10) (w1 := (wr.setCell ⟨go8, (x4_1 : Int).toNat, none⟩ (.int .u8 ((x0_1) % 256)))) ?hg ?ho ?hn ?hr ?_; (case ho => rfl); (case hg => rfl); (case hn => rfl); (case hr => first | (go_simp; done) | (go_simp; rfl)); intro w10 hw; have hg : wr.grownBy w10 (some go8) := (by rw [hw]; exact HP9.2); have hp_ : Kd.R (Kd.int .u8) 5 w10 w.heap.size (fun _ => True) (.slice (some ⟨go8, 0, none⟩) x3_1.length co8) y370 := (by rw [hw, Ny370.out]; exact HP9.1); clear HP9; have n0_ := Aside0.mk (hp_); have n1_ := Aside0.mk ((by rw [hw]; exact below_set (HB.out) GB8.out : Below w.heap.size w w10)); clear HO_3; clear HB; have HO_3 := n0_; have HB := n1_; clear n0_ n1_; clear hg hw hp_))
       go_roundg k1
       case measure => have := HK1.out; omega
       case rel => exact ⟨(x0_1 / 256), (y370), (wrap64 (x4_1 - 1)), (by first | rfl | (simp; done) | (simp [*]; done)), (by first | rfl | (simp; done) | (simp [*]; done)), H', ⟨by have := HK1.out; omega⟩, ⟨by (with_reducible repeat (first | apply Kd.R_alloc | apply Kd.R_drewN | apply Kd.R_drew)); exact HO_3.out⟩, ⟨by repeat (first | (with_reducible first | exact HB.out | apply below_alloc | apply pw_below_drewN | apply below_drew1) | exact HB.out)⟩⟩
      ·rw [if_neg c7] at H
       exact absurd H (by simp)
     ·rw [if_neg c6] at H
      exact absurd H (by simp)
    ·rw [if_neg c5] at H
     have c5b0 : decide (0 ≤ x4_1) = false := decide_eq_false c5
     clear c5; obtain rfl := Option.some.inj H; have hcv11 := own_string (P := Tryd.prog) Tryd.underlying61 Tryd.underlying5 Tryd.underlying9 (Kd.own_of_R HO_3.out)
     go_wp2; go_ret; exact ⟨by first | rfl | (simp [errW_none, errW_some] <;> rfl) | (simp [*, errW_none, errW_some] <;> rfl), by repeat (first | (with_reducible first | exact HB.out | apply below_alloc | apply pw_below_drewN | apply below_drew1) | exact HB.out)⟩
 ·rw [if_neg c2] at H
  exact absurd H (by simp)
end Go.Proofs.YtjgomlcdmpcoaaaDoor.D
namespace Go.Proofs.YtjgomlcdmpcoaaaDoor.D
open Go.RowKit Go.Proofs.YtjgomlcdmpcoaaaDoorW.PrintWords Go.Proofs.YtjgomlcdmpcoaaaDoorW.PrintLast Go.Proofs.YtjgomlcdmpcoaaaDoorW.PrintMore
attribute [local go_sem] max2_int min2_int max_two min_two max_three min_three max_four min_four
set_option linter.unusedVariables false
set_option linter.unusedSimpArgs false
def falseworkref2_Eight.f (k : Nat) (a0 : Int) : Option (ByteArray) := (falseworkref2_eight.f k (IntKind.u64.wrap (a0))).bind fun t371 => (some t371)
theorem falseworkref2_Eight.mono : ∀ a0 k, LeO (falseworkref2_Eight.f k a0) (falseworkref2_Eight.f (k + 1) a0) := by
 intro a0 k
 unfold falseworkref2_Eight.f
 repeat' first
   | (with_reducible exact falseworkref2_eight.mono _ _)
   | (with_reducible exact LeO.refl _)
   | (with_reducible exact LeO.none _)
   | (with_reducible refine LeO.ite ?_ ?_)
   | (with_reducible refine LeO.bind ?_ (fun _ => ?_))
   | exact falseworkref2_eight.mono _ _
   | exact LeO.none _
   | refine LeO.ite ?_ ?_
   | refine LeO.bind ?_ (fun _ => ?_)
set_option maxHeartbeats 8000000 in
set_option maxRecDepth 100000 in
theorem falseworkref2_Eight.calls (k : Nat) (a0 : Int) (r : ByteArray) (w : World) (h : falseworkref2_Eight.f k a0 = some r) :
  Calls Tryd.prog 133 #[.int .i64 a0] w fun e w' => e = .returned (.string r) ∧ Below w.heap.size w w' := by
 have HB := Aside0.mk (Below.refl w.heap.size w)
 have H : ((falseworkref2_eight.f k (IntKind.u64.wrap (a0))).bind fun t371 => (some t371)) = some r := h
 clear h; replace H := Option.bind_eq_some_iff.mp H; obtain ⟨t371, A20, H⟩ := H
 replace H : (some t371) = some r := H
 have A2 := Aside0.mk A20; clear A20; obtain rfl := Option.some.inj H; go_enter Tryd.func133, Tryd.ntmps133
 go_wp2_with (first | ((with_reducible refine gate_callee (f := 166) rfl ?_); refine goesL_ (some 5) rfl rfl Tryd.func166 (by kernel_rfl) rfl #[.int .u64 (IntKind.u64.wrap (a0))] rfl (by (try simp only [List.map_toArray, List.map_cons, List.map_nil]); first | done | rfl | (simp only [List.length_drop, List.length_take]; rfl)) ?_; (with_reducible refine (falseworkref2_eight.calls k (IntKind.u64.wrap (a0)) t371 _ A2.out).mono ?_); rintro e w3 ⟨rfl, hb⟩; refine ⟨_, rfl, ?_⟩; have n0_ := Aside0.mk (below_step (by repeat (first | (with_reducible first | exact HB.out | apply below_alloc | apply pw_below_drewN | apply below_drew1) | exact HB.out)) hb); clear HB; have HB := n0_; clear n0_; (try clear hb); (try clear hb2); (try clear hk); (try clear hi)))
 go_ret; exact ⟨by first | rfl | (simp [errW_none, errW_some] <;> rfl) | (simp [*, errW_none, errW_some] <;> rfl), by repeat (first | (with_reducible first | exact HB.out | apply below_alloc | apply pw_below_drewN | apply below_drew1) | exact HB.out)⟩
end Go.Proofs.YtjgomlcdmpcoaaaDoor.D
namespace Go.Proofs.YtjgomlcdmpcoaaaDoor.H
open Go.RowKit Go.Proofs.YtjgomlcdmpcoaaaDoorW.PrintWords Go.Proofs.YtjgomlcdmpcoaaaDoorW.PrintLast Go.Proofs.YtjgomlcdmpcoaaaDoorW.PrintMore
open Go.Proofs.YtjgomlcdmpcoaaaDoor.D Go.Proofs.YtjgomlcdmpcoaaaDoor
set_option linter.unusedVariables false
set_option linter.unusedSimpArgs false
theorem eight_step (k : Nat) (x : Int) (l : List Int) (i : Int) (h0 : 0 ≤ i) (h1 : i < 8) (hl : l.length = 8) : falseworkref2_eight.l0 (k + 1) x l i = falseworkref2_eight.l0 k (x / 256) (l.set i.toNat (x % 256)) (i - 1) := by
  rw [falseworkref2_eight.l0, if_pos (by omega), if_pos h0, if_pos (by omega), show wrap64 (i - 1) = i - 1 by unfold wrap64; omega]
theorem eight_end (k : Nat) (x : Int) (l : List Int) : falseworkref2_eight.l0 (k + 1) x l (-1) = some (strOfNums l) := by
  rw [falseworkref2_eight.l0, if_neg (by decide)]
theorem eight_f (n : Int) : falseworkref2_eight.f 10 n = some (strOfNums (e8 n)) := by
  unfold falseworkref2_eight.f
  rw [if_pos (by decide)]
  rw [eight_step _ _ _ 7 (by decide) (by decide) rfl, eight_step _ _ _ (7 - 1) (by decide) (by decide) rfl, eight_step _ _ _ (7 - 1 - 1) (by decide) (by decide) rfl, eight_step _ _ _ (7 - 1 - 1 - 1) (by decide) (by decide) rfl,
    eight_step _ _ _ (7 - 1 - 1 - 1 - 1) (by decide) (by decide) rfl, eight_step _ _ _ (7 - 1 - 1 - 1 - 1 - 1) (by decide) (by decide) rfl, eight_step _ _ _ (7 - 1 - 1 - 1 - 1 - 1 - 1) (by decide) (by decide) rfl, eight_step _ _ _ (7 - 1 - 1 - 1 - 1 - 1 - 1 - 1) (by decide) (by decide) rfl]
  refine (eight_end 1 _ _).trans ?_
  congr 2
  show [n / 256 / 256 / 256 / 256 / 256 / 256 / 256 % 256, n / 256 / 256 / 256 / 256 / 256 / 256 % 256, n / 256 / 256 / 256 / 256 / 256 % 256, n / 256 / 256 / 256 / 256 % 256, n / 256 / 256 / 256 % 256, n / 256 / 256 % 256, n / 256 % 256, n % 256] = e8 n
  unfold e8
  congr 1
  · omega
  congr 1
  · omega
  congr 1
  · omega
  congr 1
  · omega
  congr 1
  · omega
  congr 1
  · omega
theorem Eight_f (n : Int) : falseworkref2_Eight.f 10 n = some (strOfNums (e8 (un64 n))) := by
  unfold falseworkref2_Eight.f
  rw [show IntKind.u64.wrap n = un64 n from IntKind.wrap_u64 n, eight_f]
  rfl
theorem Eight_calls (n : Int) (w : World) : Calls Tryd.prog 133 #[.int .i64 n] w fun e w' => e = .returned (.string (strOfNums (e8 (un64 n)))) ∧ Below w.heap.size w w' := falseworkref2_Eight.calls 10 n _ w (Eight_f n)
theorem bytes_back (l : List Int) (h : ∀ x ∈ l, 0 ≤ x ∧ x < 256) : bytesOf (strOfNums l) = l := by
  unfold bytesOf
  rw [strOfNums_data, List.map_map]
  refine (List.map_congr_left (g := id) fun x hx => ?_).trans (List.map_id l)
  have := h x hx
  show ((UInt8.ofNat x.toNat).toNat : Int) = x
  rw [UInt8.toNat_ofNat']
  omega
theorem e8_in (n : Int) : ∀ x ∈ e8 n, 0 ≤ x ∧ x < 256 := by
  intro x hx
  simp only [e8, List.mem_cons, List.not_mem_nil, or_false] at hx
  omega
theorem below_of_drew {w w1 : World} (h : Below w.drew.heap.size w.drew w1) : Below w.heap.size w w1 := ⟨h.os, h.tape, h.output, h.size, h.block⟩
theorem step_append_str {P : Program} {ops : Array Oper} {o : Oper} {a : Act} {w : World} {K : Act → World → Prop} {Q : Exit → Act → World → Prop} {E : Prop} (hgd : o.guard = none) (sl x : Operand) (t u : TypeId)
    (ho : o.op = .call { callee := .builtin .append, args := #[sl, x], argTypes := #[t, u] })
    (base : Nat) (e : TypeId) (i : TypeInfo) (ht : P.underlying t = some (.slice e)) (hu : P.underlying u = some .string) (hi : P.info? e = some i) (hz : i.zero = some (.int .u8 0))
    (hsize : i.size = 1) (hby : i.bytes = 1)
    (v : Value) (n : Nat) (xs : List Value) (hs : a.eval sl = v) (hown : w.ownsRow base e 1 v n xs) (s : ByteArray) (hx : a.eval x = .string s)
    (h63 : n + s.size ≤ maxLen) (hbytes : n + s.size ≤ 140737488355328) (hbase : base ≤ w.heap.size)
    (h : ∀ A c w', w'.ownsRow base e 1 (.slice A (n + s.size) c) (n + s.size) (xs ++ nums .u8 (bytesOf s)) → w.grownBy w' v.ownBlock → K (a.put o.dst (.slice A (n + s.size) c)) w') :
    if Region.wanted o (yielded ops a.tmps) = true then Oper.wp P o a w K Q else E := by
  have hw : Region.wanted o (yielded ops a.tmps) = true := by simp [Region.wanted, hgd]
  rw [if_pos hw]
  obtain ⟨v', w', hr, h2, h3, h4⟩ := Lib.run_append_own_string (P := P) w base t u o.type e i ht hu hi hz hsize hby v n xs hown s h63 hbytes hbase
  rw [strCells_nums] at h2
  obtain ⟨A, c, rfl⟩ := own_slice h2
  unfold Oper.wp execOp
  simp only [ho, resolve, invoke, builtin, Sem.run_bind, Sem.run_pure, Result.andThen_ok, List.map_toArray, List.map_cons, List.map_nil, hs, hx, hr]
  exact h A c w' h2 h3
set_option maxRecDepth 100000 in
set_option maxHeartbeats 4000000 in
theorem rnum_calls (g : Nat) (bs : List Int) (n : Int) (w : World) (hw : WB 118 w g bs) (hlen : bs.length ≤ 1000000000) :
    Calls Tryd.prog 79 #[.pointer (some ⟨g, 0, none⟩), .int .i64 n] w fun e w' => e = .returned (.tuple #[]) ∧ WB 118 w' g (bs ++ e8 (un64 n)) ∧ Wr g w w' := by
  obtain ⟨i0, hi0, hz0, hz1, hz2⟩ := info_parts D.info5
  obtain ⟨v, hv, ho⟩ := hw
  have c0 := cell_of_one hv
  have f0 := free_of_one hv
  have HV := Aside0.mk hv
  have HO := Aside0.mk ho
  have h8 : (strOfNums (e8 (un64 n))).size = 8 := rfl
  have hs8 : bytesOf (strOfNums (e8 (un64 n))) = e8 (un64 n) := bytes_back _ (e8_in _)
  obtain ⟨s, hs⟩ : ∃ s, s = strOfNums (e8 (un64 n)) := ⟨_, rfl⟩
  rw [← hs] at h8 hs8
  have HC := Lib.hid (Eight_calls n)
  rw [← hs] at HC
  have H8 := Lib.hid hs8
  have HZ := Lib.hid h8
  have hL1 : bs.length + s.size ≤ maxLen := by unfold maxLen; omega
  have hL2 : bs.length + s.size ≤ 140737488355328 := by omega
  clear hv ho hs h8 hs8
  go_enter Tryd.func79, Tryd.ntmps79
  go_wp2_with fail
  go_region_law (first
    | (go_simp; go_at_call 133; refine (HC.out _).mono ?_; rintro e w1 ⟨rfl, hb0⟩; have hb1 := below_of_drew hb0; have c1 := pw_cell_below hb1 c0)
    | (refine step_append_str (by rfl) _ _ _ _ (by rfl) (g + 1) 5 i0 Tryd.underlying61 Tryd.underlying9 hi0 hz0 hz1 hz2 v bs.length (nums .u8 bs) (by rfl) (pw_own_below HO.out hb1) s (by rfl) hL1 hL2 (Nat.le_trans (lt_of_block HV.out) hb1.size) ?_; intro A c w2 hown hgrow; have c2 := (wr_keepB' HV.out HO.out hb1 hgrow).1; have f2 := (wr_keepB' HV.out HO.out hb1 hgrow).2))
  all_goals
    have hst := wr_store (T := 118) (by decide) HV.out HO.out hb1 (v' := .slice A (bs.length + s.size) c) (cs := bytesOf s) (by rw [bytesOf_length]; exact hown) hgrow
    rw [H8.out] at hst
    have HS := Aside0.mk hst
    clear hst hown hgrow hL1 hL2
    go_wp2
    go_end0
    exact ⟨rfl, HS.out⟩
set_option maxHeartbeats 1000000 in
theorem rtruth_calls (g : Nat) (bs : List Int) (b : Bool) (w : World) (hw : WB 118 w g bs) (hlen : bs.length ≤ 1000000000) :
    Calls Tryd.prog 84 #[.pointer (some ⟨g, 0, none⟩), .bool b] w fun e w' => e = .returned (.tuple #[]) ∧ WB 118 w' g (bs ++ e8 (tru b)) ∧ Wr g w w' := by
  cases b with
  | true =>
    have hc := Lib.hid (rnum_calls g bs 1 w hw hlen)
    clear hw
    go_enter Tryd.func84, Tryd.ntmps84
    go_wp2_with (go_at_call 79; refine hc.out.mono ?_; rintro e w' ⟨rfl, hw1, hw2⟩)
    go_end0
    exact ⟨rfl, hw1, hw2⟩
  | false =>
    have hc := Lib.hid (rnum_calls g bs 0 w hw hlen)
    clear hw
    go_enter Tryd.func84, Tryd.ntmps84
    go_wp2_with (go_at_call 79; refine hc.out.mono ?_; rintro e w' ⟨rfl, hw1, hw2⟩)
    go_end0
    exact ⟨rfl, hw1, hw2⟩
set_option maxRecDepth 100000 in
set_option maxHeartbeats 1000000 in
theorem rtext_calls (g : Nat) (bs : List Int) (s : ByteArray) (w : World) (hw : WB 118 w g bs) (hlen : bs.length + s.size + 8 ≤ 1000000000) :
    Calls Tryd.prog 85 #[.pointer (some ⟨g, 0, none⟩), .string s] w fun e w' => e = .returned (.tuple #[]) ∧ WB 118 w' g (bs ++ tx s) ∧ Wr g w w' := by
  obtain ⟨i0, hi0, hz0, hz1, hz2⟩ := info_parts D.info5
  have hc := Lib.hid (rnum_calls g bs s.size w hw (by omega))
  clear hw
  go_enter Tryd.func85, Tryd.ntmps85
  go_wp2_with fail
  refine hc.out.mono ?_
  rintro e w1 ⟨rfl, hw1, hw2⟩
  obtain ⟨cur, hcur⟩ : ∃ cur, bs ++ e8 (un64 s.size) = cur := ⟨_, rfl⟩
  rw [hcur] at hw1
  obtain ⟨v, hv, ho⟩ := hw1
  have hcl : cur.length = bs.length + 8 := by rw [← hcur, List.length_append, e8_len]
  have HCU := Lib.hid hcur
  clear hcur
  have c0 := cell_of_one hv
  have f0 := free_of_one hv
  have HV := Aside0.mk hv
  have HO := Aside0.mk ho
  have HWR := Aside0.mk hw2
  have hL1 : cur.length + s.size ≤ maxLen := by unfold maxLen; omega
  have hL2 : cur.length + s.size ≤ 140737488355328 := by omega
  have hL3 : g + 1 ≤ w1.heap.size := lt_of_block HV.out
  have HCL := Lib.hid hcl
  clear hv ho hw2 hcl
  go_wp2_with (at_builtin; refine Lib.wpList_append_own_string _ rfl _ _ _ _ rfl (g + 1) 5 i0 Tryd.underlying61 Tryd.underlying9 hi0 hz0 hz1 hz2 v cur.length (nums .u8 cur) rfl HO.out s rfl hL1 hL2 hL3 ?_; intro v2 w2 hown hgrow hnil; rw [strCells_nums] at hown; rw [← bytesOf_length s] at hown; have c1 := (wr_keepB' HV.out HO.out (Below.refl _ _) hgrow).1; have f1 := (wr_keepB' HV.out HO.out (Below.refl _ _) hgrow).2; obtain ⟨A, c, rfl⟩ := own_slice hown; have hst := wr_store (T := 118) (by decide) HV.out HO.out (Below.refl _ _) hown hgrow; have HS := Aside0.mk hst; clear hst hown hgrow hnil hL1 hL2 hL3)
  go_end0
  refine ⟨rfl, ?_, HWR.out.trans HS.out.2⟩
  have := HS.out.1
  rw [← HCU.out] at this
  unfold tx
  rw [← List.append_assoc]
  rw [HCU.out] at this ⊢
  exact this
end Go.Proofs.YtjgomlcdmpcoaaaDoor.H

namespace Go.Proofs.YtjgomlcdmpcoaaaDoor.H
open Go.RowKit Go.Proofs.YtjgomlcdmpcoaaaDoorW.PrintWords Go.Proofs.YtjgomlcdmpcoaaaDoorW.PrintLast Go.Proofs.YtjgomlcdmpcoaaaDoorW.PrintMore
set_option linter.unusedVariables false
set_option maxRecDepth 100000 in
set_option maxHeartbeats 1000000 in
theorem sget_bad (t : ByteArray) (w : World) (hs : t.size ≤ maxLen) (h4 : 4 ≤ t.size) (hb : sealB (t.extract 0 (t.size - 4)) ≠ t) :
    Calls Tryd.prog 86 #[.string t] w fun e w' => e = .returned (.tuple #[.string ⟨#[]⟩, .int .i64 3]) ∧ Below w.heap.size w w' := by
  have hc := Lib.hid (seal_calls (t.extract 0 (t.size - 4)) w (by unfold maxLen at hs ⊢; rw [ByteArray.size_extract]; omega))
  unfold maxLen at hs
  go_enter Tryd.func86, Tryd.ntmps86
  go_wp2_with fail
  refine hc.out.mono ?_
  rintro e w' ⟨rfl, hb1⟩
  have hne : ((sealB (t.extract 0 (t.size - 4))).toList == t.toList) = false := by
    rw [beq_eq_false_iff_ne]
    intro h
    rw [ByteArray.toList_eq, ByteArray.toList_eq] at h
    exact hb (ByteArray.ext (Array.toList_inj.mp h))
  go_wp2
  go_ret2
  exact ⟨rfl, hb1⟩
end Go.Proofs.YtjgomlcdmpcoaaaDoor.H
namespace Go.Proofs.YtjgomlcdmpcoaaaDoor.H
open Go.RowKit Go.Proofs.YtjgomlcdmpcoaaaDoorW.PrintWords Go.Proofs.YtjgomlcdmpcoaaaDoorW.PrintLast Go.Proofs.YtjgomlcdmpcoaaaDoorW.PrintMore
set_option linter.unusedVariables false
set_option maxRecDepth 100000 in
set_option maxHeartbeats 1000000 in
theorem sget_ok (t : ByteArray) (w : World) (hs : t.size ≤ maxLen) (h4 : 4 ≤ t.size) (hb : sealB (t.extract 0 (t.size - 4)) = t) :
    Calls Tryd.prog 86 #[.string t] w fun e w' => e = .returned (.tuple #[.string (t.extract 0 (t.size - 4)), .int .i64 0]) ∧ Below w.heap.size w w' := by
  have hc := Lib.hid (seal_calls (t.extract 0 (t.size - 4)) w (by unfold maxLen at hs ⊢; rw [ByteArray.size_extract]; omega))
  unfold maxLen at hs
  rw [hb] at hc
  clear hb
  go_enter Tryd.func86, Tryd.ntmps86
  go_wp2_with fail
  refine hc.out.mono ?_
  rintro e w' ⟨rfl, hb1⟩
  go_wp2
  go_ret2
  exact ⟨rfl, hb1⟩
set_option maxRecDepth 100000 in
set_option maxHeartbeats 1000000 in
theorem sget_short (t : ByteArray) (w : World) (h4 : t.size < 4) :
    Calls Tryd.prog 86 #[.string t] w fun e w' => e = .returned (.tuple #[.string ⟨#[]⟩, .int .i64 3]) ∧ Below w.heap.size w w' := by
  go_enter Tryd.func86, Tryd.ntmps86
  go_wp2
  go_ret2
  exact ⟨rfl, Below.refl _ _⟩
def isSeal (t : ByteArray) : Prop := 4 ≤ t.size ∧ sealB (t.extract 0 (t.size - 4)) = t
theorem sget_calls (t : ByteArray) (w : World) (hs : t.size ≤ maxLen) :
    (isSeal t ∧ Calls Tryd.prog 86 #[.string t] w fun e w' => e = .returned (.tuple #[.string (t.extract 0 (t.size - 4)), .int .i64 0]) ∧ Below w.heap.size w w') ∨
    (¬ isSeal t ∧ Calls Tryd.prog 86 #[.string t] w fun e w' => e = .returned (.tuple #[.string ⟨#[]⟩, .int .i64 3]) ∧ Below w.heap.size w w') := by
  by_cases h4 : 4 ≤ t.size
  · by_cases hb : sealB (t.extract 0 (t.size - 4)) = t
    · exact .inl ⟨⟨h4, hb⟩, sget_ok t w hs h4 hb⟩
    · exact .inr ⟨fun h => hb h.2, sget_bad t w hs h4 hb⟩
  · exact .inr ⟨fun h => h4 h.1, sget_short t w (by omega)⟩
end Go.Proofs.YtjgomlcdmpcoaaaDoor.H
namespace Go.Proofs.YtjgomlcdmpcoaaaDoor.H
open Go.RowKit Go.Proofs.YtjgomlcdmpcoaaaDoorW.PrintWords Go.Proofs.YtjgomlcdmpcoaaaDoorW.PrintLast Go.Proofs.YtjgomlcdmpcoaaaDoorW.PrintMore
set_option linter.unusedVariables false
set_option linter.unusedSimpArgs false
theorem nums_ext (l1 l2 l3 : List Int) (i j : Nat) (hi : i = l1.length) (hj : j = l1.length + l2.length) : (strOfNums (l1 ++ (l2 ++ l3))).extract i j = strOfNums l2 := by
  subst hi hj
  refine ByteArray.ext (Array.toList_inj.mp ?_)
  rw [ByteArray.data_extract, Array.toList_extract, strOfNums_data, strOfNums_data, List.extract_eq_take_drop, List.map_append, List.map_append, List.drop_left' (by rw [List.length_map]), Nat.add_sub_cancel_left, List.take_left' (by rw [List.length_map])]
theorem strOf_bytes (s : ByteArray) : strOfNums (bytesOf s) = s := by
  refine ByteArray.ext (Array.toList_inj.mp ?_)
  rw [strOfNums_data]
  unfold bytesOf
  rw [List.map_map]
  refine (List.map_congr_left (g := id) fun x _ => ?_).trans (List.map_id _)
  simp
def bodyOf (s : ByteArray) : ByteArray := s.extract 0 (s.size - 4)
end Go.Proofs.YtjgomlcdmpcoaaaDoor.H
namespace Go.Proofs.YtjgomlcdmpcoaaaDoor.H
open Go.RowKit Go.Proofs.YtjgomlcdmpcoaaaDoorW.PrintWords Go.Proofs.YtjgomlcdmpcoaaaDoorW.PrintLast Go.Proofs.YtjgomlcdmpcoaaaDoorW.PrintMore
open Go.Proofs.YtjgomlcdmpcoaaaDoor.D
def Pred {α : Type} (d : Kd α) (g : Nat) (lb : Array Value) (p : α → Bool) (w : World) : Prop :=
  ∀ (W : World) (x : α) (cs : List Value), Below w.heap.size w W → d.K W x cs → Calls Tryd.prog g (#[.agg cs.toArray] ++ lb) W fun e w' => e = .returned (.bool (p x)) ∧ Below w.heap.size w w'
def idxL {α : Type} (p : α → Bool) (l : List α) (i : Nat) : Int := match l with
  | [] => -1
  | x :: l => if p x then (i : Int) else idxL p l (i + 1)
theorem enters {f : FuncId} {fn : Func} {c : Code} (hf : Tryd.prog.funcs[f]? = some fn) (hname : (fn.name == "runtime.NumGoroutine") = false) (hb : fn.body = some c) (args : Array Value) (w : World) :
    (callFunc f args).run Tryd.prog w = .ok (.enter f args) w := by
  have h1 : fn.name ≠ "runtime.NumGoroutine" := by simpa using hname
  simp [callFunc, hf, h1, hb]
set_option maxHeartbeats 4000000 in
set_option maxRecDepth 100000 in
theorem idx75 (g : Nat) (lb : Array Value) (eg : ∀ args w, (callFunc g args).run Tryd.prog w = .ok (.enter g args) w) (p : S75 → Bool) (A : Option Addr) (c : Nat) (xs : List S75) (w : World)
    (hA : Kd.C k75 w A xs.length xs) (hp : Pred k75 g lb p w) :
    Calls Tryd.prog 155 #[.slice A xs.length c, .func (.func g) #[] lb] w fun e w' => e = .returned (.int .i64 (idxL p xs 0)) ∧ Below w.heap.size w w' := by
  have HA := Lib.hid hA
  have hbig := hA.2.1
  have HP := Lib.hid hp
  have HE := Lib.hid eg
  clear hA hp eg
  go_enter Tryd.func155, Tryd.ntmps155
  go_wp2
  go_loopg [5, 8] xs.length (fun gg _ s8 wr => ∃ kk : Nat, kk ≤ xs.length ∧ xs.length - kk ≤ gg ∧ s8 = .int .i64 kk ∧ Aside0 (Below w.heap.size w wr) ∧ Aside0 (idxL p xs 0 = idxL p (xs.drop kk) kk))
  case atStart => exact ⟨0, Nat.zero_le _, by omega, rfl, ⟨Below.refl _ w⟩, ⟨rfl⟩⟩
  case round =>
    obtain ⟨kk, hkk, hg, rfl, BW, hI⟩ := hrel
    by_cases hlt : kk < xs.length
    · have hltz : (kk : Int) < (xs.length : Int) := by omega
      have hd : xs.drop kk = xs[kk] :: xs.drop (kk + 1) := List.drop_eq_getElem_cons hlt
      have hC := Kd.C_below HA.out BW.out
      obtain ⟨ad, eA, h0, h1, h2, h3, h4, h5, h6, h7, h8⟩ := at_T75 hC (kk : Int) (by omega) (by omega)
      have hx : rd_T75 xs (kk : Int) = xs[kk] := by unfold rd_T75; simp [List.getD, hlt]
      rw [hx] at h0 h1 h2 h3 h4 h5 h6 h7 h8
      simp only [Int.toNat_natCast] at h0 h1 h2 h3 h4 h5 h6 h7 h8
      have hcall := HP.out wr xs[kk] _ BW.out (k75_mk _ _)
      generalize xs[kk] = x at hd hcall h0 h1 h2 h3 h4 h5 h6 h7 h8
      rw [hd] at hI
      cases eA
      have HI := Lib.hid hI
      clear hI hd hx
      cases hq : p x with
      | true =>
        rw [hq] at hcall
        have HQ := Lib.hid hq
        clear hq
        have HC := Lib.hid hcall
        clear hcall
        go_wp2_with fail
        rw [HE.out, Oper.upon_enter]
        refine HC.out.mono ?_
        rintro e w' ⟨rfl, hb'⟩
        go_wp2
        go_ret
        refine ⟨?_, hb'⟩
        rw [HI.out.out]
        simp [idxL, HQ.out]
      | false =>
        rw [hq] at hcall
        have HQ := Lib.hid hq
        clear hq
        have HC := Lib.hid hcall
        clear hcall
        go_wp2_with fail
        rw [HE.out, Oper.upon_enter]
        refine HC.out.mono ?_
        rintro e w' ⟨rfl, hb'⟩
        go_wp2
        go_roundg (xs.length - (kk + 1))
        case measure => omega
        case rel =>
          refine ⟨kk + 1, by omega, by omega, by go_num, ⟨hb'⟩, ⟨?_⟩⟩
          rw [HI.out.out]
          simp [idxL, HQ.out]
    · have hltz : ¬ (kk : Int) < (xs.length : Int) := by omega
      have hd : xs.drop kk = [] := List.drop_eq_nil_of_le (by omega)
      rw [hd] at hI
      have HI := Lib.hid hI
      clear hI hd
      go_wp2
      go_ret
      refine ⟨?_, BW.out⟩
      rw [HI.out.out]
      rfl
theorem idxL_any {α : Type} (p : α → Bool) : ∀ (l : List α) (i : Nat), decide (0 ≤ idxL p l i) = l.any p
  | [], i => by simp [idxL]
  | x :: l, i => by
    unfold idxL
    cases h : p x with
    | true => simp [h]
    | false => simp [h, idxL_any p l (i + 1)]
set_option maxHeartbeats 1000000 in
set_option maxRecDepth 100000 in
theorem any75 (g : Nat) (lb : Array Value) (eg : ∀ args w, (callFunc g args).run Tryd.prog w = .ok (.enter g args) w) (p : S75 → Bool) (A : Option Addr) (c : Nat) (xs : List S75) (w : World)
    (hA : Kd.C k75 w A xs.length xs) (hp : Pred k75 g lb p w) :
    Calls Tryd.prog 164 #[.slice A xs.length c, .func (.func g) #[] lb] w fun e w' => e = .returned (.bool (xs.any p)) ∧ Below w.heap.size w w' := by
  have hc := Lib.hid (idx75 g lb eg p A c xs w hA hp)
  have hi := Lib.hid (idxL_any p xs 0)
  clear hA hp eg
  go_enter Tryd.func164, Tryd.ntmps164
  go_wp2_with (go_at_call 155; refine hc.out.mono ?_; rintro e w' ⟨rfl, hb⟩)
  go_ret
  exact ⟨by rw [← hi.out]; rfl, hb⟩
set_option maxHeartbeats 1000000 in
theorem pred165 (id : Int) (B : Nat) (w : World) (hB : B < w.heap.size) (hc : w.cell? ⟨B, 0, none⟩ = some (.int .i64 id)) : Pred k75 165 #[.pointer (some ⟨B, 0, none⟩)] (fun c => c.f0 == id) w := by
  intro W x cs hb hK
  obtain rfl := k75_open hK
  have hc' := (hb.cell (p := ⟨B, 0, none⟩) hB).trans hc
  have hl : B < W.heap.size := Nat.lt_of_lt_of_le hB hb.size
  show Calls Tryd.prog 165 #[.agg #[.int .i64 x.f0, .string x.f1, .int .i64 x.f2, .int .i64 x.f3, .int .i64 x.f4, .int .i64 x.f5.f0, .int .i64 x.f5.f1, .int .u64 x.f5.f2, .string x.f5.f3], .pointer (some ⟨B, 0, none⟩)] W _
  have HB := Aside0.mk hb
  clear hb hc hK
  go_enter Tryd.func165, Tryd.ntmps165
  go_wp2
  go_ret
  exact ⟨rfl, HB.out.alloc HB.out.size _⟩
end Go.Proofs.YtjgomlcdmpcoaaaDoor.H
namespace Go.Proofs.YtjgomlcdmpcoaaaDoor.D
open Go.RowKit Go.Proofs.YtjgomlcdmpcoaaaDoorW.PrintWords Go.Proofs.YtjgomlcdmpcoaaaDoorW.PrintLast Go.Proofs.YtjgomlcdmpcoaaaDoorW.PrintMore
attribute [local go_sem] max2_int min2_int max_two min_two max_three min_three max_four min_four
set_option linter.unusedVariables false
set_option linter.unusedSimpArgs false
def slices_Index_string_string.l0 : Nat → List ByteArray → ByteArray → Int → Int → Option (Int)
 | 0, _, _, _, _ => none
 | k + 1, x0, x1, x7, x8 => if x8 < x7 then (if 0 ≤ x8 then (if x8 < (x0.length : Int) then (if x1.toList = (rdOf ByteArray.empty x0 x8).toList then (some x8) else (slices_Index_string_string.l0 k x0 x1 x7 (wrap64 (x8 + 1)))) else (none)) else (none)) else (some (-1))
def slices_Index_string_string.f (k : Nat) (l0 : List ByteArray) (a1 : ByteArray) : Option (Int) := slices_Index_string_string.l0 k l0 a1 (l0.length : Int) 0
theorem slices_Index_string_string.mono_l : ∀ k, (∀ y0 y1 y2 y3, LeO (slices_Index_string_string.l0 k y0 y1 y2 y3) (slices_Index_string_string.l0 (k + 1) y0 y1 y2 y3))
 | 0 => fun _ _ _ _ r h => by simp [slices_Index_string_string.l0] at h
 | k + 1 => by
  have ih0 := slices_Index_string_string.mono_l k
  ·intro y0 y1 y2 y3
   unfold slices_Index_string_string.l0
   repeat' first
   | (with_reducible exact ih0 _ _ _ _)
   | (with_reducible exact LeO.refl _)
   | (with_reducible exact LeO.none _)
   | (with_reducible refine LeO.ite ?_ ?_)
   | (with_reducible refine LeO.bind ?_ (fun _ => ?_))
   | exact ih0 _ _ _ _
   | exact LeO.none _
   | refine LeO.ite ?_ ?_
   | refine LeO.bind ?_ (fun _ => ?_)
theorem slices_Index_string_string.mono : ∀ a0 a1 k, LeO (slices_Index_string_string.f k a0 a1) (slices_Index_string_string.f (k + 1) a0 a1) := by
 intro a0 a1 k
 have ih0 := slices_Index_string_string.mono_l k
 unfold slices_Index_string_string.f
 repeat' first
   | (with_reducible exact ih0 _ _ _ _)
   | (with_reducible exact LeO.refl _)
   | (with_reducible exact LeO.none _)
   | (with_reducible refine LeO.ite ?_ ?_)
   | (with_reducible refine LeO.bind ?_ (fun _ => ?_))
   | exact ih0 _ _ _ _
   | exact LeO.none _
   | refine LeO.ite ?_ ?_
   | refine LeO.bind ?_ (fun _ => ?_)
set_option maxHeartbeats 8000000 in
set_option maxRecDepth 100000 in
theorem slices_Index_string_string.calls (k : Nat) (A0 : Option Addr) (c0 : Nat) (l0 : List ByteArray) (a1 : ByteArray) (r : Int) (w : World) (hr0 : Kd.C Kd.string w A0 l0.length l0) (hc0 : l0.length ≤ c0) (h : slices_Index_string_string.f k l0 a1 = some r) :
  Calls Tryd.prog 119 #[.slice A0 l0.length c0, .string a1] w fun e w' => e = .returned (.int .i64 r) ∧ Drawn0 w w' := by
 have HR0 := Aside0.mk hr0; have HC0 := Aside0.mk hc0; clear hr0 hc0; have H : (slices_Index_string_string.l0 k l0 a1 (l0.length : Int) 0) = some r := h
 clear h; have H' := Aside0.mk H; clear H; go_enter Tryd.func119, Tryd.ntmps119
 go_wp2; go_loopg [8] k (fun kq v8 w' => ∃ (x8_1 : Int), v8 = .int .i64 x8_1 ∧ Aside0 (slices_Index_string_string.l0 kq l0 a1 (l0.length : Int) x8_1 = some r) ∧ Aside0 (kq ≤ k) ∧ Drawn0 w w')
 case atStart => exact ⟨(0), (by first | rfl | (simp; done) | (simp [*]; done)), H', ⟨Nat.le_refl _⟩, by repeat (first | exact Drawn0.refl _ | apply Drawn0.step)⟩
 case round =>
  clear H'; (try clear c1); (try clear p2); obtain ⟨x8_1, rfl, HA, HK1, ⟨m1, rfl⟩⟩ := hrel
  cases gk with
  | zero => exact absurd HA.out (by simp [slices_Index_string_string.l0])
  | succ k1 =>
   have H := HA.out; clear HA; simp only [slices_Index_string_string.l0] at H
   by_cases c3 : x8_1 < (l0.length : Int)
   ·rw [if_pos c3] at H
    have c3b0 : decide (x8_1 < (l0.length : Int)) = true := decide_eq_true c3
    clear c3; by_cases c4 : 0 ≤ x8_1
    ·rw [if_pos c4] at H
     have c4b0 : decide (0 ≤ x8_1) = true := decide_eq_true c4
     clear c4; by_cases c5 : x8_1 < (l0.length : Int)
     ·rw [if_pos c5] at H
      have c5b0 : decide (x8_1 < (l0.length : Int)) = true := decide_eq_true c5
      clear c5; by_cases c6 : a1.toList = (rdOf ByteArray.empty l0 x8_1).toList
      ·rw [if_pos c6] at H
       have c6b0 : (a1.toList == (rdOf ByteArray.empty l0 x8_1).toList) = true := beq_iff_eq.mpr c6
       have c6b1 : (a1.toList != (rdOf ByteArray.empty l0 x8_1).toList) = false := bne_eq_false_iff_eq.mpr c6
       clear c6; obtain rfl := Option.some.inj H; have p105 : 0 ≤ (x8_1 : Int) := of_decide_eq_true (by first | (with_reducible assumption) | assumption)
       have q105 : x8_1 < (l0.length : Int) := of_decide_eq_true (by first | (with_reducible assumption) | assumption)
       obtain ⟨ad105, e105, hx105_0⟩ := Kd.at_string HR0.out x8_1 p105 q105
       cases e105
       replace p105 := eq_true p105
       replace q105 := eq_true q105
       go_wp2; go_ret; exact ⟨by first | rfl | (simp; done) | (simp [*]; done), by repeat (first | exact Drawn0.refl _ | apply Drawn0.step)⟩
      ·rw [if_neg c6] at H
       have c6b0 : (a1.toList == (rdOf ByteArray.empty l0 x8_1).toList) = false := beq_eq_false_iff_ne.mpr c6
       have c6b1 : (a1.toList != (rdOf ByteArray.empty l0 x8_1).toList) = true := bne_iff_ne.mpr c6
       have H' := Aside0.mk H; clear H; have p105 : 0 ≤ (x8_1 : Int) := of_decide_eq_true (by first | (with_reducible assumption) | assumption)
       have q105 : x8_1 < (l0.length : Int) := of_decide_eq_true (by first | (with_reducible assumption) | assumption)
       obtain ⟨ad105, e105, hx105_0⟩ := Kd.at_string HR0.out x8_1 p105 q105
       cases e105
       replace p105 := eq_true p105
       replace q105 := eq_true q105
       go_wp2; go_roundg k1
       case measure => have := HK1.out; omega
       case rel => exact ⟨(wrap64 (x8_1 + 1)), (by first | rfl | (simp; done) | (simp [*]; done)), H', ⟨by have := HK1.out; omega⟩, by repeat (first | exact Drawn0.refl _ | apply Drawn0.step)⟩
     ·rw [if_neg c5] at H
      exact absurd H (by simp)
    ·rw [if_neg c4] at H
     exact absurd H (by simp)
   ·rw [if_neg c3] at H
    have c3b0 : decide (x8_1 < (l0.length : Int)) = false := decide_eq_false c3
    clear c3; obtain rfl := Option.some.inj H; go_wp2; go_ret; exact ⟨by first | rfl | (simp; done) | (simp [*]; done), by repeat (first | exact Drawn0.refl _ | apply Drawn0.step)⟩
end Go.Proofs.YtjgomlcdmpcoaaaDoor.D
