/-
  No cell of these rows narrows 'for every input' (looked for: loops, veiled, ifaces, maps, wideKeys, modest, calm, conditions, laid).
  DERIVED. THE GIVEN ROWS OF THIS SEAT. 4 by the template 'for every input the law returns true; each argument reads behind the call as it read before'; 0 by the template 'total and deterministic' (their statements: YtiblfcbggjbmcaaTotals.lean).
  GIVEN WITH THE SEED: the statements are not yours to turn. If you find one false, say at which input.
  Laid BY PROGRAM, IN A SANDBOX (cutbox-rows.mjs): the forced cells as the released guide's own fill.sh prints them over the translation 850a882a624da87f… (all of the seat's roots in one cut). By AI agents, Wed Nov 11 2026. No macro, syntax, notation, axiom, sorry.
-/
import Derived.Test.YtiblfcbggjbmcaaChecked
import GoSem.Claim
import GoSem.ClaimJoined
import GoSem.ClaimMapViews
import Derived.JoinedTies
import Derived.KernelRfl
namespace Go.Proofs.Ytiblfcbggjbmcaa
/- THE CELL 'sum', in the pinned program and in every row, IS THE sha256 OF THE DUMP (.gsa) THAT YtiblfcbggjbmcaaProg.lean LOADS. Nothing in Lean hashes anything: it is a label: what it is worth is what the hold of that sum in a sandbox is worth. -/
noncomputable def Try.pinned : Pinned := { name := "ytiblfcbggjbmcaa", sum := "850a882a624da87f5100d8d76c7df26d0a6831335d4218ca0e8c15bb52ab3f08", checked := Try.checked }
namespace Rows
def none {H : Type} : Left H := { results := [], args := [] }

/-- 'falseworklaw20.LeaseGrants': WHATEVER THE INPUT: true; the input reads as it did. -/
def leaseGrantsSpec : ChangeSpec := { name := "leaseGrants", fn := fun _ => fun
  | [d1, d2] => { results := [.lit (.bool true)], args := [d1, d2] }
  | _ => none }
def leaseGrantsRow : OpenClaim := { program := "ytiblfcbggjbmcaa", sum := "850a882a624da87f5100d8d76c7df26d0a6831335d4218ca0e8c15bb52ab3f08", func := "falsework/falseworklaw20.LeaseGrants", spec := "leaseGrants", apart := false }
def LeaseGrantsSaid : Prop := leaseGrantsRow.holds Try.pinned (OpenSpec.ofChange leaseGrantsSpec)

/-- ITS FALSE NEIGHBOUR: 'it returns false'. Refute it at one input. -/
def leaseGrantsWrong : ChangeSpec := { name := "leaseGrants", fn := fun _ => fun
  | [d1, d2] => { results := [.lit (.bool false)], args := [d1, d2] }
  | _ => none }
def LeaseGrantsWrongFalsely : Prop := leaseGrantsRow.holds Try.pinned (OpenSpec.ofChange leaseGrantsWrong)

/-- 'falseworklaw20.LeaseGoods': WHATEVER THE INPUT: true; the input reads as it did. -/
def leaseGoodsSpec : ChangeSpec := { name := "leaseGoods", fn := fun _ => fun
  | [d1, d2] => { results := [.lit (.bool true)], args := [d1, d2] }
  | _ => none }
def leaseGoodsRow : OpenClaim := { program := "ytiblfcbggjbmcaa", sum := "850a882a624da87f5100d8d76c7df26d0a6831335d4218ca0e8c15bb52ab3f08", func := "falsework/falseworklaw20.LeaseGoods", spec := "leaseGoods", apart := false }
def LeaseGoodsSaid : Prop := leaseGoodsRow.holds Try.pinned (OpenSpec.ofChange leaseGoodsSpec)

/-- ITS FALSE NEIGHBOUR: 'it returns false'. Refute it at one input. -/
def leaseGoodsWrong : ChangeSpec := { name := "leaseGoods", fn := fun _ => fun
  | [d1, d2] => { results := [.lit (.bool false)], args := [d1, d2] }
  | _ => none }
def LeaseGoodsWrongFalsely : Prop := leaseGoodsRow.holds Try.pinned (OpenSpec.ofChange leaseGoodsWrong)

/-- 'falseworklaw20.LeaseAfters': WHATEVER THE INPUT: true; the input reads as it did. -/
def leaseAftersSpec : ChangeSpec := { name := "leaseAfters", fn := fun _ => fun
  | [d] => { results := [.lit (.bool true)], args := [d] }
  | _ => none }
def leaseAftersRow : OpenClaim := { program := "ytiblfcbggjbmcaa", sum := "850a882a624da87f5100d8d76c7df26d0a6831335d4218ca0e8c15bb52ab3f08", func := "falsework/falseworklaw20.LeaseAfters", spec := "leaseAfters", apart := false }
def LeaseAftersSaid : Prop := leaseAftersRow.holds Try.pinned (OpenSpec.ofChange leaseAftersSpec)

/-- ITS FALSE NEIGHBOUR: 'it returns false'. Refute it at one input. -/
def leaseAftersWrong : ChangeSpec := { name := "leaseAfters", fn := fun _ => fun
  | [d] => { results := [.lit (.bool false)], args := [d] }
  | _ => none }
def LeaseAftersWrongFalsely : Prop := leaseAftersRow.holds Try.pinned (OpenSpec.ofChange leaseAftersWrong)

/-- 'falseworklaw20.LeaseApart': WHATEVER THE INPUT: true; the input reads as it did. -/
def leaseApartSpec : ChangeSpec := { name := "leaseApart", fn := fun _ => fun
  | [d1, d2, d3, d4] => { results := [.lit (.bool true)], args := [d1, d2, d3, d4] }
  | _ => none }
def leaseApartRow : OpenClaim := { program := "ytiblfcbggjbmcaa", sum := "850a882a624da87f5100d8d76c7df26d0a6831335d4218ca0e8c15bb52ab3f08", func := "falsework/falseworklaw20.LeaseApart", spec := "leaseApart", apart := false }
def LeaseApartSaid : Prop := leaseApartRow.holds Try.pinned (OpenSpec.ofChange leaseApartSpec)

/-- ITS FALSE NEIGHBOUR: 'it returns false'. Refute it at one input. -/
def leaseApartWrong : ChangeSpec := { name := "leaseApart", fn := fun _ => fun
  | [d1, d2, d3, d4] => { results := [.lit (.bool false)], args := [d1, d2, d3, d4] }
  | _ => none }
def LeaseApartWrongFalsely : Prop := leaseApartRow.holds Try.pinned (OpenSpec.ofChange leaseApartWrong)

/- THE SECOND FORM. 'bulk': how many values and letters a reading holds, each counted each time it is reached (what is shared counts as often as it is met; a slice's spare places count too). A statement '..UptoSaid' is the law's where the arguments, and the package variables that the reading takes, are together of bulk at most 1048576: NARROWER than '..Said'. Prove '..Said' where nothing that the law and all that it calls make is longer than what came in: it says more and counts as full. Else prove '..UptoSaid'. A law counts once. -/
mutual
def uptoBulk {H : Type} : DataW H → Nat
  | .lit (.string bytes) => bytes.length + 1
  | .lit _ => 1
  | .nil => 1
  | .ptr d => uptoBulk d + 1
  | .slice elems spare => uptoBulkAll elems + uptoBulkAll spare + 1
  | .agg parts => uptoBulkAll parts + 1
  | .iface _ d => uptoBulk d + 1
  | .map entries => uptoBulkEntries entries + 1
  | .held _ => 1
def uptoBulkAll {H : Type} : List (DataW H) → Nat
  | [] => 0
  | d :: r => uptoBulk d + uptoBulkAll r
def uptoBulkEntries {H : Type} : List (Lit × DataW H) → Nat
  | [] => 0
  | x :: r => uptoBulkEntry x + uptoBulkEntries r
def uptoBulkEntry {H : Type} : Lit × DataW H → Nat
  | (.string bytes, d) => bytes.length + uptoBulk d + 1
  | (_, d) => uptoBulk d + 1
 end
def uptoSmall : (H : Type) → List (DataW H) → Bool := fun _ ds => decide (uptoBulkAll ds ≤ 1048576)
def OpenSpec.upto (s : _root_.Go.ChangeSpec) : _root_.Go.OpenSpec := { _root_.Go.OpenSpec.ofChange s with cond := some uptoSmall }

/-- 'falseworklaw20.LeaseGrants', WHERE WHAT IT READS IS OF BULK AT MOST 1048576: true; the input reads as it did. -/
def leaseGrantsUptoRow : OpenClaim := { program := "ytiblfcbggjbmcaa", sum := "850a882a624da87f5100d8d76c7df26d0a6831335d4218ca0e8c15bb52ab3f08", func := "falsework/falseworklaw20.LeaseGrants", spec := "leaseGrants", apart := false, narrowed := true }
def LeaseGrantsUptoSaid : Prop := leaseGrantsUptoRow.holds Try.pinned (OpenSpec.upto leaseGrantsSpec)

/-- 'falseworklaw20.LeaseGoods', WHERE WHAT IT READS IS OF BULK AT MOST 1048576: true; the input reads as it did. -/
def leaseGoodsUptoRow : OpenClaim := { program := "ytiblfcbggjbmcaa", sum := "850a882a624da87f5100d8d76c7df26d0a6831335d4218ca0e8c15bb52ab3f08", func := "falsework/falseworklaw20.LeaseGoods", spec := "leaseGoods", apart := false, narrowed := true }
def LeaseGoodsUptoSaid : Prop := leaseGoodsUptoRow.holds Try.pinned (OpenSpec.upto leaseGoodsSpec)

/-- 'falseworklaw20.LeaseAfters', WHERE WHAT IT READS IS OF BULK AT MOST 1048576: true; the input reads as it did. -/
def leaseAftersUptoRow : OpenClaim := { program := "ytiblfcbggjbmcaa", sum := "850a882a624da87f5100d8d76c7df26d0a6831335d4218ca0e8c15bb52ab3f08", func := "falsework/falseworklaw20.LeaseAfters", spec := "leaseAfters", apart := false, narrowed := true }
def LeaseAftersUptoSaid : Prop := leaseAftersUptoRow.holds Try.pinned (OpenSpec.upto leaseAftersSpec)

/-- 'falseworklaw20.LeaseApart', WHERE WHAT IT READS IS OF BULK AT MOST 1048576: true; the input reads as it did. -/
def leaseApartUptoRow : OpenClaim := { program := "ytiblfcbggjbmcaa", sum := "850a882a624da87f5100d8d76c7df26d0a6831335d4218ca0e8c15bb52ab3f08", func := "falsework/falseworklaw20.LeaseApart", spec := "leaseApart", apart := false, narrowed := true }
def LeaseApartUptoSaid : Prop := leaseApartUptoRow.holds Try.pinned (OpenSpec.upto leaseApartSpec)

end Rows
end Go.Proofs.Ytiblfcbggjbmcaa
