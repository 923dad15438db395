/- The law LeaseGoods: whether any lease is good at any time is the document's: it returns true at every lease and every time, and leaves what it is handed. No condition. -/
import Derived.Test.YtiblfcbggjbmcaaRows
import Derived.Test.YtiblfcbggjbmcaaPLeaseGoodsx1
import Derived.WalkKit
import Derived.ProofKit
import Derived.OpenShut
import Derived.ShutString
import Derived.ChangeOld
import Derived.Below
import Derived.SizedLaws
import Derived.Lib.SmallJoins
namespace Go.Proofs.Ytiblfcbggjbmcaa.leaseGoods
open Go.ChangeShapes Go.WideShapes Go.ChangeAt Go.RowKit Go.Joins
open Go.Proofs.Ytiblfcbggjbmcaa.PLeaseGoods
open Go.ChangeMaps (open_string shut_string)

theorem awake_true : falseworklaw20_awake.f = some true := by decide +kernel

theorem pure_true (v u n : Int) : falseworklaw20_LeaseGoods.f v u n = some true := by
  unfold falseworklaw20_LeaseGoods.f
  have h : lease_Good.f v u n = falseworkref18_Good.f v u n := rfl
  have hs : ∃ b, falseworkref18_Good.f v u n = some b := by
    unfold falseworkref18_Good.f
    split <;> exact ⟨_, rfl⟩
  obtain ⟨b, hb⟩ := hs
  rw [h, hb]
  simp [awake_true]

theorem own : ownKnob Try.prog.godebug = none := by kernel_rfl
theorem cells23 : Try.prog.cellsOf 23 = 2 := by kernel_rfl
set_option maxRecDepth 100000 in
theorem lifted (os : Os) (started : os.Started) (H : Type) (enc : TypeId × Value → H) :
    ReturnsInHanded {} Try.checked os 4 .any (Rows.leaseGoodsSpec.pre6 enc Try.prog Try.f4 Rows.leaseGoodsRow.domain false) (Rows.leaseGoodsSpec.post enc Try.prog Try.f4 false true false false) := by
  refine returnsInHanded_of_change (C := Try.checked) own started (by kernel_rfl) Try.func4
    (ChangeSpec.witness6 (enc := enc) (C := Try.checked) false ⟨#[], #[.agg #[.int .i64 0, .int .i64 0], .int .i64 0], []⟩ 8 (by kernel_rfl) (by kernel_rfl) (by kernel_rfl) (by kernel_rfl)) ?_
  intro W base args ds gs before hval0 hW _ _
  have hval : ∀ (j : Nat) t v, Try.f4.params[j]? = some t → args[j]? = some v → Value.okWide Try.prog W .any base t v := hval0
  have hW' := hW
  obtain ⟨p, q, hA0, hV, rfl, _, _⟩ := hW
  have hA : DataW.TrodAll enc Try.prog W 0 (fun _ => true) true Try.f4.params.toList args.toList ds p := hA0
  rw [Try.params4] at hA hval
  obtain ⟨v0, v1, d0, d1, p0, p1, rfl, rfl, rfl, h0, h1⟩ := trodAll_two hA
  obtain ⟨rfl, rfl⟩ := trodVars_none hV
  obtain ⟨c0, c1, y0, y1, m, rfl, rfl, rfl, hy0, hy1⟩ := open_agg2 Try.underlying23 (by kernel_rfl) cells23 (hval 0 23 v0 rfl rfl) h0
  obtain ⟨a, e0, rfl, wa⟩ := DataW.trod_int Try.underlying3 hy0
  obtain ⟨b, e1, rfl, wb⟩ := DataW.trod_int Try.underlying3 hy1
  simp at e0 e1
  subst e0 e1
  obtain ⟨n, rfl, rfl, rfl, wn⟩ := open_int Try.underlying3 (hval 1 3 v1 rfl rfl) h1
  clear hA0 hval0
  simp only [List.append_nil] at hW'
  have structReads : ∀ (W' : World) (sp : Nat → Bool), DataW.Trod enc Try.prog W' 0 sp true 23 (.agg #[.int .i64 a, .int .i64 b]) (.agg [.lit (.int .i64 a), .lit (.int .i64 b)]) [] := fun W' sp =>
    shut_agg2 (y0 := (.lit (.int .i64 a), [])) (y1 := (.lit (.int .i64 b), [])) Try.underlying23 (by kernel_rfl) cells23 ⟨1, by simp [DataW.trod, Try.underlying3, wa]⟩ ⟨1, by simp [DataW.trod, Try.underlying3, wb]⟩
  refine (falseworklaw20_LeaseGoods.calls a b n true W (pure_true a b n)).mono fun e W' ⟨he, bel⟩ => ?_
  subst he
  exact ⟨_, rfl, _, _, _, [], [], [], hW', trodAll_mk1 (shut_bool Try.underlying4 _), trodAll_mk2 (structReads _ _) (shut_int Try.underlying3 wn), rfl, bel.frame _, fun h => by cases h⟩
theorem over : Rows.leaseGoodsRow.holds Try.pinned (OpenSpec.ofChange Rows.leaseGoodsSpec) :=
  OpenClaim.holds_of_wide 4 Try.f4 rfl rfl rfl rfl rfl rfl rfl ⟨rfl, rfl, rfl, rfl, rfl⟩ rfl rfl rfl rfl rfl (by kernel_rfl) Try.func4 (by kernel_rfl)
    (of_decide_eq_true (by kernel_rfl)) (by unfold Func.isWrapper; first | (rw [if_pos (by decide +kernel)]; kernel_rfl) | (rw [if_neg (by decide +kernel)]; exact ⟨rfl, rfl⟩))
    (fun os started H enc _ => lifted os started H enc)
theorem proved : Rows.LeaseGoodsSaid := over
#print axioms proved
end Go.Proofs.Ytiblfcbggjbmcaa.leaseGoods
namespace Go.Proofs.Ytiblfcbggjbmcaa
/-- The row, under a short name, for the claim. -/
theorem leaseGoods_holds : Rows.LeaseGoodsSaid := leaseGoods.proved
end Go.Proofs.Ytiblfcbggjbmcaa
