/- Own texts of this session, packed by its program wip/pp/pack.py: lemmas and walks of functions. -/
import Derived.Lib.Hide
import Derived.OneCell
import Derived.Deep.RegionHeld3
import Derived.Deep.AppendLies
import Derived.Outline
import Derived.IntWalk
import Derived.Deep.RegionLaw
import Derived.Lib.AppendStr
import Derived.Laws.BitsAllLaws
import Derived.Test.YtjgomlcdmpcoaaaDoorKSteps2
import Derived.Test.YtjgomlcdmpcoaaaDoorKSteps4
import Derived.Test.YtjgomlcdmpcoaaaDoorKSteps5
namespace Go.Proofs.YtjgomlcdmpcoaaaDoor.D
open Go.RowKit Go.Proofs.YtjgomlcdmpcoaaaDoorW.PrintWords Go.Proofs.YtjgomlcdmpcoaaaDoorW.PrintLast Go.Proofs.YtjgomlcdmpcoaaaDoorW.PrintMore
attribute [local go_sem] max2_int min2_int max_two min_two max_three min_three max_four min_four
set_option linter.unusedVariables false
set_option linter.unusedSimpArgs false
mutual
def falseworkref18_State.j0 : Nat → Int → Int → Int → Bool → Int → List (S70) → Int → Option (Int)
 | 0, _, _, _, _, _, _, _ => none
 | k + 1, x1, x3, x9, x22, x282000, x282001, x282002 => if x22 = true then (some (-1)) else (if 0 ≤ x9 then (if x9 < (x282001.length : Int) then (if x1 = 6 then (falseworkref18_State.j1 k x1 x3 x1 (x1 == 6) ((rd_T70 x282001 x9).f0) ((rd_T70 x282001 x9).f1) ((rd_T70 x282001 x9).f2) ((rd_T70 x282001 x9).f3) ((rd_T70 x282001 x9).f4)) else (falseworkref18_State.j1 k x1 x3 x1 (x1 == 7) ((rd_T70 x282001 x9).f0) ((rd_T70 x282001 x9).f1) ((rd_T70 x282001 x9).f2) ((rd_T70 x282001 x9).f3) ((rd_T70 x282001 x9).f4))) else (none)) else (none))
def falseworkref18_State.j1 : Nat → Int → Int → Int → Bool → Int → ByteArray → List (S75) → List (S98) → Int → Option (Int)
 | 0, _, _, _, _, _, _, _, _, _ => none
 | k + 1, x1, x3, x28, x29, x286000, x286001, x286002, x286003, x286004 => if x29 = true then ((falseworkref18_index.f k x286000 x286001 x286002 x286003 x286004 x3).bind fun t286 => (if t286 ≥ 0 then (if 0 ≤ t286 then (if t286 < (x286003.length : Int) then (some ((rd_T98 x286003 t286).f4)) else (none)) else (none)) else (some (-1)))) else (if x28 = 8 then (falseworkref18_State.j2 k x1 x3 (x28 == 8) x286000 x286001 x286002 x286003 x286004) else (if x28 = 9 then (falseworkref18_State.j2 k x1 x3 (x28 == 9) x286000 x286001 x286002 x286003 x286004) else (if x28 = 10 then (falseworkref18_State.j2 k x1 x3 (x28 == 10) x286000 x286001 x286002 x286003 x286004) else (falseworkref18_State.j2 k x1 x3 (x28 == 11) x286000 x286001 x286002 x286003 x286004))))
def falseworkref18_State.j2 : Nat → Int → Int → Bool → Int → ByteArray → List (S75) → List (S98) → Int → Option (Int)
 | 0, _, _, _, _, _, _, _, _ => none
 | k + 1, x1, x3, x43, x286000, x286001, x286002, x286003, x286004 => if x43 = true then ((falseworkref18_column.f k x286000 x286001 x286002 x286003 x286004 x3).bind fun t288 => (if t288 ≥ 0 then (falseworkref18_State.j3 k t288 (decide (x1 < 10)) x286000 x286001 x286002 x286003 x286004) else (falseworkref18_State.j3 k t288 false x286000 x286001 x286002 x286003 x286004))) else (some (-1))
def falseworkref18_State.j3 : Nat → Int → Bool → Int → ByteArray → List (S75) → List (S98) → Int → Option (Int)
 | 0, _, _, _, _, _, _, _ => none
 | k + 1, x12, x56, x286000, x286001, x286002, x286003, x286004 => if x56 = true then (if 0 ≤ x12 then (if x12 < (x286002.length : Int) then (some ((rd_T75 x286002 x12).f3)) else (none)) else (none)) else (if x12 ≥ 0 then (if 0 ≤ x12 then (if x12 < (x286002.length : Int) then (some ((rd_T75 x286002 x12).f4)) else (none)) else (none)) else (some (-1)))
end
def falseworkref18_State.f (k : Nat) (a0_0 : Int) (l0_1 : List (S70)) (a0_2 : Int) (a1 : Int) (a2 : Int) (a3 : Int) : Option (Int) := (falseworkref18_ByID.f k a0_0 l0_1 a0_2 a2).bind fun t282 => (if t282 < 0 then (falseworkref18_State.j0 k a1 a3 t282 true a0_0 l0_1 a0_2) else ((falseworkref6_May.f k a0_0 l0_1 a0_2).bind fun t283 => (falseworkref18_State.j0 k a1 a3 t282 (!t283) a0_0 l0_1 a0_2)))
theorem falseworkref18_State.mono_l : ∀ k, (∀ y0 y1 y2 y3 y4 y5 y6, LeO (falseworkref18_State.j0 k y0 y1 y2 y3 y4 y5 y6) (falseworkref18_State.j0 (k + 1) y0 y1 y2 y3 y4 y5 y6)) ∧ (∀ y0 y1 y2 y3 y4 y5 y6 y7 y8, LeO (falseworkref18_State.j1 k y0 y1 y2 y3 y4 y5 y6 y7 y8) (falseworkref18_State.j1 (k + 1) y0 y1 y2 y3 y4 y5 y6 y7 y8)) ∧ (∀ y0 y1 y2 y3 y4 y5 y6 y7, LeO (falseworkref18_State.j2 k y0 y1 y2 y3 y4 y5 y6 y7) (falseworkref18_State.j2 (k + 1) y0 y1 y2 y3 y4 y5 y6 y7)) ∧ (∀ y0 y1 y2 y3 y4 y5 y6, LeO (falseworkref18_State.j3 k y0 y1 y2 y3 y4 y5 y6) (falseworkref18_State.j3 (k + 1) y0 y1 y2 y3 y4 y5 y6))
 | 0 => ⟨fun _ _ _ _ _ _ _ r h => by simp [falseworkref18_State.j0] at h, fun _ _ _ _ _ _ _ _ _ r h => by simp [falseworkref18_State.j1] at h, fun _ _ _ _ _ _ _ _ r h => by simp [falseworkref18_State.j2] at h, fun _ _ _ _ _ _ _ r h => by simp [falseworkref18_State.j3] at h⟩
 | k + 1 => by
  obtain ⟨ih0, ih1, ih2, ih3⟩ := falseworkref18_State.mono_l k
  refine ⟨?_, ?_, ?_, ?_⟩
  ·intro y0 y1 y2 y3 y4 y5 y6
   unfold falseworkref18_State.j0
   repeat' first
   | (with_reducible exact ih0 _ _ _ _ _ _ _)
   | (with_reducible exact ih1 _ _ _ _ _ _ _ _ _)
   | (with_reducible exact ih2 _ _ _ _ _ _ _ _)
   | (with_reducible exact ih3 _ _ _ _ _ _ _)
   | (with_reducible exact falseworkref18_ByID.mono _ _ _ _ _)
   | (with_reducible exact falseworkref18_column.mono _ _ _ _ _ _ _)
   | (with_reducible exact falseworkref18_index.mono _ _ _ _ _ _ _)
   | (with_reducible exact falseworkref6_May.mono _ _ _ _)
   | (with_reducible exact LeO.refl _)
   | (with_reducible exact LeO.none _)
   | (with_reducible refine LeO.ite ?_ ?_)
   | (with_reducible refine LeO.bind ?_ (fun _ => ?_))
   | exact ih0 _ _ _ _ _ _ _
   | exact ih1 _ _ _ _ _ _ _ _ _
   | exact ih2 _ _ _ _ _ _ _ _
   | exact ih3 _ _ _ _ _ _ _
   | exact falseworkref18_ByID.mono _ _ _ _ _
   | exact falseworkref18_column.mono _ _ _ _ _ _ _
   | exact falseworkref18_index.mono _ _ _ _ _ _ _
   | exact falseworkref6_May.mono _ _ _ _
   | exact LeO.none _
   | refine LeO.ite ?_ ?_
   | refine LeO.bind ?_ (fun _ => ?_)
  ·intro y0 y1 y2 y3 y4 y5 y6 y7 y8
   unfold falseworkref18_State.j1
   repeat' first
   | (with_reducible exact ih0 _ _ _ _ _ _ _)
   | (with_reducible exact ih1 _ _ _ _ _ _ _ _ _)
   | (with_reducible exact ih2 _ _ _ _ _ _ _ _)
   | (with_reducible exact ih3 _ _ _ _ _ _ _)
   | (with_reducible exact falseworkref18_ByID.mono _ _ _ _ _)
   | (with_reducible exact falseworkref18_column.mono _ _ _ _ _ _ _)
   | (with_reducible exact falseworkref18_index.mono _ _ _ _ _ _ _)
   | (with_reducible exact falseworkref6_May.mono _ _ _ _)
   | (with_reducible exact LeO.refl _)
   | (with_reducible exact LeO.none _)
   | (with_reducible refine LeO.ite ?_ ?_)
   | (with_reducible refine LeO.bind ?_ (fun _ => ?_))
   | exact ih0 _ _ _ _ _ _ _
   | exact ih1 _ _ _ _ _ _ _ _ _
   | exact ih2 _ _ _ _ _ _ _ _
   | exact ih3 _ _ _ _ _ _ _
   | exact falseworkref18_ByID.mono _ _ _ _ _
   | exact falseworkref18_column.mono _ _ _ _ _ _ _
   | exact falseworkref18_index.mono _ _ _ _ _ _ _
   | exact falseworkref6_May.mono _ _ _ _
   | exact LeO.none _
   | refine LeO.ite ?_ ?_
   | refine LeO.bind ?_ (fun _ => ?_)
  ·intro y0 y1 y2 y3 y4 y5 y6 y7
   unfold falseworkref18_State.j2
   repeat' first
   | (with_reducible exact ih0 _ _ _ _ _ _ _)
   | (with_reducible exact ih1 _ _ _ _ _ _ _ _ _)
   | (with_reducible exact ih2 _ _ _ _ _ _ _ _)
   | (with_reducible exact ih3 _ _ _ _ _ _ _)
   | (with_reducible exact falseworkref18_ByID.mono _ _ _ _ _)
   | (with_reducible exact falseworkref18_column.mono _ _ _ _ _ _ _)
   | (with_reducible exact falseworkref18_index.mono _ _ _ _ _ _ _)
   | (with_reducible exact falseworkref6_May.mono _ _ _ _)
   | (with_reducible exact LeO.refl _)
   | (with_reducible exact LeO.none _)
   | (with_reducible refine LeO.ite ?_ ?_)
   | (with_reducible refine LeO.bind ?_ (fun _ => ?_))
   | exact ih0 _ _ _ _ _ _ _
   | exact ih1 _ _ _ _ _ _ _ _ _
   | exact ih2 _ _ _ _ _ _ _ _
   | exact ih3 _ _ _ _ _ _ _
   | exact falseworkref18_ByID.mono _ _ _ _ _
   | exact falseworkref18_column.mono _ _ _ _ _ _ _
   | exact falseworkref18_index.mono _ _ _ _ _ _ _
   | exact falseworkref6_May.mono _ _ _ _
   | exact LeO.none _
   | refine LeO.ite ?_ ?_
   | refine LeO.bind ?_ (fun _ => ?_)
  ·intro y0 y1 y2 y3 y4 y5 y6
   unfold falseworkref18_State.j3
   repeat' first
   | (with_reducible exact ih0 _ _ _ _ _ _ _)
   | (with_reducible exact ih1 _ _ _ _ _ _ _ _ _)
   | (with_reducible exact ih2 _ _ _ _ _ _ _ _)
   | (with_reducible exact ih3 _ _ _ _ _ _ _)
   | (with_reducible exact falseworkref18_ByID.mono _ _ _ _ _)
   | (with_reducible exact falseworkref18_column.mono _ _ _ _ _ _ _)
   | (with_reducible exact falseworkref18_index.mono _ _ _ _ _ _ _)
   | (with_reducible exact falseworkref6_May.mono _ _ _ _)
   | (with_reducible exact LeO.refl _)
   | (with_reducible exact LeO.none _)
   | (with_reducible refine LeO.ite ?_ ?_)
   | (with_reducible refine LeO.bind ?_ (fun _ => ?_))
   | exact ih0 _ _ _ _ _ _ _
   | exact ih1 _ _ _ _ _ _ _ _ _
   | exact ih2 _ _ _ _ _ _ _ _
   | exact ih3 _ _ _ _ _ _ _
   | exact falseworkref18_ByID.mono _ _ _ _ _
   | exact falseworkref18_column.mono _ _ _ _ _ _ _
   | exact falseworkref18_index.mono _ _ _ _ _ _ _
   | exact falseworkref6_May.mono _ _ _ _
   | exact LeO.none _
   | refine LeO.ite ?_ ?_
   | refine LeO.bind ?_ (fun _ => ?_)
theorem falseworkref18_State.mono : ∀ a0 a1 a2 a3 a4 a5 k, LeO (falseworkref18_State.f k a0 a1 a2 a3 a4 a5) (falseworkref18_State.f (k + 1) a0 a1 a2 a3 a4 a5) := by
 intro a0 a1 a2 a3 a4 a5 k
 obtain ⟨ih0, ih1, ih2, ih3⟩ := falseworkref18_State.mono_l k
 unfold falseworkref18_State.f
 repeat' first
   | (with_reducible exact ih0 _ _ _ _ _ _ _)
   | (with_reducible exact ih1 _ _ _ _ _ _ _ _ _)
   | (with_reducible exact ih2 _ _ _ _ _ _ _ _)
   | (with_reducible exact ih3 _ _ _ _ _ _ _)
   | (with_reducible exact falseworkref18_ByID.mono _ _ _ _ _)
   | (with_reducible exact falseworkref18_column.mono _ _ _ _ _ _ _)
   | (with_reducible exact falseworkref18_index.mono _ _ _ _ _ _ _)
   | (with_reducible exact falseworkref6_May.mono _ _ _ _)
   | (with_reducible exact LeO.refl _)
   | (with_reducible exact LeO.none _)
   | (with_reducible refine LeO.ite ?_ ?_)
   | (with_reducible refine LeO.bind ?_ (fun _ => ?_))
   | exact ih0 _ _ _ _ _ _ _
   | exact ih1 _ _ _ _ _ _ _ _ _
   | exact ih2 _ _ _ _ _ _ _ _
   | exact ih3 _ _ _ _ _ _ _
   | exact falseworkref18_ByID.mono _ _ _ _ _
   | exact falseworkref18_column.mono _ _ _ _ _ _ _
   | exact falseworkref18_index.mono _ _ _ _ _ _ _
   | exact falseworkref6_May.mono _ _ _ _
   | exact LeO.none _
   | refine LeO.ite ?_ ?_
   | refine LeO.bind ?_ (fun _ => ?_)
set_option maxHeartbeats 8000000 in
set_option maxRecDepth 100000 in
theorem falseworkref18_State.calls (k : Nat) (a0_0 : Int) (A0_1 : Option Addr) (c0_1 : Nat) (l0_1 : List (S70)) (a0_2 : Int) (a1 : Int) (a2 : Int) (a3 : Int) (r : Int) (w : World) (hr0_1 : Kd.C k70 w A0_1 l0_1.length l0_1) (hc0_1 : l0_1.length ≤ c0_1) (h : falseworkref18_State.f k a0_0 l0_1 a0_2 a1 a2 a3 = some r) :
  Calls Tryd.prog 31 #[.agg #[.int .i64 a0_0, .slice A0_1 l0_1.length c0_1, .int .i64 a0_2], .int .i64 a1, .int .i64 a2, .int .i64 a3] w fun e w' => e = .returned (.int .i64 r) ∧ Below w.heap.size w w' := by
 have hu28 := Tryd.underlying28
 have hu70 := Tryd.underlying70
 have HR0_1 := Aside0.mk hr0_1; have HC0_1 := Aside0.mk hc0_1; clear hr0_1 hc0_1; have HB := Aside0.mk (Below.refl w.heap.size w)
 have H : ((falseworkref18_ByID.f k a0_0 l0_1 a0_2 a2).bind fun t282 => (if t282 < 0 then (falseworkref18_State.j0 k a1 a3 t282 true a0_0 l0_1 a0_2) else ((falseworkref6_May.f k a0_0 l0_1 a0_2).bind fun t283 => (falseworkref18_State.j0 k a1 a3 t282 (!t283) a0_0 l0_1 a0_2)))) = some r := h
 clear h; replace H := Option.bind_eq_some_iff.mp H; obtain ⟨t282, A50, H⟩ := H
 replace H : (if t282 < 0 then (falseworkref18_State.j0 k a1 a3 t282 true a0_0 l0_1 a0_2) else ((falseworkref6_May.f k a0_0 l0_1 a0_2).bind fun t283 => (falseworkref18_State.j0 k a1 a3 t282 (!t283) a0_0 l0_1 a0_2))) = some r := H
 have A5 := Aside0.mk A50; clear A50; have HC6 := Aside0.mk H; clear H; go_enter Tryd.func31, Tryd.ntmps31
 go_upto_region 2 with (first | ((with_reducible refine gate_dst (N := 4) rfl ?_); refine box_event ?hg (N := 4) ?hd (cs := #[.int .i64 a0_0, .slice A0_1 l0_1.length c0_1, .int .i64 a0_2]) (t := 28) ?hr ?_; (case hd => rfl); (case hg => rfl); (case hr => first | (go_simp; done) | (go_simp; rfl)); intro gb281 hg w7 hbox hb; have n0_ := Aside0.mk (below_step (by repeat (first | (with_reducible first | exact HB.out | apply below_alloc | apply pw_below_drewN | apply below_drew1) | exact HB.out)) hb); have n1_ := Aside0.mk (hbox); have n2_ := Aside0.mk ((by rw [hg]; exact (below_size (by repeat (first | (with_reducible first | exact HB.out | apply below_alloc | apply pw_below_drewN | apply below_drew1) | exact HB.out))) : w.heap.size ≤ gb281)); have n3_ := Aside0.mk ((by rw [hg]; exact (below_size (by repeat (first | (with_reducible first | exact HB.out | apply below_alloc | apply pw_below_drewN | apply below_drew1) | exact HB.out))) : w.heap.size ≤ gb281)); clear HB; have HB := n0_; have BK281 := n1_; have GW281 := n2_; have GE281 := n3_; clear n0_ n1_ n2_ n3_; clear hb hbox hg; have hcz8_0 : w7.cell? ⟨gb281, 0, none⟩ = some (.int .i64 a0_0) := (Go.Proofs.YtjgomlcdmpcoaaaDoorW.PrintWords.blk_cell BK281.out 0).trans rfl; have hcz8_1 : w7.cell? ⟨gb281, 1, none⟩ = some (.slice A0_1 l0_1.length c0_1) := (Go.Proofs.YtjgomlcdmpcoaaaDoorW.PrintWords.blk_cell BK281.out 1).trans rfl; have hcz8_2 : w7.cell? ⟨gb281, 2, none⟩ = some (.int .i64 a0_2) := (Go.Proofs.YtjgomlcdmpcoaaaDoorW.PrintWords.blk_cell BK281.out 2).trans rfl; have hfz8_0 := blk_frozen BK281.out 0; have hfz8_1 := blk_frozen BK281.out 1; have hfz8_2 := blk_frozen BK281.out 2) | ((with_reducible refine gate_callee (f := 65) rfl ?_); refine goesL_ (some 15) rfl rfl Tryd.func65 (by kernel_rfl) rfl #[.agg #[.int .i64 a0_0, .slice A0_1 l0_1.length c0_1, .int .i64 a0_2], .int .i64 a2] rfl (by (try simp only [List.map_toArray, List.map_cons, List.map_nil]); first | done | rfl | (simp only [List.length_drop, List.length_take]; rfl)) ?_; (with_reducible refine (falseworkref18_ByID.calls k a0_0 _ _ l0_1 a0_2 a2 t282 _ ?side1 ?side2 A5.out).mono ?_); (case side1 => repeat (first | exact (Kd.C_below HR0_1.out HB.out) | (with_reducible refine Kd.C_alloc ?_ _) | (with_reducible refine Kd.C_drewN ?_ _) | (with_reducible refine Kd.C_drew ?_))); (case side2 => exact HC0_1.out); rintro e w9 ⟨rfl, hb⟩; refine ⟨_, rfl, ?_⟩; have n0_ := Aside0.mk (blk_below (g := gb281) (o := .cells #[.int .i64 a0_0, .slice A0_1 l0_1.length c0_1, .int .i64 a0_2] 28 (0, 0)) (by (with_reducible repeat (first | refine blk_drewN ?_ _ | refine blk_drew ?_ | refine blk_alloc ?_ _)); exact BK281.out) hb); have n1_ := Aside0.mk (below_step (by repeat (first | (with_reducible first | exact HB.out | apply below_alloc | apply pw_below_drewN | apply below_drew1 | refine below_set ?_ GE281.out) | exact HB.out)) hb); clear BK281; clear HB; have BK281 := n0_; have HB := n1_; clear n0_ n1_; (try clear hb); (try clear hb2); (try clear hk); (try clear hi)))
 (try simp only [Act.put, List.setIfInBounds_toArray, List.set_cons_zero, List.set_cons_succ])
 go_cut [22] (fun v22 wc => ∃ (kq : Nat) (x22_5 : Bool), v22 = .bool x22_5 ∧ Aside0 (falseworkref18_State.j0 kq a1 a3 t282 x22_5 a0_0 l0_1 a0_2 = some r) ∧ Aside0 (kq ≤ k) ∧ Aside0 (wc.heap[gb281]? = some (.cells #[.int .i64 a0_0, (.slice A0_1 l0_1.length c0_1), .int .i64 a0_2] 28 (0, 0))) ∧ Aside0 (Below w.heap.size w wc))
 case first =>
  have H := HC6.out; clear HC6; by_cases c10 : t282 < 0
  ·rw [if_pos c10] at H
   have c10b0 : decide (t282 < 0) = true := decide_eq_true c10
   clear c10
   (first | rw [c10b0] | (simp only [i64_w, i32_w]; rw [c10b0]) | skip)
   have H' := Aside0.mk H; clear H; go_wp2; go_meet
   case rel => exact ⟨_, (true), (by first | rfl | (simp; done) | (simp [*]; done)), H', ⟨by first | omega | exact Nat.le_refl _⟩, ⟨by (with_reducible repeat (first | refine blk_drewN ?_ _ | refine blk_drew ?_ | refine blk_alloc ?_ _)); exact BK281.out⟩, ⟨by repeat (first | (with_reducible first | exact HB.out | apply below_alloc | apply pw_below_drewN | apply below_drew1 | refine below_set ?_ GE281.out) | exact HB.out)⟩⟩
  ·rw [if_neg c10] at H
   have c10b0 : decide (t282 < 0) = false := decide_eq_false c10
   clear c10
   (first | rw [c10b0] | (simp only [i64_w, i32_w]; rw [c10b0]) | skip)
   replace H := Option.bind_eq_some_iff.mp H; obtain ⟨t283, A110, H⟩ := H
   replace H : (falseworkref18_State.j0 k a1 a3 t282 (!t283) a0_0 l0_1 a0_2) = some r := H
   have A11 := Aside0.mk A110; clear A110; have H' := Aside0.mk H; clear H; have hcz12_0 : w9.cell? ⟨gb281, 0, none⟩ = some (.int .i64 a0_0) := (Go.Proofs.YtjgomlcdmpcoaaaDoorW.PrintWords.blk_cell BK281.out 0).trans rfl
   have hcz12_1 : w9.cell? ⟨gb281, 1, none⟩ = some (.slice A0_1 l0_1.length c0_1) := (Go.Proofs.YtjgomlcdmpcoaaaDoorW.PrintWords.blk_cell BK281.out 1).trans rfl
   have hcz12_2 : w9.cell? ⟨gb281, 2, none⟩ = some (.int .i64 a0_2) := (Go.Proofs.YtjgomlcdmpcoaaaDoorW.PrintWords.blk_cell BK281.out 2).trans rfl
   have hfz12_0 := blk_frozen BK281.out 0
   have hfz12_1 := blk_frozen BK281.out 1
   have hfz12_2 := blk_frozen BK281.out 2
   go_wp2_with (first | (go_at_call 37; (with_reducible refine (falseworkref6_May.calls k a0_0 _ _ l0_1 a0_2 t283 _ ?side1 ?side2 A11.out).mono ?_); (case side1 => repeat (first | exact (Kd.C_below HR0_1.out HB.out) | (with_reducible refine Kd.C_alloc ?_ _) | (with_reducible refine Kd.C_drewN ?_ _) | (with_reducible refine Kd.C_drew ?_))); (case side2 => exact HC0_1.out); rintro e w13 ⟨rfl, hb⟩; have n0_ := Aside0.mk (blk_below (g := gb281) (o := .cells #[.int .i64 a0_0, .slice A0_1 l0_1.length c0_1, .int .i64 a0_2] 28 (0, 0)) (by (with_reducible repeat (first | refine blk_drewN ?_ _ | refine blk_drew ?_ | refine blk_alloc ?_ _)); exact BK281.out) hb); have n1_ := Aside0.mk (below_step (by repeat (first | (with_reducible first | exact HB.out | apply below_alloc | apply pw_below_drewN | apply below_drew1 | refine below_set ?_ GE281.out) | exact HB.out)) hb); clear BK281; clear HB; have BK281 := n0_; have HB := n1_; clear n0_ n1_; (try clear hb); (try clear hb2); (try clear hk); (try clear hi)))
   go_meet
   case rel => exact ⟨_, (!t283), (by first | rfl | (simp; done) | (simp [*]; done)), H', ⟨by first | omega | exact Nat.le_refl _⟩, ⟨by (with_reducible repeat (first | refine blk_drewN ?_ _ | refine blk_drew ?_ | refine blk_alloc ?_ _)); exact BK281.out⟩, ⟨by repeat (first | (with_reducible first | exact HB.out | apply below_alloc | apply pw_below_drewN | apply below_drew1 | refine below_set ?_ GE281.out) | exact HB.out)⟩⟩
 case rest =>
  clear HC6; obtain ⟨kq, x22_5, rfl, HA, HJ5, BK281, HB⟩ := hcut
  cases kq with
  | zero => exact absurd HA.out (by simp [falseworkref18_State.j0])
  | succ kj5 =>
   have H := HA.out; clear HA; simp only [falseworkref18_State.j0] at H
   by_cases c14 : x22_5 = true
   ·subst c14
    have H1 : (some (-1)) = some r := by rw [if_pos rfl] at H; exact H
    clear H; have H := H1; clear H1; obtain rfl := Option.some.inj H; go_wp2; go_ret; exact ⟨by first | rfl | (simp [*] <;> rfl), by repeat (first | exact HB.out | exact Below.refl _ _ | apply below_alloc | apply pw_below_drewN | apply below_drew1)⟩
   ·replace c14 := Bool.eq_false_iff.mpr c14
    subst c14; have H1 : (if 0 ≤ t282 then (if t282 < (l0_1.length : Int) then (if a1 = 6 then (falseworkref18_State.j1 kj5 a1 a3 a1 (a1 == 6) ((rd_T70 l0_1 t282).f0) ((rd_T70 l0_1 t282).f1) ((rd_T70 l0_1 t282).f2) ((rd_T70 l0_1 t282).f3) ((rd_T70 l0_1 t282).f4)) else (falseworkref18_State.j1 kj5 a1 a3 a1 (a1 == 7) ((rd_T70 l0_1 t282).f0) ((rd_T70 l0_1 t282).f1) ((rd_T70 l0_1 t282).f2) ((rd_T70 l0_1 t282).f3) ((rd_T70 l0_1 t282).f4))) else (none)) else (none)) = some r := by rw [if_neg (show ¬ (false = true) by decide)] at H; exact H
    clear H; have H := H1; clear H1; by_cases c15 : 0 ≤ t282
    ·rw [if_pos c15] at H
     have c15b0 : decide (0 ≤ t282) = true := decide_eq_true c15
     clear c15; by_cases c16 : t282 < (l0_1.length : Int)
     ·rw [if_pos c16] at H
      have c16b0 : decide (t282 < (l0_1.length : Int)) = true := decide_eq_true c16
      clear c16; have HC17 := Aside0.mk H; clear H; have hcz18_0 : wc.cell? ⟨gb281, 0, none⟩ = some (.int .i64 a0_0) := (Go.Proofs.YtjgomlcdmpcoaaaDoorW.PrintWords.blk_cell BK281.out 0).trans rfl
      have hcz18_1 : wc.cell? ⟨gb281, 1, none⟩ = some (.slice A0_1 l0_1.length c0_1) := (Go.Proofs.YtjgomlcdmpcoaaaDoorW.PrintWords.blk_cell BK281.out 1).trans rfl
      have hcz18_2 : wc.cell? ⟨gb281, 2, none⟩ = some (.int .i64 a0_2) := (Go.Proofs.YtjgomlcdmpcoaaaDoorW.PrintWords.blk_cell BK281.out 2).trans rfl
      have hfz18_0 := blk_frozen BK281.out 0
      have hfz18_1 := blk_frozen BK281.out 1
      have hfz18_2 := blk_frozen BK281.out 2
      have p284 : 0 ≤ (t282 : Int) := of_decide_eq_true (by first | (with_reducible assumption) | assumption)
      have q284 : t282 < (l0_1.length : Int) := of_decide_eq_true (by first | (with_reducible assumption) | assumption)
      obtain ⟨ad284, A284_2, c284_2, A284_3, c284_3, e284, hx284_0, hx284_1, hx284_2, hx284_3, hx284_4, hl284_2, hi284_2, hl284_3, hi284_3⟩ := at_T70 HR0_1.out t282 p284 q284
      cases e284
      replace hx284_0 := (HB.out.cell (World.block_lt_of_cell? w _ hx284_0)).trans hx284_0
      replace hx284_1 := (HB.out.cell (World.block_lt_of_cell? w _ hx284_1)).trans hx284_1
      replace hx284_2 := (HB.out.cell (World.block_lt_of_cell? w _ hx284_2)).trans hx284_2
      replace hx284_3 := (HB.out.cell (World.block_lt_of_cell? w _ hx284_3)).trans hx284_3
      replace hx284_4 := (HB.out.cell (World.block_lt_of_cell? w _ hx284_4)).trans hx284_4
      have HR284_2 := Aside0.mk hi284_2; have HC284_2 := Aside0.mk hl284_2; clear hi284_2 hl284_2; have HR284_3 := Aside0.mk hi284_3; have HC284_3 := Aside0.mk hl284_3; clear hi284_3 hl284_3; replace p284 := eq_true p284
      replace q284 := eq_true q284
      go_upto_if 29 with (first | ((with_reducible refine gate_dst (N := 10) rfl ?_); refine box_event ?hg (N := 10) ?hd (cs := #[.int .i64 0, .string (⟨#[]⟩ : ByteArray), .slice none 0 0, .slice none 0 0, .int .i64 0]) (t := 70) ?hr ?_; (case hd => rfl); (case hg => rfl); (case hr => first | (go_simp; done) | (go_simp; rfl)); intro gb285 hg w19 hbox hb; have n0_ := Aside0.mk (blk_below (g := gb281) (o := .cells #[.int .i64 a0_0, .slice (some ad284) l0_1.length c0_1, .int .i64 a0_2] 28 (0, 0)) (by (with_reducible repeat (first | refine blk_drewN ?_ _ | refine blk_drew ?_ | refine blk_alloc ?_ _)); exact BK281.out) hb); have n1_ := Aside0.mk (below_step (by repeat (first | (with_reducible first | exact HB.out | apply below_alloc | apply pw_below_drewN | apply below_drew1 | refine below_set ?_ GE281.out) | exact HB.out)) hb); have n2_ := Aside0.mk (hbox); have n3_ := Aside0.mk ((by rw [hg]; exact (below_size (by repeat (first | (with_reducible first | exact HB.out | apply below_alloc | apply pw_below_drewN | apply below_drew1 | refine below_set ?_ GE281.out) | exact HB.out))) : w.heap.size ≤ gb285)); have n4_ := Aside0.mk ((by rw [hg]; exact (below_size (by repeat (first | (with_reducible first | exact HB.out | apply below_alloc | apply pw_below_drewN | apply below_drew1 | refine below_set ?_ GE281.out) | exact HB.out))) : w.heap.size ≤ gb285)); have n5_ := Aside0.mk ((by rw [hg]; exact Nat.ne_of_lt (blk_lt (g := gb281) (o := .cells #[.int .i64 a0_0, .slice (some ad284) l0_1.length c0_1, .int .i64 a0_2] 28 (0, 0)) (by (with_reducible repeat (first | refine blk_drewN ?_ _ | refine blk_drew ?_ | refine blk_alloc ?_ _)); exact BK281.out)) : gb281 ≠ gb285)); have n6_ := Aside0.mk ((by rw [hg]; exact Nat.ne_of_gt (blk_lt (g := gb281) (o := .cells #[.int .i64 a0_0, .slice (some ad284) l0_1.length c0_1, .int .i64 a0_2] 28 (0, 0)) (by (with_reducible repeat (first | refine blk_drewN ?_ _ | refine blk_drew ?_ | refine blk_alloc ?_ _)); exact BK281.out)) : gb285 ≠ gb281)); clear BK281; clear HB; have BK281 := n0_; have HB := n1_; have BK285 := n2_; have GW285 := n3_; have GE285 := n4_; have NB281_285 := n5_; have NB285_281 := n6_; clear n0_ n1_ n2_ n3_ n4_ n5_ n6_; clear hb hbox hg; have hnb20 := NB285_281.out; have hnc20 := NB281_285.out; have hcz21_0 : w19.cell? ⟨gb285, 0, none⟩ = some (.int .i64 0) := (Go.Proofs.YtjgomlcdmpcoaaaDoorW.PrintWords.blk_cell BK285.out 0).trans rfl; have hcz21_1 : w19.cell? ⟨gb285, 1, none⟩ = some (.string (⟨#[]⟩ : ByteArray)) := (Go.Proofs.YtjgomlcdmpcoaaaDoorW.PrintWords.blk_cell BK285.out 1).trans rfl; have hcz21_2 : w19.cell? ⟨gb285, 2, none⟩ = some (.slice none 0 0) := (Go.Proofs.YtjgomlcdmpcoaaaDoorW.PrintWords.blk_cell BK285.out 2).trans rfl; have hcz21_3 : w19.cell? ⟨gb285, 3, none⟩ = some (.slice none 0 0) := (Go.Proofs.YtjgomlcdmpcoaaaDoorW.PrintWords.blk_cell BK285.out 3).trans rfl; have hcz21_4 : w19.cell? ⟨gb285, 4, none⟩ = some (.int .i64 0) := (Go.Proofs.YtjgomlcdmpcoaaaDoorW.PrintWords.blk_cell BK285.out 4).trans rfl; have hfz21_0 := blk_frozen BK285.out 0; have hfz21_1 := blk_frozen BK285.out 1; have hfz21_2 := blk_frozen BK285.out 2; have hfz21_3 := blk_frozen BK285.out 3; have hfz21_4 := blk_frozen BK285.out 4))
      (try simp only [Act.put, List.setIfInBounds_toArray, List.set_cons_zero, List.set_cons_succ])
      go_cut [29] (fun v29 wc => ∃ (kq : Nat) (x29_16 : Bool), v29 = .bool x29_16 ∧ Aside0 (falseworkref18_State.j1 kq a1 a3 a1 x29_16 ((rd_T70 l0_1 t282).f0) ((rd_T70 l0_1 t282).f1) ((rd_T70 l0_1 t282).f2) ((rd_T70 l0_1 t282).f3) ((rd_T70 l0_1 t282).f4) = some r) ∧ Aside0 (kq ≤ kj5) ∧ Aside0 (wc.heap[gb281]? = some (.cells #[.int .i64 a0_0, (.slice (some ad284) l0_1.length c0_1), .int .i64 a0_2] 28 (0, 0))) ∧ Aside0 (wc.heap[gb285]? = some (.cells #[.int .i64 ((rd_T70 l0_1 t282).f0), .string ((rd_T70 l0_1 t282).f1), (.slice A284_2 ((rd_T70 l0_1 t282).f2).length c284_2), (.slice A284_3 ((rd_T70 l0_1 t282).f3).length c284_3), .int .i64 ((rd_T70 l0_1 t282).f4)] 70 (0, 0))) ∧ Aside0 (Below w.heap.size w wc))
      case first =>
       have H := HC17.out; clear HC17; by_cases c22 : a1 = 6
       ·rw [if_pos c22] at H
        have c22b0 : (a1 == 6) = true := beq_iff_eq.mpr c22
        have c22b1 : (a1 != 6) = false := bne_eq_false_iff_eq.mpr c22
        clear c22
        (first | rw [c22b0] | (simp only [i64_w, i32_w]; rw [c22b0]) | skip)
        have H' := Aside0.mk H; clear H; go_wp2; go_meet
        case rel => exact ⟨_, ((a1 == 6)), (by first | rfl | (simp; done) | (simp [*]; done)), H', ⟨by have := HJ5.out; first | omega | exact Nat.le_refl _⟩, ⟨by (with_reducible repeat (first | refine blk_drewN ?_ _ | refine blk_drew ?_ | refine blk_alloc ?_ _)); refine blk_far ?_ NB281_285.out _; (with_reducible repeat (first | refine blk_drewN ?_ _ | refine blk_drew ?_ | refine blk_alloc ?_ _)); refine blk_far ?_ NB281_285.out _; (with_reducible repeat (first | refine blk_drewN ?_ _ | refine blk_drew ?_ | refine blk_alloc ?_ _)); refine blk_far ?_ NB281_285.out _; (with_reducible repeat (first | refine blk_drewN ?_ _ | refine blk_drew ?_ | refine blk_alloc ?_ _)); refine blk_far ?_ NB281_285.out _; (with_reducible repeat (first | refine blk_drewN ?_ _ | refine blk_drew ?_ | refine blk_alloc ?_ _)); refine blk_far ?_ NB281_285.out _; (with_reducible repeat (first | refine blk_drewN ?_ _ | refine blk_drew ?_ | refine blk_alloc ?_ _)); exact BK281.out⟩, ⟨by (with_reducible repeat (first | refine blk_drewN ?_ _ | refine blk_drew ?_ | refine blk_alloc ?_ _)); refine blk_put (cs := #[.int .i64 ((rd_T70 l0_1 t282).f0), .string ((rd_T70 l0_1 t282).f1), .slice A284_2 ((rd_T70 l0_1 t282).f2).length c284_2, .slice A284_3 ((rd_T70 l0_1 t282).f3).length c284_3, .int .i64 0]) ?_ 4 _ rfl; (with_reducible repeat (first | refine blk_drewN ?_ _ | refine blk_drew ?_ | refine blk_alloc ?_ _)); refine blk_put (cs := #[.int .i64 ((rd_T70 l0_1 t282).f0), .string ((rd_T70 l0_1 t282).f1), .slice A284_2 ((rd_T70 l0_1 t282).f2).length c284_2, .slice none 0 0, .int .i64 0]) ?_ 3 _ rfl; (with_reducible repeat (first | refine blk_drewN ?_ _ | refine blk_drew ?_ | refine blk_alloc ?_ _)); refine blk_put (cs := #[.int .i64 ((rd_T70 l0_1 t282).f0), .string ((rd_T70 l0_1 t282).f1), .slice none 0 0, .slice none 0 0, .int .i64 0]) ?_ 2 _ rfl; (with_reducible repeat (first | refine blk_drewN ?_ _ | refine blk_drew ?_ | refine blk_alloc ?_ _)); refine blk_put (cs := #[.int .i64 ((rd_T70 l0_1 t282).f0), .string (⟨#[]⟩ : ByteArray), .slice none 0 0, .slice none 0 0, .int .i64 0]) ?_ 1 _ rfl; (with_reducible repeat (first | refine blk_drewN ?_ _ | refine blk_drew ?_ | refine blk_alloc ?_ _)); refine blk_put (cs := #[.int .i64 0, .string (⟨#[]⟩ : ByteArray), .slice none 0 0, .slice none 0 0, .int .i64 0]) ?_ 0 _ rfl; (with_reducible repeat (first | refine blk_drewN ?_ _ | refine blk_drew ?_ | refine blk_alloc ?_ _)); exact BK285.out⟩, ⟨by repeat (first | (with_reducible first | exact HB.out | apply below_alloc | apply pw_below_drewN | apply below_drew1 | refine below_set ?_ GE281.out | refine below_set ?_ GE285.out) | exact HB.out)⟩⟩
       ·rw [if_neg c22] at H
        have c22b0 : (a1 == 6) = false := beq_eq_false_iff_ne.mpr c22
        have c22b1 : (a1 != 6) = true := bne_iff_ne.mpr c22
        (first | rw [c22b0] | (simp only [i64_w, i32_w]; rw [c22b0]) | skip)
        have H' := Aside0.mk H; clear H; go_wp2; go_meet
        case rel => exact ⟨_, ((a1 == 7)), (by first | rfl | (simp; done) | (simp [*]; done)), H', ⟨by have := HJ5.out; first | omega | exact Nat.le_refl _⟩, ⟨by (with_reducible repeat (first | refine blk_drewN ?_ _ | refine blk_drew ?_ | refine blk_alloc ?_ _)); refine blk_far ?_ NB281_285.out _; (with_reducible repeat (first | refine blk_drewN ?_ _ | refine blk_drew ?_ | refine blk_alloc ?_ _)); refine blk_far ?_ NB281_285.out _; (with_reducible repeat (first | refine blk_drewN ?_ _ | refine blk_drew ?_ | refine blk_alloc ?_ _)); refine blk_far ?_ NB281_285.out _; (with_reducible repeat (first | refine blk_drewN ?_ _ | refine blk_drew ?_ | refine blk_alloc ?_ _)); refine blk_far ?_ NB281_285.out _; (with_reducible repeat (first | refine blk_drewN ?_ _ | refine blk_drew ?_ | refine blk_alloc ?_ _)); refine blk_far ?_ NB281_285.out _; (with_reducible repeat (first | refine blk_drewN ?_ _ | refine blk_drew ?_ | refine blk_alloc ?_ _)); exact BK281.out⟩, ⟨by (with_reducible repeat (first | refine blk_drewN ?_ _ | refine blk_drew ?_ | refine blk_alloc ?_ _)); refine blk_put (cs := #[.int .i64 ((rd_T70 l0_1 t282).f0), .string ((rd_T70 l0_1 t282).f1), .slice A284_2 ((rd_T70 l0_1 t282).f2).length c284_2, .slice A284_3 ((rd_T70 l0_1 t282).f3).length c284_3, .int .i64 0]) ?_ 4 _ rfl; (with_reducible repeat (first | refine blk_drewN ?_ _ | refine blk_drew ?_ | refine blk_alloc ?_ _)); refine blk_put (cs := #[.int .i64 ((rd_T70 l0_1 t282).f0), .string ((rd_T70 l0_1 t282).f1), .slice A284_2 ((rd_T70 l0_1 t282).f2).length c284_2, .slice none 0 0, .int .i64 0]) ?_ 3 _ rfl; (with_reducible repeat (first | refine blk_drewN ?_ _ | refine blk_drew ?_ | refine blk_alloc ?_ _)); refine blk_put (cs := #[.int .i64 ((rd_T70 l0_1 t282).f0), .string ((rd_T70 l0_1 t282).f1), .slice none 0 0, .slice none 0 0, .int .i64 0]) ?_ 2 _ rfl; (with_reducible repeat (first | refine blk_drewN ?_ _ | refine blk_drew ?_ | refine blk_alloc ?_ _)); refine blk_put (cs := #[.int .i64 ((rd_T70 l0_1 t282).f0), .string (⟨#[]⟩ : ByteArray), .slice none 0 0, .slice none 0 0, .int .i64 0]) ?_ 1 _ rfl; (with_reducible repeat (first | refine blk_drewN ?_ _ | refine blk_drew ?_ | refine blk_alloc ?_ _)); refine blk_put (cs := #[.int .i64 0, .string (⟨#[]⟩ : ByteArray), .slice none 0 0, .slice none 0 0, .int .i64 0]) ?_ 0 _ rfl; (with_reducible repeat (first | refine blk_drewN ?_ _ | refine blk_drew ?_ | refine blk_alloc ?_ _)); exact BK285.out⟩, ⟨by repeat (first | (with_reducible first | exact HB.out | apply below_alloc | apply pw_below_drewN | apply below_drew1 | refine below_set ?_ GE281.out | refine below_set ?_ GE285.out) | exact HB.out)⟩⟩
      case rest =>
       clear HC17; obtain ⟨kq, x29_16, rfl, HA, HJ16, BK281, BK285, HB⟩ := hcut
       cases kq with
       | zero => exact absurd HA.out (by simp [falseworkref18_State.j1])
       | succ kj16 =>
        have H := HA.out; clear HA; simp only [falseworkref18_State.j1] at H
        by_cases c23 : x29_16 = true
        ·subst c23
         have H1 : ((falseworkref18_index.f kj16 ((rd_T70 l0_1 t282).f0) ((rd_T70 l0_1 t282).f1) ((rd_T70 l0_1 t282).f2) ((rd_T70 l0_1 t282).f3) ((rd_T70 l0_1 t282).f4) a3).bind fun t286 => (if t286 ≥ 0 then (if 0 ≤ t286 then (if t286 < (((rd_T70 l0_1 t282).f3).length : Int) then (some ((rd_T98 ((rd_T70 l0_1 t282).f3) t286).f4)) else (none)) else (none)) else (some (-1)))) = some r := by rw [if_pos rfl] at H; exact H
         clear H; have H := H1; clear H1; replace H := Option.bind_eq_some_iff.mp H; obtain ⟨t286, A240, H⟩ := H
         replace H : (if t286 ≥ 0 then (if 0 ≤ t286 then (if t286 < (((rd_T70 l0_1 t282).f3).length : Int) then (some ((rd_T98 ((rd_T70 l0_1 t282).f3) t286).f4)) else (none)) else (none)) else (some (-1))) = some r := H
         have A24 := Aside0.mk A240; clear A240; by_cases c25 : t286 ≥ 0
         ·rw [if_pos c25] at H
          have c25b0 : decide (0 ≤ t286) = true := decide_eq_true c25
          clear c25; by_cases c26 : 0 ≤ t286
          ·rw [if_pos c26] at H
           have c26b0 : decide (0 ≤ t286) = true := decide_eq_true c26
           clear c26; by_cases c27 : t286 < (((rd_T70 l0_1 t282).f3).length : Int)
           ·rw [if_pos c27] at H
            have c27b0 : decide (t286 < (((rd_T70 l0_1 t282).f3).length : Int)) = true := decide_eq_true c27
            clear c27; obtain rfl := Option.some.inj H; have hnb28 := NB285_281.out; have hnc28 := NB281_285.out; have hcz29_0 : wc.cell? ⟨gb285, 0, none⟩ = some (.int .i64 ((rd_T70 l0_1 t282).f0)) := (Go.Proofs.YtjgomlcdmpcoaaaDoorW.PrintWords.blk_cell BK285.out 0).trans rfl
            have hcz29_1 : wc.cell? ⟨gb285, 1, none⟩ = some (.string ((rd_T70 l0_1 t282).f1)) := (Go.Proofs.YtjgomlcdmpcoaaaDoorW.PrintWords.blk_cell BK285.out 1).trans rfl
            have hcz29_2 : wc.cell? ⟨gb285, 2, none⟩ = some (.slice A284_2 ((rd_T70 l0_1 t282).f2).length c284_2) := (Go.Proofs.YtjgomlcdmpcoaaaDoorW.PrintWords.blk_cell BK285.out 2).trans rfl
            have hcz29_3 : wc.cell? ⟨gb285, 3, none⟩ = some (.slice A284_3 ((rd_T70 l0_1 t282).f3).length c284_3) := (Go.Proofs.YtjgomlcdmpcoaaaDoorW.PrintWords.blk_cell BK285.out 3).trans rfl
            have hcz29_4 : wc.cell? ⟨gb285, 4, none⟩ = some (.int .i64 ((rd_T70 l0_1 t282).f4)) := (Go.Proofs.YtjgomlcdmpcoaaaDoorW.PrintWords.blk_cell BK285.out 4).trans rfl
            have hfz29_0 := blk_frozen BK285.out 0
            have hfz29_1 := blk_frozen BK285.out 1
            have hfz29_2 := blk_frozen BK285.out 2
            have hfz29_3 := blk_frozen BK285.out 3
            have hfz29_4 := blk_frozen BK285.out 4
            go_wp2_with (first | ((with_reducible refine gate_callee (f := 66) rfl ?_); refine goesL_ (some 34) rfl rfl Tryd.func66 (by kernel_rfl) rfl #[.agg #[.int .i64 ((rd_T70 l0_1 t282).f0), .string ((rd_T70 l0_1 t282).f1), .slice A284_2 ((rd_T70 l0_1 t282).f2).length c284_2, .slice A284_3 ((rd_T70 l0_1 t282).f3).length c284_3, .int .i64 ((rd_T70 l0_1 t282).f4)], .int .i64 a3] rfl (by (try simp only [List.map_toArray, List.map_cons, List.map_nil]); first | done | rfl | (simp only [List.length_drop, List.length_take]; rfl)) ?_; (with_reducible refine (falseworkref18_index.calls kj16 ((rd_T70 l0_1 t282).f0) ((rd_T70 l0_1 t282).f1) _ _ ((rd_T70 l0_1 t282).f2) _ _ ((rd_T70 l0_1 t282).f3) ((rd_T70 l0_1 t282).f4) a3 t286 _ ?side1 ?side2 ?side3 ?side4 A24.out).mono ?_); (case side1 => repeat (first | exact (Kd.C_below HR284_2.out HB.out) | (with_reducible refine Kd.C_alloc ?_ _) | (with_reducible refine Kd.C_drewN ?_ _) | (with_reducible refine Kd.C_drew ?_))); (case side2 => exact HC284_2.out); (case side3 => repeat (first | exact (Kd.C_below HR284_3.out HB.out) | (with_reducible refine Kd.C_alloc ?_ _) | (with_reducible refine Kd.C_drewN ?_ _) | (with_reducible refine Kd.C_drew ?_))); (case side4 => exact HC284_3.out); rintro e w30 ⟨rfl, hb⟩; refine ⟨_, rfl, ?_⟩; have n0_ := Aside0.mk (blk_below (g := gb281) (o := .cells #[.int .i64 a0_0, .slice (some ad284) l0_1.length c0_1, .int .i64 a0_2] 28 (0, 0)) (by (with_reducible repeat (first | refine blk_drewN ?_ _ | refine blk_drew ?_ | refine blk_alloc ?_ _)); exact BK281.out) hb); have n1_ := Aside0.mk (blk_below (g := gb285) (o := .cells #[.int .i64 ((rd_T70 l0_1 t282).f0), .string ((rd_T70 l0_1 t282).f1), .slice A284_2 ((rd_T70 l0_1 t282).f2).length c284_2, .slice A284_3 ((rd_T70 l0_1 t282).f3).length c284_3, .int .i64 ((rd_T70 l0_1 t282).f4)] 70 (0, 0)) (by (with_reducible repeat (first | refine blk_drewN ?_ _ | refine blk_drew ?_ | refine blk_alloc ?_ _)); exact BK285.out) hb); have n2_ := Aside0.mk (below_step (by repeat (first | (with_reducible first | exact HB.out | apply below_alloc | apply pw_below_drewN | apply below_drew1 | refine below_set ?_ GE281.out | refine below_set ?_ GE285.out) | exact HB.out)) hb); clear BK281; clear BK285; clear HB; have BK281 := n0_; have BK285 := n1_; have HB := n2_; clear n0_ n1_ n2_; (try clear hb); (try clear hb2); (try clear hk); (try clear hi); have hcz31_0 : w30.cell? ⟨gb285, 0, none⟩ = some (.int .i64 ((rd_T70 l0_1 t282).f0)) := (Go.Proofs.YtjgomlcdmpcoaaaDoorW.PrintWords.blk_cell BK285.out 0).trans rfl; have hcz31_1 : w30.cell? ⟨gb285, 1, none⟩ = some (.string ((rd_T70 l0_1 t282).f1)) := (Go.Proofs.YtjgomlcdmpcoaaaDoorW.PrintWords.blk_cell BK285.out 1).trans rfl; have hcz31_2 : w30.cell? ⟨gb285, 2, none⟩ = some (.slice A284_2 ((rd_T70 l0_1 t282).f2).length c284_2) := (Go.Proofs.YtjgomlcdmpcoaaaDoorW.PrintWords.blk_cell BK285.out 2).trans rfl; have hcz31_3 : w30.cell? ⟨gb285, 3, none⟩ = some (.slice A284_3 ((rd_T70 l0_1 t282).f3).length c284_3) := (Go.Proofs.YtjgomlcdmpcoaaaDoorW.PrintWords.blk_cell BK285.out 3).trans rfl; have hcz31_4 : w30.cell? ⟨gb285, 4, none⟩ = some (.int .i64 ((rd_T70 l0_1 t282).f4)) := (Go.Proofs.YtjgomlcdmpcoaaaDoorW.PrintWords.blk_cell BK285.out 4).trans rfl; have hfz31_0 := blk_frozen BK285.out 0; have hfz31_1 := blk_frozen BK285.out 1; have hfz31_2 := blk_frozen BK285.out 2; have hfz31_3 := blk_frozen BK285.out 3; have hfz31_4 := blk_frozen BK285.out 4; have p287 : 0 ≤ (t286 : Int) := of_decide_eq_true (by first | (with_reducible assumption) | assumption); have q287 : t286 < (((rd_T70 l0_1 t282).f3).length : Int) := of_decide_eq_true (by first | (with_reducible assumption) | assumption); obtain ⟨ad287, A287_2, c287_2, e287, hx287_0, hx287_1, hx287_2, hx287_3, hx287_4, hl287_2, hi287_2⟩ := at_T98 HR284_3.out t286 p287 q287; cases e287; replace hx287_0 := (HB.out.cell (World.block_lt_of_cell? w _ hx287_0)).trans hx287_0; replace hx287_1 := (HB.out.cell (World.block_lt_of_cell? w _ hx287_1)).trans hx287_1; replace hx287_2 := (HB.out.cell (World.block_lt_of_cell? w _ hx287_2)).trans hx287_2; replace hx287_3 := (HB.out.cell (World.block_lt_of_cell? w _ hx287_3)).trans hx287_3; replace hx287_4 := (HB.out.cell (World.block_lt_of_cell? w _ hx287_4)).trans hx287_4; have HR287_2 := Aside0.mk hi287_2; have HC287_2 := Aside0.mk hl287_2; clear hi287_2 hl287_2; replace p287 := eq_true p287; replace q287 := eq_true q287))
            go_ret; exact ⟨by first | rfl | (simp [*] <;> rfl), by repeat (first | exact HB.out | exact Below.refl _ _ | apply below_alloc | apply pw_below_drewN | apply below_drew1)⟩
           ·rw [if_neg c27] at H
            exact absurd H (by simp)
          ·rw [if_neg c26] at H
           exact absurd H (by simp)
         ·rw [if_neg c25] at H
          have c25b0 : decide (0 ≤ t286) = false := decide_eq_false c25
          clear c25; obtain rfl := Option.some.inj H; have hnb32 := NB285_281.out; have hnc32 := NB281_285.out; have hcz33_0 : wc.cell? ⟨gb285, 0, none⟩ = some (.int .i64 ((rd_T70 l0_1 t282).f0)) := (Go.Proofs.YtjgomlcdmpcoaaaDoorW.PrintWords.blk_cell BK285.out 0).trans rfl
          have hcz33_1 : wc.cell? ⟨gb285, 1, none⟩ = some (.string ((rd_T70 l0_1 t282).f1)) := (Go.Proofs.YtjgomlcdmpcoaaaDoorW.PrintWords.blk_cell BK285.out 1).trans rfl
          have hcz33_2 : wc.cell? ⟨gb285, 2, none⟩ = some (.slice A284_2 ((rd_T70 l0_1 t282).f2).length c284_2) := (Go.Proofs.YtjgomlcdmpcoaaaDoorW.PrintWords.blk_cell BK285.out 2).trans rfl
          have hcz33_3 : wc.cell? ⟨gb285, 3, none⟩ = some (.slice A284_3 ((rd_T70 l0_1 t282).f3).length c284_3) := (Go.Proofs.YtjgomlcdmpcoaaaDoorW.PrintWords.blk_cell BK285.out 3).trans rfl
          have hcz33_4 : wc.cell? ⟨gb285, 4, none⟩ = some (.int .i64 ((rd_T70 l0_1 t282).f4)) := (Go.Proofs.YtjgomlcdmpcoaaaDoorW.PrintWords.blk_cell BK285.out 4).trans rfl
          have hfz33_0 := blk_frozen BK285.out 0
          have hfz33_1 := blk_frozen BK285.out 1
          have hfz33_2 := blk_frozen BK285.out 2
          have hfz33_3 := blk_frozen BK285.out 3
          have hfz33_4 := blk_frozen BK285.out 4
          go_wp2_with (first | ((with_reducible refine gate_callee (f := 66) rfl ?_); refine goesL_ (some 34) rfl rfl Tryd.func66 (by kernel_rfl) rfl #[.agg #[.int .i64 ((rd_T70 l0_1 t282).f0), .string ((rd_T70 l0_1 t282).f1), .slice A284_2 ((rd_T70 l0_1 t282).f2).length c284_2, .slice A284_3 ((rd_T70 l0_1 t282).f3).length c284_3, .int .i64 ((rd_T70 l0_1 t282).f4)], .int .i64 a3] rfl (by (try simp only [List.map_toArray, List.map_cons, List.map_nil]); first | done | rfl | (simp only [List.length_drop, List.length_take]; rfl)) ?_; (with_reducible refine (falseworkref18_index.calls kj16 ((rd_T70 l0_1 t282).f0) ((rd_T70 l0_1 t282).f1) _ _ ((rd_T70 l0_1 t282).f2) _ _ ((rd_T70 l0_1 t282).f3) ((rd_T70 l0_1 t282).f4) a3 t286 _ ?side1 ?side2 ?side3 ?side4 A24.out).mono ?_); (case side1 => repeat (first | exact (Kd.C_below HR284_2.out HB.out) | (with_reducible refine Kd.C_alloc ?_ _) | (with_reducible refine Kd.C_drewN ?_ _) | (with_reducible refine Kd.C_drew ?_))); (case side2 => exact HC284_2.out); (case side3 => repeat (first | exact (Kd.C_below HR284_3.out HB.out) | (with_reducible refine Kd.C_alloc ?_ _) | (with_reducible refine Kd.C_drewN ?_ _) | (with_reducible refine Kd.C_drew ?_))); (case side4 => exact HC284_3.out); rintro e w34 ⟨rfl, hb⟩; refine ⟨_, rfl, ?_⟩; have n0_ := Aside0.mk (blk_below (g := gb281) (o := .cells #[.int .i64 a0_0, .slice (some ad284) l0_1.length c0_1, .int .i64 a0_2] 28 (0, 0)) (by (with_reducible repeat (first | refine blk_drewN ?_ _ | refine blk_drew ?_ | refine blk_alloc ?_ _)); exact BK281.out) hb); have n1_ := Aside0.mk (blk_below (g := gb285) (o := .cells #[.int .i64 ((rd_T70 l0_1 t282).f0), .string ((rd_T70 l0_1 t282).f1), .slice A284_2 ((rd_T70 l0_1 t282).f2).length c284_2, .slice A284_3 ((rd_T70 l0_1 t282).f3).length c284_3, .int .i64 ((rd_T70 l0_1 t282).f4)] 70 (0, 0)) (by (with_reducible repeat (first | refine blk_drewN ?_ _ | refine blk_drew ?_ | refine blk_alloc ?_ _)); exact BK285.out) hb); have n2_ := Aside0.mk (below_step (by repeat (first | (with_reducible first | exact HB.out | apply below_alloc | apply pw_below_drewN | apply below_drew1 | refine below_set ?_ GE281.out | refine below_set ?_ GE285.out) | exact HB.out)) hb); clear BK281; clear BK285; clear HB; have BK281 := n0_; have BK285 := n1_; have HB := n2_; clear n0_ n1_ n2_; (try clear hb); (try clear hb2); (try clear hk); (try clear hi)))
          go_ret; exact ⟨by first | rfl | (simp [*] <;> rfl), by repeat (first | exact HB.out | exact Below.refl _ _ | apply below_alloc | apply pw_below_drewN | apply below_drew1)⟩
        ·replace c23 := Bool.eq_false_iff.mpr c23
         subst c23; have H1 : (if a1 = 8 then (falseworkref18_State.j2 kj16 a1 a3 (a1 == 8) ((rd_T70 l0_1 t282).f0) ((rd_T70 l0_1 t282).f1) ((rd_T70 l0_1 t282).f2) ((rd_T70 l0_1 t282).f3) ((rd_T70 l0_1 t282).f4)) else (if a1 = 9 then (falseworkref18_State.j2 kj16 a1 a3 (a1 == 9) ((rd_T70 l0_1 t282).f0) ((rd_T70 l0_1 t282).f1) ((rd_T70 l0_1 t282).f2) ((rd_T70 l0_1 t282).f3) ((rd_T70 l0_1 t282).f4)) else (if a1 = 10 then (falseworkref18_State.j2 kj16 a1 a3 (a1 == 10) ((rd_T70 l0_1 t282).f0) ((rd_T70 l0_1 t282).f1) ((rd_T70 l0_1 t282).f2) ((rd_T70 l0_1 t282).f3) ((rd_T70 l0_1 t282).f4)) else (falseworkref18_State.j2 kj16 a1 a3 (a1 == 11) ((rd_T70 l0_1 t282).f0) ((rd_T70 l0_1 t282).f1) ((rd_T70 l0_1 t282).f2) ((rd_T70 l0_1 t282).f3) ((rd_T70 l0_1 t282).f4))))) = some r := by rw [if_neg (show ¬ (false = true) by decide)] at H; exact H
         clear H; have H := H1; clear H1; have HC35 := Aside0.mk H; clear H; go_upto_if 43 with (fail)
         go_cut [43] (fun v43 wc => ∃ (kq : Nat) (x43_34 : Bool), v43 = .bool x43_34 ∧ Aside0 (falseworkref18_State.j2 kq a1 a3 x43_34 ((rd_T70 l0_1 t282).f0) ((rd_T70 l0_1 t282).f1) ((rd_T70 l0_1 t282).f2) ((rd_T70 l0_1 t282).f3) ((rd_T70 l0_1 t282).f4) = some r) ∧ Aside0 (kq ≤ kj16) ∧ Aside0 (wc.heap[gb281]? = some (.cells #[.int .i64 a0_0, (.slice (some ad284) l0_1.length c0_1), .int .i64 a0_2] 28 (0, 0))) ∧ Aside0 (wc.heap[gb285]? = some (.cells #[.int .i64 ((rd_T70 l0_1 t282).f0), .string ((rd_T70 l0_1 t282).f1), (.slice A284_2 ((rd_T70 l0_1 t282).f2).length c284_2), (.slice A284_3 ((rd_T70 l0_1 t282).f3).length c284_3), .int .i64 ((rd_T70 l0_1 t282).f4)] 70 (0, 0))) ∧ Aside0 (Below w.heap.size w wc))
         case first =>
          have H := HC35.out; clear HC35; by_cases c36 : a1 = 8
          ·rw [if_pos c36] at H
           have c36b0 : (a1 == 8) = true := beq_iff_eq.mpr c36
           have c36b1 : (a1 != 8) = false := bne_eq_false_iff_eq.mpr c36
           clear c36
           (first | rw [c36b0] | (simp only [i64_w, i32_w]; rw [c36b0]) | skip)
           have H' := Aside0.mk H; clear H; go_wp2; go_meet
           case rel => exact ⟨_, ((a1 == 8)), (by first | rfl | (simp; done) | (simp [*]; done)), H', ⟨by have := HJ5.out; have := HJ16.out; first | omega | exact Nat.le_refl _⟩, ⟨by (with_reducible repeat (first | refine blk_drewN ?_ _ | refine blk_drew ?_ | refine blk_alloc ?_ _)); exact BK281.out⟩, ⟨by (with_reducible repeat (first | refine blk_drewN ?_ _ | refine blk_drew ?_ | refine blk_alloc ?_ _)); exact BK285.out⟩, ⟨by repeat (first | (with_reducible first | exact HB.out | apply below_alloc | apply pw_below_drewN | apply below_drew1 | refine below_set ?_ GE281.out | refine below_set ?_ GE285.out) | exact HB.out)⟩⟩
          ·rw [if_neg c36] at H
           have c36b0 : (a1 == 8) = false := beq_eq_false_iff_ne.mpr c36
           have c36b1 : (a1 != 8) = true := bne_iff_ne.mpr c36
           (first | rw [c36b0] | (simp only [i64_w, i32_w]; rw [c36b0]) | skip)
           by_cases c37 : a1 = 9
           ·rw [if_pos c37] at H
            have c37b0 : (a1 == 9) = true := beq_iff_eq.mpr c37
            have c37b1 : (a1 != 9) = false := bne_eq_false_iff_eq.mpr c37
            clear c37; have H' := Aside0.mk H; clear H; go_wp2; go_meet
            case rel => exact ⟨_, ((a1 == 9)), (by first | rfl | (simp; done) | (simp [*]; done)), H', ⟨by have := HJ5.out; have := HJ16.out; first | omega | exact Nat.le_refl _⟩, ⟨by (with_reducible repeat (first | refine blk_drewN ?_ _ | refine blk_drew ?_ | refine blk_alloc ?_ _)); exact BK281.out⟩, ⟨by (with_reducible repeat (first | refine blk_drewN ?_ _ | refine blk_drew ?_ | refine blk_alloc ?_ _)); exact BK285.out⟩, ⟨by repeat (first | (with_reducible first | exact HB.out | apply below_alloc | apply pw_below_drewN | apply below_drew1 | refine below_set ?_ GE281.out | refine below_set ?_ GE285.out) | exact HB.out)⟩⟩
           ·rw [if_neg c37] at H
            have c37b0 : (a1 == 9) = false := beq_eq_false_iff_ne.mpr c37
            have c37b1 : (a1 != 9) = true := bne_iff_ne.mpr c37
            by_cases c38 : a1 = 10
            ·rw [if_pos c38] at H
             have c38b0 : (a1 == 10) = true := beq_iff_eq.mpr c38
             have c38b1 : (a1 != 10) = false := bne_eq_false_iff_eq.mpr c38
             clear c38; have H' := Aside0.mk H; clear H; go_wp2; go_meet
             case rel => exact ⟨_, ((a1 == 10)), (by first | rfl | (simp; done) | (simp [*]; done)), H', ⟨by have := HJ5.out; have := HJ16.out; first | omega | exact Nat.le_refl _⟩, ⟨by (with_reducible repeat (first | refine blk_drewN ?_ _ | refine blk_drew ?_ | refine blk_alloc ?_ _)); exact BK281.out⟩, ⟨by (with_reducible repeat (first | refine blk_drewN ?_ _ | refine blk_drew ?_ | refine blk_alloc ?_ _)); exact BK285.out⟩, ⟨by repeat (first | (with_reducible first | exact HB.out | apply below_alloc | apply pw_below_drewN | apply below_drew1 | refine below_set ?_ GE281.out | refine below_set ?_ GE285.out) | exact HB.out)⟩⟩
            ·rw [if_neg c38] at H
             have c38b0 : (a1 == 10) = false := beq_eq_false_iff_ne.mpr c38
             have c38b1 : (a1 != 10) = true := bne_iff_ne.mpr c38
             have H' := Aside0.mk H; clear H; go_wp2; go_meet
             case rel => exact ⟨_, ((a1 == 11)), (by first | rfl | (simp; done) | (simp [*]; done)), H', ⟨by have := HJ5.out; have := HJ16.out; first | omega | exact Nat.le_refl _⟩, ⟨by (with_reducible repeat (first | refine blk_drewN ?_ _ | refine blk_drew ?_ | refine blk_alloc ?_ _)); exact BK281.out⟩, ⟨by (with_reducible repeat (first | refine blk_drewN ?_ _ | refine blk_drew ?_ | refine blk_alloc ?_ _)); exact BK285.out⟩, ⟨by repeat (first | (with_reducible first | exact HB.out | apply below_alloc | apply pw_below_drewN | apply below_drew1 | refine below_set ?_ GE281.out | refine below_set ?_ GE285.out) | exact HB.out)⟩⟩
         case rest =>
          clear HC35; obtain ⟨kq, x43_34, rfl, HA, HJ34, BK281, BK285, HB⟩ := hcut
          cases kq with
          | zero => exact absurd HA.out (by simp [falseworkref18_State.j2])
          | succ kj34 =>
           have H := HA.out; clear HA; simp only [falseworkref18_State.j2] at H
           by_cases c39 : x43_34 = true
           ·subst c39
            have H1 : ((falseworkref18_column.f kj34 ((rd_T70 l0_1 t282).f0) ((rd_T70 l0_1 t282).f1) ((rd_T70 l0_1 t282).f2) ((rd_T70 l0_1 t282).f3) ((rd_T70 l0_1 t282).f4) a3).bind fun t288 => (if t288 ≥ 0 then (falseworkref18_State.j3 kj34 t288 (decide (a1 < 10)) ((rd_T70 l0_1 t282).f0) ((rd_T70 l0_1 t282).f1) ((rd_T70 l0_1 t282).f2) ((rd_T70 l0_1 t282).f3) ((rd_T70 l0_1 t282).f4)) else (falseworkref18_State.j3 kj34 t288 false ((rd_T70 l0_1 t282).f0) ((rd_T70 l0_1 t282).f1) ((rd_T70 l0_1 t282).f2) ((rd_T70 l0_1 t282).f3) ((rd_T70 l0_1 t282).f4)))) = some r := by rw [if_pos rfl] at H; exact H
            clear H; have H := H1; clear H1; replace H := Option.bind_eq_some_iff.mp H; obtain ⟨t288, A400, H⟩ := H
            replace H : (if t288 ≥ 0 then (falseworkref18_State.j3 kj34 t288 (decide (a1 < 10)) ((rd_T70 l0_1 t282).f0) ((rd_T70 l0_1 t282).f1) ((rd_T70 l0_1 t282).f2) ((rd_T70 l0_1 t282).f3) ((rd_T70 l0_1 t282).f4)) else (falseworkref18_State.j3 kj34 t288 false ((rd_T70 l0_1 t282).f0) ((rd_T70 l0_1 t282).f1) ((rd_T70 l0_1 t282).f2) ((rd_T70 l0_1 t282).f3) ((rd_T70 l0_1 t282).f4))) = some r := H
            have A40 := Aside0.mk A400; clear A400; have HC41 := Aside0.mk H; clear H; have hnb42 := NB285_281.out; have hnc42 := NB281_285.out; have hcz43_0 : wc.cell? ⟨gb285, 0, none⟩ = some (.int .i64 ((rd_T70 l0_1 t282).f0)) := (Go.Proofs.YtjgomlcdmpcoaaaDoorW.PrintWords.blk_cell BK285.out 0).trans rfl
            have hcz43_1 : wc.cell? ⟨gb285, 1, none⟩ = some (.string ((rd_T70 l0_1 t282).f1)) := (Go.Proofs.YtjgomlcdmpcoaaaDoorW.PrintWords.blk_cell BK285.out 1).trans rfl
            have hcz43_2 : wc.cell? ⟨gb285, 2, none⟩ = some (.slice A284_2 ((rd_T70 l0_1 t282).f2).length c284_2) := (Go.Proofs.YtjgomlcdmpcoaaaDoorW.PrintWords.blk_cell BK285.out 2).trans rfl
            have hcz43_3 : wc.cell? ⟨gb285, 3, none⟩ = some (.slice A284_3 ((rd_T70 l0_1 t282).f3).length c284_3) := (Go.Proofs.YtjgomlcdmpcoaaaDoorW.PrintWords.blk_cell BK285.out 3).trans rfl
            have hcz43_4 : wc.cell? ⟨gb285, 4, none⟩ = some (.int .i64 ((rd_T70 l0_1 t282).f4)) := (Go.Proofs.YtjgomlcdmpcoaaaDoorW.PrintWords.blk_cell BK285.out 4).trans rfl
            have hfz43_0 := blk_frozen BK285.out 0
            have hfz43_1 := blk_frozen BK285.out 1
            have hfz43_2 := blk_frozen BK285.out 2
            have hfz43_3 := blk_frozen BK285.out 3
            have hfz43_4 := blk_frozen BK285.out 4
            go_upto_region 16 with (first | ((with_reducible refine gate_callee (f := 67) rfl ?_); refine goesL_ (some 50) rfl rfl Tryd.func67 (by kernel_rfl) rfl #[.agg #[.int .i64 ((rd_T70 l0_1 t282).f0), .string ((rd_T70 l0_1 t282).f1), .slice A284_2 ((rd_T70 l0_1 t282).f2).length c284_2, .slice A284_3 ((rd_T70 l0_1 t282).f3).length c284_3, .int .i64 ((rd_T70 l0_1 t282).f4)], .int .i64 a3] rfl (by (try simp only [List.map_toArray, List.map_cons, List.map_nil]); first | done | rfl | (simp only [List.length_drop, List.length_take]; rfl)) ?_; (with_reducible refine (falseworkref18_column.calls kj34 ((rd_T70 l0_1 t282).f0) ((rd_T70 l0_1 t282).f1) _ _ ((rd_T70 l0_1 t282).f2) _ _ ((rd_T70 l0_1 t282).f3) ((rd_T70 l0_1 t282).f4) a3 t288 _ ?side1 ?side2 ?side3 ?side4 A40.out).mono ?_); (case side1 => repeat (first | exact (Kd.C_below HR284_2.out HB.out) | (with_reducible refine Kd.C_alloc ?_ _) | (with_reducible refine Kd.C_drewN ?_ _) | (with_reducible refine Kd.C_drew ?_))); (case side2 => exact HC284_2.out); (case side3 => repeat (first | exact (Kd.C_below HR284_3.out HB.out) | (with_reducible refine Kd.C_alloc ?_ _) | (with_reducible refine Kd.C_drewN ?_ _) | (with_reducible refine Kd.C_drew ?_))); (case side4 => exact HC284_3.out); rintro e w44 ⟨rfl, hb⟩; refine ⟨_, rfl, ?_⟩; have n0_ := Aside0.mk (blk_below (g := gb281) (o := .cells #[.int .i64 a0_0, .slice (some ad284) l0_1.length c0_1, .int .i64 a0_2] 28 (0, 0)) (by (with_reducible repeat (first | refine blk_drewN ?_ _ | refine blk_drew ?_ | refine blk_alloc ?_ _)); exact BK281.out) hb); have n1_ := Aside0.mk (blk_below (g := gb285) (o := .cells #[.int .i64 ((rd_T70 l0_1 t282).f0), .string ((rd_T70 l0_1 t282).f1), .slice A284_2 ((rd_T70 l0_1 t282).f2).length c284_2, .slice A284_3 ((rd_T70 l0_1 t282).f3).length c284_3, .int .i64 ((rd_T70 l0_1 t282).f4)] 70 (0, 0)) (by (with_reducible repeat (first | refine blk_drewN ?_ _ | refine blk_drew ?_ | refine blk_alloc ?_ _)); exact BK285.out) hb); have n2_ := Aside0.mk (below_step (by repeat (first | (with_reducible first | exact HB.out | apply below_alloc | apply pw_below_drewN | apply below_drew1 | refine below_set ?_ GE281.out | refine below_set ?_ GE285.out) | exact HB.out)) hb); clear BK281; clear BK285; clear HB; have BK281 := n0_; have BK285 := n1_; have HB := n2_; clear n0_ n1_ n2_; (try clear hb); (try clear hb2); (try clear hk); (try clear hi)))
            (try simp only [Act.put, List.setIfInBounds_toArray, List.set_cons_zero, List.set_cons_succ])
            go_cut [56] (fun v56 wc => ∃ (kq : Nat) (x56_40 : Bool), v56 = .bool x56_40 ∧ Aside0 (falseworkref18_State.j3 kq t288 x56_40 ((rd_T70 l0_1 t282).f0) ((rd_T70 l0_1 t282).f1) ((rd_T70 l0_1 t282).f2) ((rd_T70 l0_1 t282).f3) ((rd_T70 l0_1 t282).f4) = some r) ∧ Aside0 (kq ≤ kj34) ∧ Aside0 (wc.heap[gb281]? = some (.cells #[.int .i64 a0_0, (.slice (some ad284) l0_1.length c0_1), .int .i64 a0_2] 28 (0, 0))) ∧ Aside0 (wc.heap[gb285]? = some (.cells #[.int .i64 ((rd_T70 l0_1 t282).f0), .string ((rd_T70 l0_1 t282).f1), (.slice A284_2 ((rd_T70 l0_1 t282).f2).length c284_2), (.slice A284_3 ((rd_T70 l0_1 t282).f3).length c284_3), .int .i64 ((rd_T70 l0_1 t282).f4)] 70 (0, 0))) ∧ Aside0 (Below w.heap.size w wc))
            case first =>
             have H := HC41.out; clear HC41; by_cases c45 : t288 ≥ 0
             ·rw [if_pos c45] at H
              have c45b0 : decide (0 ≤ t288) = true := decide_eq_true c45
              clear c45
              (first | rw [c45b0] | (simp only [i64_w, i32_w]; rw [c45b0]) | skip)
              have H' := Aside0.mk H; clear H; go_wp2; go_meet
              case rel => exact ⟨_, (decide (a1 < 10)), (by first | rfl | (simp; done) | (simp [*]; done)), H', ⟨by have := HJ5.out; have := HJ16.out; have := HJ34.out; first | omega | exact Nat.le_refl _⟩, ⟨by (with_reducible repeat (first | refine blk_drewN ?_ _ | refine blk_drew ?_ | refine blk_alloc ?_ _)); exact BK281.out⟩, ⟨by (with_reducible repeat (first | refine blk_drewN ?_ _ | refine blk_drew ?_ | refine blk_alloc ?_ _)); exact BK285.out⟩, ⟨by repeat (first | (with_reducible first | exact HB.out | apply below_alloc | apply pw_below_drewN | apply below_drew1 | refine below_set ?_ GE281.out | refine below_set ?_ GE285.out) | exact HB.out)⟩⟩
             ·rw [if_neg c45] at H
              have c45b0 : decide (0 ≤ t288) = false := decide_eq_false c45
              clear c45
              (first | rw [c45b0] | (simp only [i64_w, i32_w]; rw [c45b0]) | skip)
              have H' := Aside0.mk H; clear H; go_wp2; go_meet
              case rel => exact ⟨_, (false), (by first | rfl | (simp; done) | (simp [*]; done)), H', ⟨by have := HJ5.out; have := HJ16.out; have := HJ34.out; first | omega | exact Nat.le_refl _⟩, ⟨by (with_reducible repeat (first | refine blk_drewN ?_ _ | refine blk_drew ?_ | refine blk_alloc ?_ _)); exact BK281.out⟩, ⟨by (with_reducible repeat (first | refine blk_drewN ?_ _ | refine blk_drew ?_ | refine blk_alloc ?_ _)); exact BK285.out⟩, ⟨by repeat (first | (with_reducible first | exact HB.out | apply below_alloc | apply pw_below_drewN | apply below_drew1 | refine below_set ?_ GE281.out | refine below_set ?_ GE285.out) | exact HB.out)⟩⟩
            case rest =>
             clear HC41; obtain ⟨kq, x56_40, rfl, HA, HJ40, BK281, BK285, HB⟩ := hcut
             cases kq with
             | zero => exact absurd HA.out (by simp [falseworkref18_State.j3])
             | succ kj40 =>
              have H := HA.out; clear HA; simp only [falseworkref18_State.j3] at H
              by_cases c46 : x56_40 = true
              ·subst c46
               have H1 : (if 0 ≤ t288 then (if t288 < (((rd_T70 l0_1 t282).f2).length : Int) then (some ((rd_T75 ((rd_T70 l0_1 t282).f2) t288).f3)) else (none)) else (none)) = some r := by rw [if_pos rfl] at H; exact H
               clear H; have H := H1; clear H1; by_cases c47 : 0 ≤ t288
               ·rw [if_pos c47] at H
                have c47b0 : decide (0 ≤ t288) = true := decide_eq_true c47
                clear c47; by_cases c48 : t288 < (((rd_T70 l0_1 t282).f2).length : Int)
                ·rw [if_pos c48] at H
                 have c48b0 : decide (t288 < (((rd_T70 l0_1 t282).f2).length : Int)) = true := decide_eq_true c48
                 clear c48; obtain rfl := Option.some.inj H; have hnb49 := NB285_281.out; have hnc49 := NB281_285.out; have hcz50_0 : wc.cell? ⟨gb285, 0, none⟩ = some (.int .i64 ((rd_T70 l0_1 t282).f0)) := (Go.Proofs.YtjgomlcdmpcoaaaDoorW.PrintWords.blk_cell BK285.out 0).trans rfl
                 have hcz50_1 : wc.cell? ⟨gb285, 1, none⟩ = some (.string ((rd_T70 l0_1 t282).f1)) := (Go.Proofs.YtjgomlcdmpcoaaaDoorW.PrintWords.blk_cell BK285.out 1).trans rfl
                 have hcz50_2 : wc.cell? ⟨gb285, 2, none⟩ = some (.slice A284_2 ((rd_T70 l0_1 t282).f2).length c284_2) := (Go.Proofs.YtjgomlcdmpcoaaaDoorW.PrintWords.blk_cell BK285.out 2).trans rfl
                 have hcz50_3 : wc.cell? ⟨gb285, 3, none⟩ = some (.slice A284_3 ((rd_T70 l0_1 t282).f3).length c284_3) := (Go.Proofs.YtjgomlcdmpcoaaaDoorW.PrintWords.blk_cell BK285.out 3).trans rfl
                 have hcz50_4 : wc.cell? ⟨gb285, 4, none⟩ = some (.int .i64 ((rd_T70 l0_1 t282).f4)) := (Go.Proofs.YtjgomlcdmpcoaaaDoorW.PrintWords.blk_cell BK285.out 4).trans rfl
                 have hfz50_0 := blk_frozen BK285.out 0
                 have hfz50_1 := blk_frozen BK285.out 1
                 have hfz50_2 := blk_frozen BK285.out 2
                 have hfz50_3 := blk_frozen BK285.out 3
                 have hfz50_4 := blk_frozen BK285.out 4
                 have p289 : 0 ≤ (t288 : Int) := of_decide_eq_true (by first | (with_reducible assumption) | assumption)
                 have q289 : t288 < (((rd_T70 l0_1 t282).f2).length : Int) := of_decide_eq_true (by first | (with_reducible assumption) | assumption)
                 obtain ⟨ad289, e289, hx289_0, hx289_1, hx289_2, hx289_3, hx289_4, hx289_5, hx289_6, hx289_7, hx289_8⟩ := at_T75 HR284_2.out t288 p289 q289
                 cases e289
                 replace hx289_0 := (HB.out.cell (World.block_lt_of_cell? w _ hx289_0)).trans hx289_0
                 replace hx289_1 := (HB.out.cell (World.block_lt_of_cell? w _ hx289_1)).trans hx289_1
                 replace hx289_2 := (HB.out.cell (World.block_lt_of_cell? w _ hx289_2)).trans hx289_2
                 replace hx289_3 := (HB.out.cell (World.block_lt_of_cell? w _ hx289_3)).trans hx289_3
                 replace hx289_4 := (HB.out.cell (World.block_lt_of_cell? w _ hx289_4)).trans hx289_4
                 replace hx289_5 := (HB.out.cell (World.block_lt_of_cell? w _ hx289_5)).trans hx289_5
                 replace hx289_6 := (HB.out.cell (World.block_lt_of_cell? w _ hx289_6)).trans hx289_6
                 replace hx289_7 := (HB.out.cell (World.block_lt_of_cell? w _ hx289_7)).trans hx289_7
                 replace hx289_8 := (HB.out.cell (World.block_lt_of_cell? w _ hx289_8)).trans hx289_8
                 replace p289 := eq_true p289
                 replace q289 := eq_true q289
                 go_wp2; go_ret; exact ⟨by first | rfl | (simp [*] <;> rfl), by repeat (first | exact HB.out | exact Below.refl _ _ | apply below_alloc | apply pw_below_drewN | apply below_drew1)⟩
                ·rw [if_neg c48] at H
                 exact absurd H (by simp)
               ·rw [if_neg c47] at H
                exact absurd H (by simp)
              ·replace c46 := Bool.eq_false_iff.mpr c46
               subst c46; have H1 : (if t288 ≥ 0 then (if 0 ≤ t288 then (if t288 < (((rd_T70 l0_1 t282).f2).length : Int) then (some ((rd_T75 ((rd_T70 l0_1 t282).f2) t288).f4)) else (none)) else (none)) else (some (-1))) = some r := by rw [if_neg (show ¬ (false = true) by decide)] at H; exact H
               clear H; have H := H1; clear H1; by_cases c51 : t288 ≥ 0
               ·rw [if_pos c51] at H
                have c51b0 : decide (0 ≤ t288) = true := decide_eq_true c51
                clear c51; by_cases c52 : 0 ≤ t288
                ·rw [if_pos c52] at H
                 have c52b0 : decide (0 ≤ t288) = true := decide_eq_true c52
                 clear c52; by_cases c53 : t288 < (((rd_T70 l0_1 t282).f2).length : Int)
                 ·rw [if_pos c53] at H
                  have c53b0 : decide (t288 < (((rd_T70 l0_1 t282).f2).length : Int)) = true := decide_eq_true c53
                  clear c53; obtain rfl := Option.some.inj H; have hnb54 := NB285_281.out; have hnc54 := NB281_285.out; have hcz55_0 : wc.cell? ⟨gb285, 0, none⟩ = some (.int .i64 ((rd_T70 l0_1 t282).f0)) := (Go.Proofs.YtjgomlcdmpcoaaaDoorW.PrintWords.blk_cell BK285.out 0).trans rfl
                  have hcz55_1 : wc.cell? ⟨gb285, 1, none⟩ = some (.string ((rd_T70 l0_1 t282).f1)) := (Go.Proofs.YtjgomlcdmpcoaaaDoorW.PrintWords.blk_cell BK285.out 1).trans rfl
                  have hcz55_2 : wc.cell? ⟨gb285, 2, none⟩ = some (.slice A284_2 ((rd_T70 l0_1 t282).f2).length c284_2) := (Go.Proofs.YtjgomlcdmpcoaaaDoorW.PrintWords.blk_cell BK285.out 2).trans rfl
                  have hcz55_3 : wc.cell? ⟨gb285, 3, none⟩ = some (.slice A284_3 ((rd_T70 l0_1 t282).f3).length c284_3) := (Go.Proofs.YtjgomlcdmpcoaaaDoorW.PrintWords.blk_cell BK285.out 3).trans rfl
                  have hcz55_4 : wc.cell? ⟨gb285, 4, none⟩ = some (.int .i64 ((rd_T70 l0_1 t282).f4)) := (Go.Proofs.YtjgomlcdmpcoaaaDoorW.PrintWords.blk_cell BK285.out 4).trans rfl
                  have hfz55_0 := blk_frozen BK285.out 0
                  have hfz55_1 := blk_frozen BK285.out 1
                  have hfz55_2 := blk_frozen BK285.out 2
                  have hfz55_3 := blk_frozen BK285.out 3
                  have hfz55_4 := blk_frozen BK285.out 4
                  have p290 : 0 ≤ (t288 : Int) := of_decide_eq_true (by first | (with_reducible assumption) | assumption)
                  have q290 : t288 < (((rd_T70 l0_1 t282).f2).length : Int) := of_decide_eq_true (by first | (with_reducible assumption) | assumption)
                  obtain ⟨ad290, e290, hx290_0, hx290_1, hx290_2, hx290_3, hx290_4, hx290_5, hx290_6, hx290_7, hx290_8⟩ := at_T75 HR284_2.out t288 p290 q290
                  cases e290
                  replace hx290_0 := (HB.out.cell (World.block_lt_of_cell? w _ hx290_0)).trans hx290_0
                  replace hx290_1 := (HB.out.cell (World.block_lt_of_cell? w _ hx290_1)).trans hx290_1
                  replace hx290_2 := (HB.out.cell (World.block_lt_of_cell? w _ hx290_2)).trans hx290_2
                  replace hx290_3 := (HB.out.cell (World.block_lt_of_cell? w _ hx290_3)).trans hx290_3
                  replace hx290_4 := (HB.out.cell (World.block_lt_of_cell? w _ hx290_4)).trans hx290_4
                  replace hx290_5 := (HB.out.cell (World.block_lt_of_cell? w _ hx290_5)).trans hx290_5
                  replace hx290_6 := (HB.out.cell (World.block_lt_of_cell? w _ hx290_6)).trans hx290_6
                  replace hx290_7 := (HB.out.cell (World.block_lt_of_cell? w _ hx290_7)).trans hx290_7
                  replace hx290_8 := (HB.out.cell (World.block_lt_of_cell? w _ hx290_8)).trans hx290_8
                  replace p290 := eq_true p290
                  replace q290 := eq_true q290
                  go_wp2; go_ret; exact ⟨by first | rfl | (simp [*] <;> rfl), by repeat (first | exact HB.out | exact Below.refl _ _ | apply below_alloc | apply pw_below_drewN | apply below_drew1)⟩
                 ·rw [if_neg c53] at H
                  exact absurd H (by simp)
                ·rw [if_neg c52] at H
                 exact absurd H (by simp)
               ·rw [if_neg c51] at H
                have c51b0 : decide (0 ≤ t288) = false := decide_eq_false c51
                clear c51; obtain rfl := Option.some.inj H; go_wp2; go_ret; exact ⟨by first | rfl | (simp [*] <;> rfl), by repeat (first | exact HB.out | exact Below.refl _ _ | apply below_alloc | apply pw_below_drewN | apply below_drew1)⟩
           ·replace c39 := Bool.eq_false_iff.mpr c39
            subst c39; have H1 : (some (-1)) = some r := by rw [if_neg (show ¬ (false = true) by decide)] at H; exact H
            clear H; have H := H1; clear H1; obtain rfl := Option.some.inj H; go_wp2; go_ret; exact ⟨by first | rfl | (simp [*] <;> rfl), by repeat (first | exact HB.out | exact Below.refl _ _ | apply below_alloc | apply pw_below_drewN | apply below_drew1)⟩
     ·rw [if_neg c16] at H
      exact absurd H (by simp)
    ·rw [if_neg c15] at H
     exact absurd H (by simp)
end Go.Proofs.YtjgomlcdmpcoaaaDoor.D



namespace Go.Proofs.YtjgomlcdmpcoaaaDoor.D
open Go.RowKit Go.Proofs.YtjgomlcdmpcoaaaDoorW.PrintWords Go.Proofs.YtjgomlcdmpcoaaaDoorW.PrintLast Go.Proofs.YtjgomlcdmpcoaaaDoorW.PrintMore
attribute [local go_sem] max2_int min2_int max_two min_two max_three min_three max_four min_four
set_option linter.unusedVariables false
set_option linter.unusedSimpArgs false
mutual
def falseworkref18_used.l0 : Nat → Int → Int → Int → ByteArray → List (S75) → List (S98) → Int → Option (Bool)
 | 0, _, _, _, _, _, _, _ => none
 | k + 1, x1, x5, x257000, x257001, x257002, x257003, x257004 => if x5 < (x257003.length : Int) then (falseworkref18_used.l1 k x1 x5 0 x257000 x257001 x257002 x257003 x257004) else (some false)
def falseworkref18_used.l1 : Nat → Int → Int → Int → Int → ByteArray → List (S75) → List (S98) → Int → Option (Bool)
 | 0, _, _, _, _, _, _, _, _ => none
 | k + 1, x1, x5, x6, x257000, x257001, x257002, x257003, x257004 => if 0 ≤ x5 then (if x5 < (x257003.length : Int) then (if x6 < (((rd_T98 x257003 x5).f2).length : Int) then (if 0 ≤ x6 then (if (rd ((rd_T98 x257003 x5).f2) x6) = x1 then (some true) else (falseworkref18_used.l1 k x1 x5 (wrap64 (x6 + 1)) x257000 x257001 x257002 x257003 x257004)) else (none)) else (falseworkref18_used.l0 k x1 (wrap64 (x5 + 1)) x257000 x257001 x257002 x257003 x257004)) else (none)) else (none)
end
def falseworkref18_used.f (k : Nat) (a0_0 : Int) (a0_1 : ByteArray) (l0_2 : List (S75)) (l0_3 : List (S98)) (a0_4 : Int) (a1 : Int) : Option (Bool) := falseworkref18_used.l0 k a1 0 a0_0 a0_1 l0_2 l0_3 a0_4
theorem falseworkref18_used.mono_l : ∀ k, (∀ y0 y1 y2 y3 y4 y5 y6, LeO (falseworkref18_used.l0 k y0 y1 y2 y3 y4 y5 y6) (falseworkref18_used.l0 (k + 1) y0 y1 y2 y3 y4 y5 y6)) ∧ (∀ y0 y1 y2 y3 y4 y5 y6 y7, LeO (falseworkref18_used.l1 k y0 y1 y2 y3 y4 y5 y6 y7) (falseworkref18_used.l1 (k + 1) y0 y1 y2 y3 y4 y5 y6 y7))
 | 0 => ⟨fun _ _ _ _ _ _ _ r h => by simp [falseworkref18_used.l0] at h, fun _ _ _ _ _ _ _ _ r h => by simp [falseworkref18_used.l1] at h⟩
 | k + 1 => by
  obtain ⟨ih0, ih1⟩ := falseworkref18_used.mono_l k
  refine ⟨?_, ?_⟩
  ·intro y0 y1 y2 y3 y4 y5 y6
   unfold falseworkref18_used.l0
   repeat' first
   | (with_reducible exact ih0 _ _ _ _ _ _ _)
   | (with_reducible exact ih1 _ _ _ _ _ _ _ _)
   | (with_reducible exact LeO.refl _)
   | (with_reducible exact LeO.none _)
   | (with_reducible refine LeO.ite ?_ ?_)
   | (with_reducible refine LeO.bind ?_ (fun _ => ?_))
   | exact ih0 _ _ _ _ _ _ _
   | exact ih1 _ _ _ _ _ _ _ _
   | exact LeO.none _
   | refine LeO.ite ?_ ?_
   | refine LeO.bind ?_ (fun _ => ?_)
  ·intro y0 y1 y2 y3 y4 y5 y6 y7
   unfold falseworkref18_used.l1
   repeat' first
   | (with_reducible exact ih0 _ _ _ _ _ _ _)
   | (with_reducible exact ih1 _ _ _ _ _ _ _ _)
   | (with_reducible exact LeO.refl _)
   | (with_reducible exact LeO.none _)
   | (with_reducible refine LeO.ite ?_ ?_)
   | (with_reducible refine LeO.bind ?_ (fun _ => ?_))
   | exact ih0 _ _ _ _ _ _ _
   | exact ih1 _ _ _ _ _ _ _ _
   | exact LeO.none _
   | refine LeO.ite ?_ ?_
   | refine LeO.bind ?_ (fun _ => ?_)
theorem falseworkref18_used.mono : ∀ a0 a1 a2 a3 a4 a5 k, LeO (falseworkref18_used.f k a0 a1 a2 a3 a4 a5) (falseworkref18_used.f (k + 1) a0 a1 a2 a3 a4 a5) := by
 intro a0 a1 a2 a3 a4 a5 k
 obtain ⟨ih0, ih1⟩ := falseworkref18_used.mono_l k
 unfold falseworkref18_used.f
 repeat' first
   | (with_reducible exact ih0 _ _ _ _ _ _ _)
   | (with_reducible exact ih1 _ _ _ _ _ _ _ _)
   | (with_reducible exact LeO.refl _)
   | (with_reducible exact LeO.none _)
   | (with_reducible refine LeO.ite ?_ ?_)
   | (with_reducible refine LeO.bind ?_ (fun _ => ?_))
   | exact ih0 _ _ _ _ _ _ _
   | exact ih1 _ _ _ _ _ _ _ _
   | exact LeO.none _
   | refine LeO.ite ?_ ?_
   | refine LeO.bind ?_ (fun _ => ?_)
set_option maxHeartbeats 8000000 in
set_option maxRecDepth 100000 in
theorem falseworkref18_used.calls (k : Nat) (a0_0 : Int) (a0_1 : ByteArray) (A0_2 : Option Addr) (c0_2 : Nat) (l0_2 : List (S75)) (A0_3 : Option Addr) (c0_3 : Nat) (l0_3 : List (S98)) (a0_4 : Int) (a1 : Int) (r : Bool) (w : World) (hr0_2 : Kd.C k75 w A0_2 l0_2.length l0_2) (hc0_2 : l0_2.length ≤ c0_2) (hr0_3 : Kd.C k98 w A0_3 l0_3.length l0_3) (hc0_3 : l0_3.length ≤ c0_3) (h : falseworkref18_used.f k a0_0 a0_1 l0_2 l0_3 a0_4 a1 = some r) :
  Calls Tryd.prog 68 #[.agg #[.int .i64 a0_0, .string a0_1, .slice A0_2 l0_2.length c0_2, .slice A0_3 l0_3.length c0_3, .int .i64 a0_4], .int .i64 a1] w fun e w' => e = .returned (.bool r) ∧ Below w.heap.size w w' := by
 have hu70 := Tryd.underlying70
 have HR0_2 := Aside0.mk hr0_2; have HC0_2 := Aside0.mk hc0_2; clear hr0_2 hc0_2; have HR0_3 := Aside0.mk hr0_3; have HC0_3 := Aside0.mk hc0_3; clear hr0_3 hc0_3; have HB := Aside0.mk (Below.refl w.heap.size w)
 have H : (falseworkref18_used.l0 k a1 0 a0_0 a0_1 l0_2 l0_3 a0_4) = some r := h
 clear h; have H' := Aside0.mk H; clear H; go_enter Tryd.func68, Tryd.ntmps68
 go_wp2_with (first | ((with_reducible refine gate_dst (N := 2) rfl ?_); refine box_event ?hg (N := 2) ?hd (cs := #[.int .i64 a0_0, .string a0_1, .slice A0_2 l0_2.length c0_2, .slice A0_3 l0_3.length c0_3, .int .i64 a0_4]) (t := 70) ?hr ?_; (case hd => rfl); (case hg => rfl); (case hr => first | (go_simp; done) | (go_simp; rfl)); intro gb256 hg w3 hbox hb; have n0_ := Aside0.mk (below_step (by repeat (first | (with_reducible first | exact HB.out | apply below_alloc | apply pw_below_drewN | apply below_drew1) | exact HB.out)) hb); have n1_ := Aside0.mk (hbox); have n2_ := Aside0.mk ((by rw [hg]; exact (below_size (by repeat (first | (with_reducible first | exact HB.out | apply below_alloc | apply pw_below_drewN | apply below_drew1) | exact HB.out))) : w.heap.size ≤ gb256)); have n3_ := Aside0.mk ((by rw [hg]; exact (below_size (by repeat (first | (with_reducible first | exact HB.out | apply below_alloc | apply pw_below_drewN | apply below_drew1) | exact HB.out))) : w.heap.size ≤ gb256)); clear HB; have HB := n0_; have BK256 := n1_; have GW256 := n2_; have GE256 := n3_; clear n0_ n1_ n2_ n3_; clear hb hbox hg))
 go_loopg [5] k (fun kq v5 w' => ∃ (x5_1 : Int), v5 = .int .i64 x5_1 ∧ Aside0 (falseworkref18_used.l0 kq a1 x5_1 a0_0 a0_1 l0_2 l0_3 a0_4 = some r) ∧ Aside0 (kq ≤ k) ∧ Aside0 (w'.heap[gb256]? = some (.cells #[.int .i64 a0_0, .string a0_1, (.slice A0_2 l0_2.length c0_2), (.slice A0_3 l0_3.length c0_3), .int .i64 a0_4] 70 (0, 0))) ∧ Aside0 (Below w.heap.size w w'))
 case atStart => exact ⟨(0), (by first | rfl | (simp; done) | (simp [*]; done)), H', ⟨Nat.le_refl _⟩, ⟨by (with_reducible repeat (first | refine blk_drewN ?_ _ | refine blk_drew ?_ | refine blk_alloc ?_ _)); exact BK256.out⟩, ⟨by repeat (first | (with_reducible first | exact HB.out | apply below_alloc | apply pw_below_drewN | apply below_drew1 | refine below_set ?_ GE256.out) | exact HB.out)⟩⟩
 case round =>
  clear H'; (try clear p2); obtain ⟨x5_1, rfl, HA, HK1, BK256, HB⟩ := hrel
  cases gk with
  | zero => exact absurd HA.out (by simp [falseworkref18_used.l0])
  | succ k1 =>
   have H := HA.out; clear HA; simp only [falseworkref18_used.l0] at H
   by_cases c4 : x5_1 < (l0_3.length : Int)
   ·rw [if_pos c4] at H
    have c4b0 : decide (x5_1 < (l0_3.length : Int)) = true := decide_eq_true c4
    clear c4; have H' := Aside0.mk H; clear H; have hcz5_0 : wr.cell? ⟨gb256, 0, none⟩ = some (.int .i64 a0_0) := (Go.Proofs.YtjgomlcdmpcoaaaDoorW.PrintWords.blk_cell BK256.out 0).trans rfl
    have hcz5_1 : wr.cell? ⟨gb256, 1, none⟩ = some (.string a0_1) := (Go.Proofs.YtjgomlcdmpcoaaaDoorW.PrintWords.blk_cell BK256.out 1).trans rfl
    have hcz5_2 : wr.cell? ⟨gb256, 2, none⟩ = some (.slice A0_2 l0_2.length c0_2) := (Go.Proofs.YtjgomlcdmpcoaaaDoorW.PrintWords.blk_cell BK256.out 2).trans rfl
    have hcz5_3 : wr.cell? ⟨gb256, 3, none⟩ = some (.slice A0_3 l0_3.length c0_3) := (Go.Proofs.YtjgomlcdmpcoaaaDoorW.PrintWords.blk_cell BK256.out 3).trans rfl
    have hcz5_4 : wr.cell? ⟨gb256, 4, none⟩ = some (.int .i64 a0_4) := (Go.Proofs.YtjgomlcdmpcoaaaDoorW.PrintWords.blk_cell BK256.out 4).trans rfl
    have hfz5_0 := blk_frozen BK256.out 0
    have hfz5_1 := blk_frozen BK256.out 1
    have hfz5_2 := blk_frozen BK256.out 2
    have hfz5_3 := blk_frozen BK256.out 3
    have hfz5_4 := blk_frozen BK256.out 4
    go_wp2; go_loopg [6] k1 (fun kq v6 w' => ∃ (x6_2 : Int), v6 = .int .i64 x6_2 ∧ Aside0 (falseworkref18_used.l1 kq a1 x5_1 x6_2 a0_0 a0_1 l0_2 l0_3 a0_4 = some r) ∧ Aside0 (kq ≤ k1) ∧ Aside0 (w'.heap[gb256]? = some (.cells #[.int .i64 a0_0, .string a0_1, (.slice A0_2 l0_2.length c0_2), (.slice A0_3 l0_3.length c0_3), .int .i64 a0_4] 70 (0, 0))) ∧ Aside0 (Below w.heap.size w w'))
    case atStart => exact ⟨(0), (by first | rfl | (simp; done) | (simp [*]; done)), H', ⟨Nat.le_refl _⟩, ⟨by (with_reducible repeat (first | refine blk_drewN ?_ _ | refine blk_drew ?_ | refine blk_alloc ?_ _)); exact BK256.out⟩, ⟨by repeat (first | (with_reducible first | exact HB.out | apply below_alloc | apply pw_below_drewN | apply below_drew1 | refine below_set ?_ GE256.out) | exact HB.out)⟩⟩
    case round =>
     clear H'; (try clear p2); (try clear c4); (try clear c4b0); (try clear hcz5_0); (try clear hcz5_1); (try clear hcz5_2); (try clear hcz5_3); (try clear hcz5_4); (try clear hfz5_0); (try clear hfz5_1)
     (try clear hfz5_2); (try clear hfz5_3); (try clear hfz5_4); (try clear p2); obtain ⟨x6_2, rfl, HA, HK2, BK256, HB⟩ := hrel
     cases gk with
     | zero => exact absurd HA.out (by simp [falseworkref18_used.l1])
     | succ k2 =>
      have H := HA.out; clear HA; simp only [falseworkref18_used.l1] at H
      by_cases c6 : 0 ≤ x5_1
      ·rw [if_pos c6] at H
       have c6b0 : decide (0 ≤ x5_1) = true := decide_eq_true c6
       clear c6; by_cases c7 : x5_1 < (l0_3.length : Int)
       ·rw [if_pos c7] at H
        have c7b0 : decide (x5_1 < (l0_3.length : Int)) = true := decide_eq_true c7
        clear c7; by_cases c8 : x6_2 < (((rd_T98 l0_3 x5_1).f2).length : Int)
        ·rw [if_pos c8] at H
         have c8b0 : decide (x6_2 < (((rd_T98 l0_3 x5_1).f2).length : Int)) = true := decide_eq_true c8
         clear c8; by_cases c9 : 0 ≤ x6_2
         ·rw [if_pos c9] at H
          have c9b0 : decide (0 ≤ x6_2) = true := decide_eq_true c9
          clear c9; by_cases c10 : (rd ((rd_T98 l0_3 x5_1).f2) x6_2) = a1
          ·rw [if_pos c10] at H
           have c10b0 : ((rd ((rd_T98 l0_3 x5_1).f2) x6_2) == a1) = true := beq_iff_eq.mpr c10
           have c10b1 : ((rd ((rd_T98 l0_3 x5_1).f2) x6_2) != a1) = false := bne_eq_false_iff_eq.mpr c10
           clear c10; obtain rfl := Option.some.inj H; have hcz11_0 : wr.cell? ⟨gb256, 0, none⟩ = some (.int .i64 a0_0) := (Go.Proofs.YtjgomlcdmpcoaaaDoorW.PrintWords.blk_cell BK256.out 0).trans rfl
           have hcz11_1 : wr.cell? ⟨gb256, 1, none⟩ = some (.string a0_1) := (Go.Proofs.YtjgomlcdmpcoaaaDoorW.PrintWords.blk_cell BK256.out 1).trans rfl
           have hcz11_2 : wr.cell? ⟨gb256, 2, none⟩ = some (.slice A0_2 l0_2.length c0_2) := (Go.Proofs.YtjgomlcdmpcoaaaDoorW.PrintWords.blk_cell BK256.out 2).trans rfl
           have hcz11_3 : wr.cell? ⟨gb256, 3, none⟩ = some (.slice A0_3 l0_3.length c0_3) := (Go.Proofs.YtjgomlcdmpcoaaaDoorW.PrintWords.blk_cell BK256.out 3).trans rfl
           have hcz11_4 : wr.cell? ⟨gb256, 4, none⟩ = some (.int .i64 a0_4) := (Go.Proofs.YtjgomlcdmpcoaaaDoorW.PrintWords.blk_cell BK256.out 4).trans rfl
           have hfz11_0 := blk_frozen BK256.out 0
           have hfz11_1 := blk_frozen BK256.out 1
           have hfz11_2 := blk_frozen BK256.out 2
           have hfz11_3 := blk_frozen BK256.out 3
           have hfz11_4 := blk_frozen BK256.out 4
           have p257 : 0 ≤ (x5_1 : Int) := of_decide_eq_true (by first | (with_reducible assumption) | assumption)
           have q257 : x5_1 < (l0_3.length : Int) := of_decide_eq_true (by first | (with_reducible assumption) | assumption)
           obtain ⟨ad257, A257_2, c257_2, e257, hx257_0, hx257_1, hx257_2, hx257_3, hx257_4, hl257_2, hi257_2⟩ := at_T98 HR0_3.out x5_1 p257 q257
           cases e257
           replace hx257_0 := (HB.out.cell (World.block_lt_of_cell? w _ hx257_0)).trans hx257_0
           replace hx257_1 := (HB.out.cell (World.block_lt_of_cell? w _ hx257_1)).trans hx257_1
           replace hx257_2 := (HB.out.cell (World.block_lt_of_cell? w _ hx257_2)).trans hx257_2
           replace hx257_3 := (HB.out.cell (World.block_lt_of_cell? w _ hx257_3)).trans hx257_3
           replace hx257_4 := (HB.out.cell (World.block_lt_of_cell? w _ hx257_4)).trans hx257_4
           have HR257_2 := Aside0.mk hi257_2; have HC257_2 := Aside0.mk hl257_2; clear hi257_2 hl257_2; replace p257 := eq_true p257
           replace q257 := eq_true q257
           have p258 : 0 ≤ (x5_1 : Int) := of_decide_eq_true (by first | (with_reducible assumption) | assumption)
           have q258 : x5_1 < (l0_3.length : Int) := of_decide_eq_true (by first | (with_reducible assumption) | assumption)
           obtain ⟨ad258, A258_2, c258_2, e258, hx258_0, hx258_1, hx258_2, hx258_3, hx258_4, hl258_2, hi258_2⟩ := at_T98 HR0_3.out x5_1 p258 q258
           obtain rfl : ad257 = ad258 := (by injection e258)
           replace hx258_0 := (HB.out.cell (World.block_lt_of_cell? w _ hx258_0)).trans hx258_0
           replace hx258_1 := (HB.out.cell (World.block_lt_of_cell? w _ hx258_1)).trans hx258_1
           replace hx258_2 := (HB.out.cell (World.block_lt_of_cell? w _ hx258_2)).trans hx258_2
           replace hx258_3 := (HB.out.cell (World.block_lt_of_cell? w _ hx258_3)).trans hx258_3
           replace hx258_4 := (HB.out.cell (World.block_lt_of_cell? w _ hx258_4)).trans hx258_4
           have HR258_2 := Aside0.mk hi258_2; have HC258_2 := Aside0.mk hl258_2; clear hi258_2 hl258_2; replace p258 := eq_true p258
           replace q258 := eq_true q258
           have ea_ := Option.some.inj (hx257_2.symm.trans hx258_2)
           injection ea_ with ea_ en_ ec_
           subst ea_; subst ec_; clear en_; have p259 : 0 ≤ (x6_2 : Int) := of_decide_eq_true (by first | (with_reducible assumption) | assumption)
           have q259 : x6_2 < (((rd_T98 l0_3 x5_1).f2).length : Int) := of_decide_eq_true (by first | (with_reducible assumption) | assumption)
           obtain ⟨ad259, e259, hx259_0⟩ := Kd.at_int HR258_2.out x6_2 p259 q259
           cases e259
           replace hx259_0 := (HB.out.cell (World.block_lt_of_cell? w _ hx259_0)).trans hx259_0
           replace p259 := eq_true p259
           replace q259 := eq_true q259
           go_wp2; go_ret; exact ⟨by first | rfl | (simp [errW_none, errW_some] <;> rfl) | (simp [*, errW_none, errW_some] <;> rfl), by repeat (first | (with_reducible first | exact HB.out | apply below_alloc | apply pw_below_drewN | apply below_drew1 | refine below_set ?_ GE256.out) | exact HB.out)⟩
          ·rw [if_neg c10] at H
           have c10b0 : ((rd ((rd_T98 l0_3 x5_1).f2) x6_2) == a1) = false := beq_eq_false_iff_ne.mpr c10
           have c10b1 : ((rd ((rd_T98 l0_3 x5_1).f2) x6_2) != a1) = true := bne_iff_ne.mpr c10
           have H' := Aside0.mk H; clear H; have hcz12_0 : wr.cell? ⟨gb256, 0, none⟩ = some (.int .i64 a0_0) := (Go.Proofs.YtjgomlcdmpcoaaaDoorW.PrintWords.blk_cell BK256.out 0).trans rfl
           have hcz12_1 : wr.cell? ⟨gb256, 1, none⟩ = some (.string a0_1) := (Go.Proofs.YtjgomlcdmpcoaaaDoorW.PrintWords.blk_cell BK256.out 1).trans rfl
           have hcz12_2 : wr.cell? ⟨gb256, 2, none⟩ = some (.slice A0_2 l0_2.length c0_2) := (Go.Proofs.YtjgomlcdmpcoaaaDoorW.PrintWords.blk_cell BK256.out 2).trans rfl
           have hcz12_3 : wr.cell? ⟨gb256, 3, none⟩ = some (.slice A0_3 l0_3.length c0_3) := (Go.Proofs.YtjgomlcdmpcoaaaDoorW.PrintWords.blk_cell BK256.out 3).trans rfl
           have hcz12_4 : wr.cell? ⟨gb256, 4, none⟩ = some (.int .i64 a0_4) := (Go.Proofs.YtjgomlcdmpcoaaaDoorW.PrintWords.blk_cell BK256.out 4).trans rfl
           have hfz12_0 := blk_frozen BK256.out 0
           have hfz12_1 := blk_frozen BK256.out 1
           have hfz12_2 := blk_frozen BK256.out 2
           have hfz12_3 := blk_frozen BK256.out 3
           have hfz12_4 := blk_frozen BK256.out 4
           have p257 : 0 ≤ (x5_1 : Int) := of_decide_eq_true (by first | (with_reducible assumption) | assumption)
           have q257 : x5_1 < (l0_3.length : Int) := of_decide_eq_true (by first | (with_reducible assumption) | assumption)
           obtain ⟨ad257, A257_2, c257_2, e257, hx257_0, hx257_1, hx257_2, hx257_3, hx257_4, hl257_2, hi257_2⟩ := at_T98 HR0_3.out x5_1 p257 q257
           cases e257
           replace hx257_0 := (HB.out.cell (World.block_lt_of_cell? w _ hx257_0)).trans hx257_0
           replace hx257_1 := (HB.out.cell (World.block_lt_of_cell? w _ hx257_1)).trans hx257_1
           replace hx257_2 := (HB.out.cell (World.block_lt_of_cell? w _ hx257_2)).trans hx257_2
           replace hx257_3 := (HB.out.cell (World.block_lt_of_cell? w _ hx257_3)).trans hx257_3
           replace hx257_4 := (HB.out.cell (World.block_lt_of_cell? w _ hx257_4)).trans hx257_4
           have HR257_2 := Aside0.mk hi257_2; have HC257_2 := Aside0.mk hl257_2; clear hi257_2 hl257_2; replace p257 := eq_true p257
           replace q257 := eq_true q257
           have p258 : 0 ≤ (x5_1 : Int) := of_decide_eq_true (by first | (with_reducible assumption) | assumption)
           have q258 : x5_1 < (l0_3.length : Int) := of_decide_eq_true (by first | (with_reducible assumption) | assumption)
           obtain ⟨ad258, A258_2, c258_2, e258, hx258_0, hx258_1, hx258_2, hx258_3, hx258_4, hl258_2, hi258_2⟩ := at_T98 HR0_3.out x5_1 p258 q258
           obtain rfl : ad257 = ad258 := (by injection e258)
           replace hx258_0 := (HB.out.cell (World.block_lt_of_cell? w _ hx258_0)).trans hx258_0
           replace hx258_1 := (HB.out.cell (World.block_lt_of_cell? w _ hx258_1)).trans hx258_1
           replace hx258_2 := (HB.out.cell (World.block_lt_of_cell? w _ hx258_2)).trans hx258_2
           replace hx258_3 := (HB.out.cell (World.block_lt_of_cell? w _ hx258_3)).trans hx258_3
           replace hx258_4 := (HB.out.cell (World.block_lt_of_cell? w _ hx258_4)).trans hx258_4
           have HR258_2 := Aside0.mk hi258_2; have HC258_2 := Aside0.mk hl258_2; clear hi258_2 hl258_2; replace p258 := eq_true p258
           replace q258 := eq_true q258
           have ea_ := Option.some.inj (hx257_2.symm.trans hx258_2)
           injection ea_ with ea_ en_ ec_
           subst ea_; subst ec_; clear en_; have p259 : 0 ≤ (x6_2 : Int) := of_decide_eq_true (by first | (with_reducible assumption) | assumption)
           have q259 : x6_2 < (((rd_T98 l0_3 x5_1).f2).length : Int) := of_decide_eq_true (by first | (with_reducible assumption) | assumption)
           obtain ⟨ad259, e259, hx259_0⟩ := Kd.at_int HR258_2.out x6_2 p259 q259
           cases e259
           replace hx259_0 := (HB.out.cell (World.block_lt_of_cell? w _ hx259_0)).trans hx259_0
           replace p259 := eq_true p259
           replace q259 := eq_true q259
           go_wp2; go_roundg k2
           case measure => have := HK1.out; have := HK2.out; omega
           case rel => exact ⟨(wrap64 (x6_2 + 1)), (by first | rfl | (simp; done) | (simp [*]; done)), H', ⟨by have := HK1.out; have := HK2.out; omega⟩, ⟨by (with_reducible repeat (first | refine blk_drewN ?_ _ | refine blk_drew ?_ | refine blk_alloc ?_ _)); exact BK256.out⟩, ⟨by repeat (first | (with_reducible first | exact HB.out | apply below_alloc | apply pw_below_drewN | apply below_drew1 | refine below_set ?_ GE256.out) | exact HB.out)⟩⟩
         ·rw [if_neg c9] at H
          exact absurd H (by simp)
        ·rw [if_neg c8] at H
         have c8b0 : decide (x6_2 < (((rd_T98 l0_3 x5_1).f2).length : Int)) = false := decide_eq_false c8
         clear c8; have H' := Aside0.mk H; clear H; have hcz13_0 : wr.cell? ⟨gb256, 0, none⟩ = some (.int .i64 a0_0) := (Go.Proofs.YtjgomlcdmpcoaaaDoorW.PrintWords.blk_cell BK256.out 0).trans rfl
         have hcz13_1 : wr.cell? ⟨gb256, 1, none⟩ = some (.string a0_1) := (Go.Proofs.YtjgomlcdmpcoaaaDoorW.PrintWords.blk_cell BK256.out 1).trans rfl
         have hcz13_2 : wr.cell? ⟨gb256, 2, none⟩ = some (.slice A0_2 l0_2.length c0_2) := (Go.Proofs.YtjgomlcdmpcoaaaDoorW.PrintWords.blk_cell BK256.out 2).trans rfl
         have hcz13_3 : wr.cell? ⟨gb256, 3, none⟩ = some (.slice A0_3 l0_3.length c0_3) := (Go.Proofs.YtjgomlcdmpcoaaaDoorW.PrintWords.blk_cell BK256.out 3).trans rfl
         have hcz13_4 : wr.cell? ⟨gb256, 4, none⟩ = some (.int .i64 a0_4) := (Go.Proofs.YtjgomlcdmpcoaaaDoorW.PrintWords.blk_cell BK256.out 4).trans rfl
         have hfz13_0 := blk_frozen BK256.out 0
         have hfz13_1 := blk_frozen BK256.out 1
         have hfz13_2 := blk_frozen BK256.out 2
         have hfz13_3 := blk_frozen BK256.out 3
         have hfz13_4 := blk_frozen BK256.out 4
         have p257 : 0 ≤ (x5_1 : Int) := of_decide_eq_true (by first | (with_reducible assumption) | assumption)
         have q257 : x5_1 < (l0_3.length : Int) := of_decide_eq_true (by first | (with_reducible assumption) | assumption)
         obtain ⟨ad257, A257_2, c257_2, e257, hx257_0, hx257_1, hx257_2, hx257_3, hx257_4, hl257_2, hi257_2⟩ := at_T98 HR0_3.out x5_1 p257 q257
         cases e257
         replace hx257_0 := (HB.out.cell (World.block_lt_of_cell? w _ hx257_0)).trans hx257_0
         replace hx257_1 := (HB.out.cell (World.block_lt_of_cell? w _ hx257_1)).trans hx257_1
         replace hx257_2 := (HB.out.cell (World.block_lt_of_cell? w _ hx257_2)).trans hx257_2
         replace hx257_3 := (HB.out.cell (World.block_lt_of_cell? w _ hx257_3)).trans hx257_3
         replace hx257_4 := (HB.out.cell (World.block_lt_of_cell? w _ hx257_4)).trans hx257_4
         have HR257_2 := Aside0.mk hi257_2; have HC257_2 := Aside0.mk hl257_2; clear hi257_2 hl257_2; replace p257 := eq_true p257
         replace q257 := eq_true q257
         go_wp2; go_roundg k2
         case measure => have := HK1.out; have := HK2.out; omega
         case rel => exact ⟨(wrap64 (x5_1 + 1)), (by first | rfl | (simp; done) | (simp [*]; done)), H', ⟨by have := HK1.out; have := HK2.out; omega⟩, ⟨by (with_reducible repeat (first | refine blk_drewN ?_ _ | refine blk_drew ?_ | refine blk_alloc ?_ _)); exact BK256.out⟩, ⟨by repeat (first | (with_reducible first | exact HB.out | apply below_alloc | apply pw_below_drewN | apply below_drew1 | refine below_set ?_ GE256.out) | exact HB.out)⟩⟩
       ·rw [if_neg c7] at H
        exact absurd H (by simp)
      ·rw [if_neg c6] at H
       exact absurd H (by simp)
   ·rw [if_neg c4] at H
    have c4b0 : decide (x5_1 < (l0_3.length : Int)) = false := decide_eq_false c4
    clear c4; obtain rfl := Option.some.inj H; have hcz14_0 : wr.cell? ⟨gb256, 0, none⟩ = some (.int .i64 a0_0) := (Go.Proofs.YtjgomlcdmpcoaaaDoorW.PrintWords.blk_cell BK256.out 0).trans rfl
    have hcz14_1 : wr.cell? ⟨gb256, 1, none⟩ = some (.string a0_1) := (Go.Proofs.YtjgomlcdmpcoaaaDoorW.PrintWords.blk_cell BK256.out 1).trans rfl
    have hcz14_2 : wr.cell? ⟨gb256, 2, none⟩ = some (.slice A0_2 l0_2.length c0_2) := (Go.Proofs.YtjgomlcdmpcoaaaDoorW.PrintWords.blk_cell BK256.out 2).trans rfl
    have hcz14_3 : wr.cell? ⟨gb256, 3, none⟩ = some (.slice A0_3 l0_3.length c0_3) := (Go.Proofs.YtjgomlcdmpcoaaaDoorW.PrintWords.blk_cell BK256.out 3).trans rfl
    have hcz14_4 : wr.cell? ⟨gb256, 4, none⟩ = some (.int .i64 a0_4) := (Go.Proofs.YtjgomlcdmpcoaaaDoorW.PrintWords.blk_cell BK256.out 4).trans rfl
    have hfz14_0 := blk_frozen BK256.out 0
    have hfz14_1 := blk_frozen BK256.out 1
    have hfz14_2 := blk_frozen BK256.out 2
    have hfz14_3 := blk_frozen BK256.out 3
    have hfz14_4 := blk_frozen BK256.out 4
    go_wp2; go_ret; exact ⟨by first | rfl | (simp [errW_none, errW_some] <;> rfl) | (simp [*, errW_none, errW_some] <;> rfl), by repeat (first | (with_reducible first | exact HB.out | apply below_alloc | apply pw_below_drewN | apply below_drew1 | refine below_set ?_ GE256.out) | exact HB.out)⟩
end Go.Proofs.YtjgomlcdmpcoaaaDoor.D
namespace Go.Proofs.YtjgomlcdmpcoaaaDoor.H
open Go.RowKit Go.Proofs.YtjgomlcdmpcoaaaDoorW.PrintWords Go.Proofs.YtjgomlcdmpcoaaaDoorW.PrintLast Go.Proofs.YtjgomlcdmpcoaaaDoorW.PrintMore
open Go.Proofs.YtjgomlcdmpcoaaaDoor.D Go.Proofs.YtjgomlcdmpcoaaaDoor
set_option linter.unusedVariables false
set_option linter.unusedSimpArgs false
def tName (n : ByteArray) (t : S70) : Bool := decide (t.f1.toList = n.toList)
def tId (i : Int) (t : S70) : Bool := decide (t.f0 = i)
def cId (i : Int) (c : S75) : Bool := decide (c.f0 = i)
def cShown (n : ByteArray) (c : S75) : Bool := decide (c.f1.toList = n.toList) && decide (c.f3 = 4)
def xId (i : Int) (x : S98) : Bool := decide (x.f0 = i)
theorem idxL_lt {α : Type} (p : α → Bool) : ∀ (l : List α) (i : Nat), idxL p l i = -1 ∨ ∃ j : Nat, ∃ h : j < l.length, idxL p l i = ((i + j : Nat) : Int) ∧ p l[j] = true
  | [], i => .inl rfl
  | x :: l, i => by
    unfold idxL
    cases hx : p x with
    | true => exact .inr ⟨0, by simp, by simp, by simpa using hx⟩
    | false =>
      rcases idxL_lt p l (i + 1) with h | ⟨j, hj, h1, h2⟩
      · exact .inl (by simpa using h)
      · exact .inr ⟨j + 1, by simp; omega, by simp [h1]; omega, by simpa using h2⟩
theorem idxL_at {α : Type} (p : α → Bool) (l : List α) : idxL p l 0 = -1 ∨ ∃ j : Nat, ∃ h : j < l.length, idxL p l 0 = (j : Int) ∧ p l[j] = true := by
  rcases idxL_lt p l 0 with h | ⟨j, hj, h1, h2⟩
  · exact .inl h
  · exact .inr ⟨j, hj, by simpa using h1, h2⟩
theorem idxL_cons {α : Type} (p : α → Bool) (x : α) (l : List α) (i : Nat) : idxL p (x :: l) i = if p x then (i : Int) else idxL p l (i + 1) := rfl
theorem byId_run (n : Int) (v : Int) (ts : List S70) (nx : Int) (hn : ts.length < 1000000) : ∀ m k i : Nat, i + m = ts.length → m < k →
    falseworkref18_ByID.l0 k n i v ts nx = some (idxL (tId n) (ts.drop i) i)
  | 0, k, i, h, hk => by
    obtain ⟨k, rfl⟩ : ∃ k', k = k' + 1 := ⟨k - 1, by omega⟩
    rw [falseworkref18_ByID.l0, if_neg (by omega), List.drop_eq_nil_of_le (by omega)]
    rfl
  | m + 1, k, i, h, hk => by
    obtain ⟨k, rfl⟩ : ∃ k', k = k' + 1 := ⟨k - 1, by omega⟩
    have hi : i < ts.length := by omega
    rw [falseworkref18_ByID.l0, if_pos (by omega), if_pos (by omega), rd70 _ _ hi, wrap_nat i (by omega), List.drop_eq_getElem_cons hi, byId_run n v ts nx hn m k (i + 1) (by omega) (by omega)]
    rw [idxL_cons]
    by_cases e : ts[i].f0 = n
    · rw [if_pos e, if_pos (show tId n ts[i] = true from decide_eq_true e)]
    · rw [if_neg e, if_neg (show ¬ tId n ts[i] = true by unfold tId; simp [e])]
section
variable (t : S70)
theorem column_run (n : Int) (hn : t.f2.length < 1000000) : ∀ m k i : Nat, i + m = t.f2.length → m < k →
    falseworkref18_column.l0 k n i t.f0 t.f1 t.f2 t.f3 t.f4 = some (idxL (cId n) (t.f2.drop i) i)
  | 0, k, i, h, hk => by
    obtain ⟨k, rfl⟩ : ∃ k', k = k' + 1 := ⟨k - 1, by omega⟩
    rw [falseworkref18_column.l0, if_neg (by omega), List.drop_eq_nil_of_le (by omega)]
    rfl
  | m + 1, k, i, h, hk => by
    obtain ⟨k, rfl⟩ : ∃ k', k = k' + 1 := ⟨k - 1, by omega⟩
    have hi : i < t.f2.length := by omega
    rw [falseworkref18_column.l0, if_pos (by omega), if_pos (by omega), rd75 _ _ hi, wrap_nat i (by omega), List.drop_eq_getElem_cons hi, column_run n hn m k (i + 1) (by omega) (by omega)]
    rw [idxL_cons]
    by_cases e : t.f2[i].f0 = n
    · rw [if_pos e, if_pos (show cId n t.f2[i] = true from decide_eq_true e)]
    · rw [if_neg e, if_neg (show ¬ cId n t.f2[i] = true by unfold cId; simp [e])]
theorem index_run (n : Int) (hn : t.f3.length < 1000000) : ∀ m k i : Nat, i + m = t.f3.length → m < k →
    falseworkref18_index.l0 k n i t.f0 t.f1 t.f2 t.f3 t.f4 = some (idxL (xId n) (t.f3.drop i) i)
  | 0, k, i, h, hk => by
    obtain ⟨k, rfl⟩ : ∃ k', k = k' + 1 := ⟨k - 1, by omega⟩
    rw [falseworkref18_index.l0, if_neg (by omega), List.drop_eq_nil_of_le (by omega)]
    rfl
  | m + 1, k, i, h, hk => by
    obtain ⟨k, rfl⟩ : ∃ k', k = k' + 1 := ⟨k - 1, by omega⟩
    have hi : i < t.f3.length := by omega
    rw [falseworkref18_index.l0, if_pos (by omega), if_pos (by omega), rd98 _ _ hi, wrap_nat i (by omega), List.drop_eq_getElem_cons hi, index_run n hn m k (i + 1) (by omega) (by omega)]
    rw [idxL_cons]
    by_cases e : t.f3[i].f0 = n
    · rw [if_pos e, if_pos (show xId n t.f3[i] = true from decide_eq_true e)]
    · rw [if_neg e, if_neg (show ¬ xId n t.f3[i] = true by unfold xId; simp [e])]
def usedB (id : Int) (xs : List S98) : Bool := xs.any fun x => x.f2.any fun y => decide (y = id)
theorem used1_run (id : Int) (i : Nat) (hi : i < t.f3.length) (hn : t.f3[i].f2.length < 1000000) (hx : t.f3.length < 1000000) (K : Nat) (R : Bool) (hR : ∀ k, K < k → falseworkref18_used.l0 k id ((i + 1 : Nat) : Int) t.f0 t.f1 t.f2 t.f3 t.f4 = some R) : ∀ m k j : Nat, j + m = t.f3[i].f2.length → K + m + 1 < k →
    falseworkref18_used.l1 k id i j t.f0 t.f1 t.f2 t.f3 t.f4 = some ((t.f3[i].f2.drop j).any (fun y => decide (y = id)) || R)
  | 0, k, j, h, hk => by
    obtain ⟨k, rfl⟩ : ∃ k', k = k' + 1 := ⟨k - 1, by omega⟩
    rw [falseworkref18_used.l1, if_pos (by omega), if_pos (by omega), rd98 _ _ hi, if_neg (by omega), wrap_nat i (by omega), hR k (by omega), List.drop_eq_nil_of_le (by omega)]
    rfl
  | m + 1, k, j, h, hk => by
    obtain ⟨k, rfl⟩ : ∃ k', k = k' + 1 := ⟨k - 1, by omega⟩
    have hj : j < t.f3[i].f2.length := by omega
    rw [falseworkref18_used.l1, if_pos (by omega), if_pos (by omega), rd98 _ _ hi, if_pos (by omega), if_pos (by omega), rd_nat _ _ hj, wrap_nat j (by omega), used1_run id i hi hn hx K R hR m k (j + 1) (by omega) (by omega)]
    by_cases e : t.f3[i].f2[j] = id
    · rw [if_pos e, List.drop_eq_getElem_cons hj, List.any_cons, decide_eq_true e]; rfl
    · rw [if_neg e, List.drop_eq_getElem_cons hj, List.any_cons, decide_eq_false e, Bool.false_or]
theorem used_run (id : Int) (hx : t.f3.length < 100) (hn : ∀ x ∈ t.f3, x.f2.length < 100) : ∀ m k i : Nat, i + m = t.f3.length → 200 * (m + 1) < k →
    falseworkref18_used.l0 k id i t.f0 t.f1 t.f2 t.f3 t.f4 = some (usedB id (t.f3.drop i))
  | 0, k, i, h, hk => by
    obtain ⟨k, rfl⟩ : ∃ k', k = k' + 1 := ⟨k - 1, by omega⟩
    rw [falseworkref18_used.l0, if_neg (by omega), List.drop_eq_nil_of_le (by omega)]
    rfl
  | m + 1, k, i, h, hk => by
    obtain ⟨k, rfl⟩ : ∃ k', k = k' + 1 := ⟨k - 1, by omega⟩
    have hi : i < t.f3.length := by omega
    have hl := hn _ (List.getElem_mem hi)
    have h1 := used1_run t id i hi (by omega) (by omega) (200 * (m + 1)) (usedB id (t.f3.drop (i + 1))) (fun k hk => used_run id hx hn m k (i + 1) (by omega) hk) t.f3[i].f2.length k 0 (by omega) (by omega)
    rw [falseworkref18_used.l0, if_pos (by omega), List.drop_eq_getElem_cons hi]
    refine h1.trans ?_
    unfold usedB
    rw [List.any_cons, List.drop_zero]
end
def twiceB : List ByteArray → List ByteArray → Bool
  | _, [] => false
  | pre, s :: r => (pre.any fun w => s.toList == w.toList) || twiceB (pre ++ [s]) r
def elemI (t : S70) (kind elem : Int) : Int :=
  if kind = 6 ∨ kind = 7 then (if 0 ≤ idxL (xId elem) t.f3 0 then (rd_T98 t.f3 (idxL (xId elem) t.f3 0)).f4 else -1)
  else if 8 ≤ kind ∧ kind ≤ 11 then (if 0 ≤ idxL (cId elem) t.f2 0 then (if kind < 10 then (rd_T75 t.f2 (idxL (cId elem) t.f2 0)).f3 else (rd_T75 t.f2 (idxL (cId elem) t.f2 0)).f4) else -1)
  else -1
def stateI (v : Int) (ts : List S70) (nx : Int) (kind table elem : Int) : Int :=
  if 0 ≤ idxL (tId table) ts 0 then (if schB v ts nx = true then elemI (rd_T70 ts (idxL (tId table) ts 0)) kind elem else -1) else -1
end Go.Proofs.YtjgomlcdmpcoaaaDoor.H
namespace Go.Proofs.YtjgomlcdmpcoaaaDoor.H
open Go.RowKit Go.Proofs.YtjgomlcdmpcoaaaDoorW.PrintWords Go.Proofs.YtjgomlcdmpcoaaaDoorW.PrintLast Go.Proofs.YtjgomlcdmpcoaaaDoorW.PrintMore
set_option linter.unusedVariables false
def WB (T : TypeId) (w : World) (g : Nat) (bs : List Int) : Prop :=
  ∃ v, w.heap[g]? = some (.cells #[v] T (0, 0)) ∧ w.ownsRow (g + 1) 5 1 v bs.length (nums .u8 bs)
structure Wr (g : Nat) (w w' : World) : Prop where
  below : Below g w w'
  block : ∀ i, i < w.heap.size → i ≠ g → (∀ cs fr, w.heap[i]? ≠ some (.cells cs 5 fr)) → w'.heap[i]? = w.heap[i]?
theorem Wr.refl (g : Nat) (w : World) : Wr g w w := ⟨Below.refl _ _, fun _ _ _ _ => rfl⟩
theorem Wr.trans {g : Nat} {a b c : World} (h : Wr g a b) (k : Wr g b c) : Wr g a c :=
  ⟨h.below.trans k.below, fun i hi hne ht => by
    have e := h.block i hi hne ht
    rw [k.block i (Nat.lt_of_lt_of_le hi h.below.size) hne (fun cs fr => by rw [e]; exact ht cs fr), e]⟩
theorem Wr.of_below {g : Nat} {w w' : World} (h : Below w.heap.size w w') (hg : g ≤ w.heap.size) : Wr g w w' := ⟨h.mono hg, fun i hi _ _ => h.block i hi⟩
theorem Wr.cells {g : Nat} {w w' : World} (h : Wr g w w') {i : Nat} {cs : Array Value} {t : TypeId} {fr : Nat × Nat} (hi : w.heap[i]? = some (.cells cs t fr)) (ht : t ≠ 5) (hne : i ≠ g) : w'.heap[i]? = some (.cells cs t fr) := by
  rw [h.block i (lt_of_block hi) hne (fun cs' fr' e => by rw [hi] at e; injection e with e; injection e with _ e _; exact ht e)]
  exact hi
theorem Wr.size {g : Nat} {w w' : World} (h : Wr g w w') : w.heap.size ≤ w'.heap.size := h.below.size
theorem WB.lt {T : TypeId} {w : World} {g : Nat} {bs : List Int} (h : WB T w g bs) : g < w.heap.size := by
  obtain ⟨v, h, _⟩ := h
  exact lt_of_block h
theorem WB.below {T : TypeId} {w w' : World} {g : Nat} {bs : List Int} (h : WB T w g bs) (hb : Below w.heap.size w w') : WB T w' g bs := by
  obtain ⟨v, h1, h2⟩ := h
  exact ⟨v, blk_below h1 hb, pw_own_below h2 hb⟩
theorem blk_cell {w : World} {i j : Nat} {cs : Array Value} {t : TypeId} {fr : Nat × Nat} {v : Value} (hi : w.heap[i]? = some (.cells cs t fr)) (hj : cs[j]? = some v) : w.cell? ⟨i, j, none⟩ = some v := by
  simp [World.cell?, hi, hj]
theorem WB.new (T : TypeId) (w : World) : WB T (w.alloc (.cells #[.slice none 0 0] T)) w.heap.size [] :=
  ⟨_, heap_alloc_new w _, by simp [nums], .inl ⟨rfl, rfl⟩⟩
def e8 (n : Int) : List Int := [n / 72057594037927936 % 256, n / 281474976710656 % 256, n / 1099511627776 % 256, n / 4294967296 % 256, n / 16777216 % 256, n / 65536 % 256, n / 256 % 256, n % 256]
theorem e8_len (n : Int) : (e8 n).length = 8 := rfl
end Go.Proofs.YtjgomlcdmpcoaaaDoor.H
namespace Go.Proofs.YtjgomlcdmpcoaaaDoor.H
open Go.RowKit Go.Proofs.YtjgomlcdmpcoaaaDoorW.PrintWords Go.Proofs.YtjgomlcdmpcoaaaDoorW.PrintLast Go.Proofs.YtjgomlcdmpcoaaaDoorW.PrintMore
open Go.Proofs.YtjgomlcdmpcoaaaDoor.D Go.Proofs.YtjgomlcdmpcoaaaDoor
set_option linter.unusedVariables false
def un64 (n : Int) : Int := n % 18446744073709551616
def tru (b : Bool) : Int := if b then 1 else 0
end Go.Proofs.YtjgomlcdmpcoaaaDoor.H
namespace Go.Proofs.YtjgomlcdmpcoaaaDoor.H
open Go.RowKit Go.Proofs.YtjgomlcdmpcoaaaDoorW.PrintWords Go.Proofs.YtjgomlcdmpcoaaaDoorW.PrintLast Go.Proofs.YtjgomlcdmpcoaaaDoorW.PrintMore
open Go.Proofs.YtjgomlcdmpcoaaaDoor.D Go.Proofs.YtjgomlcdmpcoaaaDoor
set_option linter.unusedVariables false
def tx (s : ByteArray) : List Int := e8 (un64 s.size) ++ bytesOf s
theorem tx_len (s : ByteArray) : (tx s).length = 8 + s.size := by unfold tx; rw [List.length_append, e8_len, bytesOf_length]
end Go.Proofs.YtjgomlcdmpcoaaaDoor.H
namespace Go.Proofs.YtjgomlcdmpcoaaaDoor.H
open Go.RowKit Go.Proofs.YtjgomlcdmpcoaaaDoorW.PrintWords Go.Proofs.YtjgomlcdmpcoaaaDoorW.PrintLast Go.Proofs.YtjgomlcdmpcoaaaDoorW.PrintMore
open Go.Proofs.YtjgomlcdmpcoaaaDoor.D Go.Proofs.YtjgomlcdmpcoaaaDoor
set_option linter.unusedVariables false
set_option linter.unusedSimpArgs false
def colL (x : S75) : List Int := e8 (un64 x.f0) ++ (tx x.f1 ++ (e8 (un64 x.f2) ++ (e8 (un64 x.f3) ++ (e8 (un64 x.f4) ++ (e8 (un64 x.f5.f0) ++ (e8 (un64 x.f5.f1) ++ (e8 x.f5.f2 ++ tx x.f5.f3)))))))
theorem colL_len (x : S75) : (colL x).length = 72 + x.f1.size + x.f5.f3.size := by unfold colL; simp only [List.length_append, e8_len, tx_len]; omega
end Go.Proofs.YtjgomlcdmpcoaaaDoor.H
namespace Go.Proofs.YtjgomlcdmpcoaaaDoor.H
open Go.RowKit Go.Proofs.YtjgomlcdmpcoaaaDoorW.PrintWords Go.Proofs.YtjgomlcdmpcoaaaDoorW.PrintLast Go.Proofs.YtjgomlcdmpcoaaaDoorW.PrintMore
open Go.Proofs.YtjgomlcdmpcoaaaDoor.D Go.Proofs.YtjgomlcdmpcoaaaDoor
set_option linter.unusedVariables false
set_option linter.unusedSimpArgs false
def St (T : TypeId) (g : Nat) (w0 W : World) (cur : List Int) (L : List (Nat × Array Value × TypeId)) : Prop :=
  WB T W g cur ∧ Wr g w0 W ∧ ∀ p ∈ L, p.2.2 ≠ 5 ∧ p.1 ≠ g ∧ W.heap[p.1]? = some (.cells p.2.1 p.2.2 (0, 0))
section
variable {T : TypeId} {g : Nat} {w0 W W2 : World} {cur cur2 : List Int} {L : List (Nat × Array Value × TypeId)} {p : Nat × Array Value × TypeId}
theorem St.step (h : St T g w0 W cur L) (ha : WB T W2 g cur2) (hb : Wr g W W2) : St T g w0 W2 cur2 L :=
  ⟨ha, h.2.1.trans hb, fun p hp => let q := h.2.2 p hp; ⟨q.1, q.2.1, hb.cells q.2.2 q.1 q.2.1⟩⟩
theorem St.lt (h : St T g w0 W cur L) : g < W.heap.size := h.1.lt
theorem St.box (h : St T g w0 W cur L) (cs : Array Value) (t : TypeId) (ht : t ≠ 5) : St T g w0 (W.alloc (.cells cs t)) cur ((W.heap.size, cs, t) :: L) := by
  have hb := below_alloc (Below.refl _ W) (.cells cs t)
  refine ⟨h.1.below hb, h.2.1.trans (Wr.of_below hb (Nat.le_of_lt h.1.lt)), fun p hp => ?_⟩
  rcases List.mem_cons.1 hp with rfl | hp
  · exact ⟨ht, (Nat.ne_of_lt h.1.lt).symm, heap_alloc_new W _⟩
  · have q := h.2.2 p hp
    exact ⟨q.1, q.2.1, blk_alloc q.2.2 _⟩
end
def colsL (l : List S75) : List Int := l.flatMap colL
def intL (n : Int) : List Int := e8 (un64 n)
def intsL (l : List Int) : List Int := l.flatMap intL
def indL (x : S98) : List Int := e8 (un64 x.f0) ++ (tx x.f1 ++ (e8 (un64 x.f2.length) ++ (intsL x.f2 ++ (e8 (tru x.f3) ++ e8 (un64 x.f4)))))
def indsL (l : List S98) : List Int := l.flatMap indL
def tabL (t : S70) : List Int := e8 (un64 t.f0) ++ (tx t.f1 ++ (e8 (un64 t.f2.length) ++ (colsL t.f2 ++ (e8 (un64 t.f3.length) ++ (indsL t.f3 ++ e8 (un64 t.f4))))))
theorem indL_len (x : S98) : (indL x).length = 40 + x.f1.size + (intsL x.f2).length := by unfold indL; simp only [List.length_append, e8_len, tx_len]; omega
theorem tabL_len (t : S70) : (tabL t).length = 40 + t.f1.size + (colsL t.f2).length + (indsL t.f3).length := by unfold tabL; simp only [List.length_append, e8_len, tx_len]; omega
end Go.Proofs.YtjgomlcdmpcoaaaDoor.H
namespace Go.Proofs.YtjgomlcdmpcoaaaDoor.H
open Go.RowKit Go.Proofs.YtjgomlcdmpcoaaaDoorW.PrintWords Go.Proofs.YtjgomlcdmpcoaaaDoorW.PrintLast Go.Proofs.YtjgomlcdmpcoaaaDoorW.PrintMore
set_option linter.unusedVariables false
def cr1 (c : Int) : Int := if (bits .and .u32 c 1 == 1) = true then bits .xor .u32 (c / 2) 2197175160 else c / 2
def crN : Nat → Int → Int
  | 0, c => c
  | n + 1, c => crN n (cr1 c)
def crB (c b : Int) : Int := crN 8 (bits .xor .u32 c (b % 4294967296))
def crL (c : Int) (l : List UInt8) : Int := l.foldl (fun c b => crB c (b.toNat : Int)) c
def sumI (s : ByteArray) : Int := bits .xor .u32 IntKind.u32.max (crL 4294967295 s.data.toList)
end Go.Proofs.YtjgomlcdmpcoaaaDoor.H
namespace Go.Proofs.YtjgomlcdmpcoaaaDoor.H
open Go.RowKit Go.Proofs.YtjgomlcdmpcoaaaDoorW.PrintWords Go.Proofs.YtjgomlcdmpcoaaaDoorW.PrintLast Go.Proofs.YtjgomlcdmpcoaaaDoorW.PrintMore
set_option linter.unusedVariables false
def four (c : Int) : List Int := [c / 16777216, c / 65536 % 256, c / 256 % 256, c % 256]
def sealB (s : ByteArray) : ByteArray := s ++ strOfNums (four (sumI s))
end Go.Proofs.YtjgomlcdmpcoaaaDoor.H
namespace Go.Proofs.YtjgomlcdmpcoaaaDoor.H
open Go.RowKit Go.Proofs.YtjgomlcdmpcoaaaDoorW.PrintWords Go.Proofs.YtjgomlcdmpcoaaaDoorW.PrintLast Go.Proofs.YtjgomlcdmpcoaaaDoorW.PrintMore
open Go.Proofs.YtjgomlcdmpcoaaaDoor.D Go.Proofs.YtjgomlcdmpcoaaaDoor
set_option linter.unusedVariables false
set_option linter.unusedSimpArgs false
def tabsL (l : List S70) : List Int := l.flatMap tabL
def putL (v : Int) (ts : List S70) (nx : Int) : List Int := e8 (un64 v) ++ (e8 (un64 ts.length) ++ (tabsL ts ++ e8 (un64 nx)))
theorem putL_len (v : Int) (ts : List S70) (nx : Int) : (putL v ts nx).length = 24 + (tabsL ts).length := by unfold putL; simp only [List.length_append, e8_len]; omega
theorem nameB_size {s : ByteArray} (h : nameB s = true) : s.size ≤ 16 := by
  rw [nameB_if] at h
  simp only [Bool.and_eq_true, decide_eq_true_eq] at h
  exact h.2.1
theorem toList_size {s : ByteArray} (h : s.toList = []) : s.size = 0 := by
  rw [ByteArray.toList_eq] at h
  have : s.data.toList.length = 0 := by rw [h]; rfl
  rw [Array.length_toList] at this
  exact this
theorem valB_size {v : S73} (h : valB v = true) : v.f3.size ≤ 40 := by
  unfold valB mayB at h
  repeat' split at h
  all_goals simp only [Bool.and_eq_true, beq_iff_eq, decide_eq_true_eq, Bool.false_eq_true] at h
  all_goals first
    | (have := toList_size h.2.2; omega)
    | (have := toList_size h.2; omega)
    | exact h.1
theorem columnB_len {c : S75} (h : columnB c = true) : (colL c).length ≤ 128 := by
  unfold columnB at h
  simp only [Bool.and_eq_true] at h
  have h1 := nameB_size h.1
  have h2 := valB_size h.2.2.2.2.2.1
  rw [colL_len]
  omega
theorem fm_max {α : Type} (f : α → List Int) (m : Nat) : ∀ l : List α, (∀ x ∈ l, (f x).length ≤ m) → (l.flatMap f).length ≤ l.length * m
  | [], _ => by simp
  | x :: l, h => by
    have h1 := fm_max f m l (fun y hy => h y (List.mem_cons_of_mem _ hy))
    have h2 := h x List.mem_cons_self
    rw [List.flatMap_cons, List.length_append, List.length_cons, Nat.succ_mul]
    omega
theorem indexB_len {t : S70} {x : S98} (h : indexB t x = true) : (indL x).length ≤ 120 := by
  unfold indexB at h
  simp only [Bool.and_eq_true, decide_eq_true_eq] at h
  have h1 := nameB_size h.1
  have h2 : (intsL x.f2).length ≤ x.f2.length * 8 := fm_max intL 8 x.f2 (fun y _ => Nat.le_refl _)
  have h3 := h.2.2.1
  rw [indL_len]
  omega
theorem tcolsB_all {next : Int} : ∀ (l : List S75) (ids : List Int) (ns : List (List UInt8)), tcolsB next ids ns l = true → ∀ c ∈ l, columnB c = true
  | [], _, _, _, c, hc => by cases hc
  | x :: l, ids, ns, h, c, hc => by
    unfold tcolsB at h
    simp only [Bool.and_eq_true] at h
    rcases List.mem_cons.1 hc with rfl | hc
    · exact h.2.2.1
    · exact tcolsB_all l _ _ h.2.2.2 c hc
theorem tindsB_all {t : S70} : ∀ (l : List S98) (ids : List Int) (ns : List (List UInt8)), tindsB t ids ns l = true → ∀ c ∈ l, indexB t c = true
  | [], _, _, _, c, hc => by cases hc
  | x :: l, ids, ns, h, c, hc => by
    unfold tindsB at h
    simp only [Bool.and_eq_true] at h
    rcases List.mem_cons.1 hc with rfl | hc
    · exact h.2.2.1
    · exact tindsB_all l _ _ h.2.2.2 c hc
theorem tableB_len {t : S70} (h : tableB t = true) : (tabL t).length ≤ 2000 := by
  unfold tableB at h
  simp only [Bool.and_eq_true, decide_eq_true_eq] at h
  obtain ⟨_, _, _, h4, h5, h6, h7, h8, _⟩ := h
  have a1 := nameB_size h6
  have a2 : (colsL t.f2).length ≤ t.f2.length * 128 := fm_max colL 128 t.f2 (fun c hc => columnB_len (tcolsB_all _ _ _ h7 c hc))
  have a3 : (indsL t.f3).length ≤ t.f3.length * 120 := fm_max indL 120 t.f3 (fun c hc => indexB_len (tindsB_all _ _ _ h8 c hc))
  rw [tabL_len]
  omega
theorem tabsB_all {nx : Int} : ∀ (l : List S70) (last : Int) (ns : List (List UInt8)), tabsB nx last ns l = true → ∀ t ∈ l, tableB t = true
  | [], _, _, _, c, hc => by cases hc
  | x :: l, ids, ns, h, c, hc => by
    unfold tabsB at h
    simp only [Bool.and_eq_true] at h
    rcases List.mem_cons.1 hc with rfl | hc
    · exact h.2.2.2.1
    · exact tabsB_all l _ _ h.2.2.2.2 c hc
theorem schB_len {v : Int} {ts : List S70} {nx : Int} (h : schB v ts nx = true) : (putL v ts nx).length ≤ 10000 ∧ ts.length ≤ 4 := by
  unfold schB at h
  simp only [Bool.and_eq_true, decide_eq_true_eq] at h
  obtain ⟨_, _, _, _, h5, h6⟩ := h
  have a2 : (tabsL ts).length ≤ ts.length * 2000 := fm_max tabL 2000 ts (fun c hc => tableB_len (tabsB_all _ _ _ h6 c hc))
  rw [putL_len]
  omega
def putS (v : Int) (ts : List S70) (nx : Int) : ByteArray := if schB v ts nx = true then sealB (strOfNums (putL v ts nx)) else ⟨#[]⟩
end Go.Proofs.YtjgomlcdmpcoaaaDoor.H
