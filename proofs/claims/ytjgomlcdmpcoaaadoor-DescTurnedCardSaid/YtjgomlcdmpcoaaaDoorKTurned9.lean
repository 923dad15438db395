/- Own texts of this session, packed by its program wip/pp/pack.py: lemmas and walks of functions. -/
import Derived.Test.YtjgomlcdmpcoaaaDoorKTurned1
import Derived.Test.YtjgomlcdmpcoaaaDoorKTurned6
import Derived.Test.YtjgomlcdmpcoaaaDoorKTurned8
namespace Go.Proofs.YtjgomlcdmpcoaaaDoor.D
open Go.RowKit Go.Proofs.YtjgomlcdmpcoaaaDoorW.PrintWords Go.Proofs.YtjgomlcdmpcoaaaDoorW.PrintLast Go.Proofs.YtjgomlcdmpcoaaaDoorW.PrintMore
attribute [local go_sem] max2_int min2_int max_two min_two max_three min_three max_four min_four
set_option linter.unusedVariables false
set_option linter.unusedSimpArgs false
mutual
def falseworkref6_May.j0 : Nat → Bool → Int → List (S70) → Int → Option (Bool)
 | 0, _, _, _, _ => none
 | k + 1, x30, x172000, x172001, x172002 => if x30 = true then (some false) else (falseworkref6_May.l0 k 0 0 x172000 x172001 x172002)
def falseworkref6_May.l0 : Nat → Int → Int → Int → List (S70) → Int → Option (Bool)
 | 0, _, _, _, _, _ => none
 | k + 1, x3, x4, x172000, x172001, x172002 => if x4 < (x172001.length : Int) then (if 0 ≤ x4 then (if ((rd_T70 x172001 x4).f0) ≤ x3 then (falseworkref6_May.j2 k x4 true x172000 x172001 x172002 ((rd_T70 x172001 x4).f0) ((rd_T70 x172001 x4).f1) ((rd_T70 x172001 x4).f2) ((rd_T70 x172001 x4).f3) ((rd_T70 x172001 x4).f4)) else (if ((rd_T70 x172001 x4).f0) ≥ x172002 then (falseworkref6_May.j2 k x4 true x172000 x172001 x172002 ((rd_T70 x172001 x4).f0) ((rd_T70 x172001 x4).f1) ((rd_T70 x172001 x4).f2) ((rd_T70 x172001 x4).f3) ((rd_T70 x172001 x4).f4)) else ((falseworkref6_table.f k ((rd_T70 x172001 x4).f0) ((rd_T70 x172001 x4).f1) ((rd_T70 x172001 x4).f2) ((rd_T70 x172001 x4).f3) ((rd_T70 x172001 x4).f4)).bind fun t174 => (falseworkref6_May.j2 k x4 (!t174) x172000 x172001 x172002 ((rd_T70 x172001 x4).f0) ((rd_T70 x172001 x4).f1) ((rd_T70 x172001 x4).f2) ((rd_T70 x172001 x4).f3) ((rd_T70 x172001 x4).f4))))) else (none)) else (some true)
def falseworkref6_May.j2 : Nat → Int → Bool → Int → List (S70) → Int → Int → ByteArray → List (S75) → List (S98) → Int → Option (Bool)
 | 0, _, _, _, _, _, _, _, _, _, _ => none
 | k + 1, x4, x58, x172000, x172001, x172002, x174000, x174001, x174002, x174003, x174004 => if x58 = true then (some false) else (falseworkref6_May.l1 k x174000 x4 0 x172000 x172001 x172002 x174000 x174001 x174002 x174003 x174004)
def falseworkref6_May.l1 : Nat → Int → Int → Int → Int → List (S70) → Int → Int → ByteArray → List (S75) → List (S98) → Int → Option (Bool)
 | 0, _, _, _, _, _, _, _, _, _, _, _ => none
 | k + 1, x3, x4, x6, x172000, x172001, x172002, x174000, x174001, x174002, x174003, x174004 => if x6 < x4 then (if 0 ≤ x6 then (if x6 < (x172001.length : Int) then (if ((rd_T70 x172001 x6).f1).toList = x174001.toList then (some false) else (falseworkref6_May.l1 k x3 x4 (wrap64 (x6 + 1)) x172000 x172001 x172002 x174000 x174001 x174002 x174003 x174004)) else (none)) else (none)) else (falseworkref6_May.l0 k x3 (wrap64 (x4 + 1)) x172000 x172001 x172002)
end
def falseworkref6_May.f (k : Nat) (a0_0 : Int) (l0_1 : List (S70)) (a0_2 : Int) : Option (Bool) := if a0_0 < 0 then (falseworkref6_May.j0 k true a0_0 l0_1 a0_2) else (if a0_0 ≥ 1099511627776 then (falseworkref6_May.j0 k true a0_0 l0_1 a0_2) else (if a0_2 < 0 then (falseworkref6_May.j0 k true a0_0 l0_1 a0_2) else (if a0_2 ≥ 1099511627776 then (falseworkref6_May.j0 k true a0_0 l0_1 a0_2) else (falseworkref6_May.j0 k (decide ((l0_1.length : Int) > 4)) a0_0 l0_1 a0_2))))
theorem falseworkref6_May.mono_l : ∀ k, (∀ y0 y1 y2 y3, LeO (falseworkref6_May.j0 k y0 y1 y2 y3) (falseworkref6_May.j0 (k + 1) y0 y1 y2 y3)) ∧ (∀ y0 y1 y2 y3 y4, LeO (falseworkref6_May.l0 k y0 y1 y2 y3 y4) (falseworkref6_May.l0 (k + 1) y0 y1 y2 y3 y4)) ∧ (∀ y0 y1 y2 y3 y4 y5 y6 y7 y8 y9, LeO (falseworkref6_May.j2 k y0 y1 y2 y3 y4 y5 y6 y7 y8 y9) (falseworkref6_May.j2 (k + 1) y0 y1 y2 y3 y4 y5 y6 y7 y8 y9)) ∧ (∀ y0 y1 y2 y3 y4 y5 y6 y7 y8 y9 y10, LeO (falseworkref6_May.l1 k y0 y1 y2 y3 y4 y5 y6 y7 y8 y9 y10) (falseworkref6_May.l1 (k + 1) y0 y1 y2 y3 y4 y5 y6 y7 y8 y9 y10))
 | 0 => ⟨fun _ _ _ _ r h => by simp [falseworkref6_May.j0] at h, fun _ _ _ _ _ r h => by simp [falseworkref6_May.l0] at h, fun _ _ _ _ _ _ _ _ _ _ r h => by simp [falseworkref6_May.j2] at h, fun _ _ _ _ _ _ _ _ _ _ _ r h => by simp [falseworkref6_May.l1] at h⟩
 | k + 1 => by
  obtain ⟨ih0, ih1, ih2, ih3⟩ := falseworkref6_May.mono_l k
  refine ⟨?_, ?_, ?_, ?_⟩
  ·intro y0 y1 y2 y3
   unfold falseworkref6_May.j0
   repeat' first
   | (with_reducible exact ih0 _ _ _ _)
   | (with_reducible exact ih1 _ _ _ _ _)
   | (with_reducible exact ih2 _ _ _ _ _ _ _ _ _ _)
   | (with_reducible exact ih3 _ _ _ _ _ _ _ _ _ _ _)
   | (with_reducible exact falseworkref6_table.mono _ _ _ _ _ _)
   | (with_reducible exact LeO.refl _)
   | (with_reducible exact LeO.none _)
   | (with_reducible refine LeO.ite ?_ ?_)
   | (with_reducible refine LeO.bind ?_ (fun _ => ?_))
   | exact ih0 _ _ _ _
   | exact ih1 _ _ _ _ _
   | exact ih2 _ _ _ _ _ _ _ _ _ _
   | exact ih3 _ _ _ _ _ _ _ _ _ _ _
   | exact falseworkref6_table.mono _ _ _ _ _ _
   | exact LeO.none _
   | refine LeO.ite ?_ ?_
   | refine LeO.bind ?_ (fun _ => ?_)
  ·intro y0 y1 y2 y3 y4
   unfold falseworkref6_May.l0
   repeat' first
   | (with_reducible exact ih0 _ _ _ _)
   | (with_reducible exact ih1 _ _ _ _ _)
   | (with_reducible exact ih2 _ _ _ _ _ _ _ _ _ _)
   | (with_reducible exact ih3 _ _ _ _ _ _ _ _ _ _ _)
   | (with_reducible exact falseworkref6_table.mono _ _ _ _ _ _)
   | (with_reducible exact LeO.refl _)
   | (with_reducible exact LeO.none _)
   | (with_reducible refine LeO.ite ?_ ?_)
   | (with_reducible refine LeO.bind ?_ (fun _ => ?_))
   | exact ih0 _ _ _ _
   | exact ih1 _ _ _ _ _
   | exact ih2 _ _ _ _ _ _ _ _ _ _
   | exact ih3 _ _ _ _ _ _ _ _ _ _ _
   | exact falseworkref6_table.mono _ _ _ _ _ _
   | exact LeO.none _
   | refine LeO.ite ?_ ?_
   | refine LeO.bind ?_ (fun _ => ?_)
  ·intro y0 y1 y2 y3 y4 y5 y6 y7 y8 y9
   unfold falseworkref6_May.j2
   repeat' first
   | (with_reducible exact ih0 _ _ _ _)
   | (with_reducible exact ih1 _ _ _ _ _)
   | (with_reducible exact ih2 _ _ _ _ _ _ _ _ _ _)
   | (with_reducible exact ih3 _ _ _ _ _ _ _ _ _ _ _)
   | (with_reducible exact falseworkref6_table.mono _ _ _ _ _ _)
   | (with_reducible exact LeO.refl _)
   | (with_reducible exact LeO.none _)
   | (with_reducible refine LeO.ite ?_ ?_)
   | (with_reducible refine LeO.bind ?_ (fun _ => ?_))
   | exact ih0 _ _ _ _
   | exact ih1 _ _ _ _ _
   | exact ih2 _ _ _ _ _ _ _ _ _ _
   | exact ih3 _ _ _ _ _ _ _ _ _ _ _
   | exact falseworkref6_table.mono _ _ _ _ _ _
   | exact LeO.none _
   | refine LeO.ite ?_ ?_
   | refine LeO.bind ?_ (fun _ => ?_)
  ·intro y0 y1 y2 y3 y4 y5 y6 y7 y8 y9 y10
   unfold falseworkref6_May.l1
   repeat' first
   | (with_reducible exact ih0 _ _ _ _)
   | (with_reducible exact ih1 _ _ _ _ _)
   | (with_reducible exact ih2 _ _ _ _ _ _ _ _ _ _)
   | (with_reducible exact ih3 _ _ _ _ _ _ _ _ _ _ _)
   | (with_reducible exact falseworkref6_table.mono _ _ _ _ _ _)
   | (with_reducible exact LeO.refl _)
   | (with_reducible exact LeO.none _)
   | (with_reducible refine LeO.ite ?_ ?_)
   | (with_reducible refine LeO.bind ?_ (fun _ => ?_))
   | exact ih0 _ _ _ _
   | exact ih1 _ _ _ _ _
   | exact ih2 _ _ _ _ _ _ _ _ _ _
   | exact ih3 _ _ _ _ _ _ _ _ _ _ _
   | exact falseworkref6_table.mono _ _ _ _ _ _
   | exact LeO.none _
   | refine LeO.ite ?_ ?_
   | refine LeO.bind ?_ (fun _ => ?_)
theorem falseworkref6_May.mono : ∀ a0 a1 a2 k, LeO (falseworkref6_May.f k a0 a1 a2) (falseworkref6_May.f (k + 1) a0 a1 a2) := by
 intro a0 a1 a2 k
 obtain ⟨ih0, ih1, ih2, ih3⟩ := falseworkref6_May.mono_l k
 unfold falseworkref6_May.f
 repeat' first
   | (with_reducible exact ih0 _ _ _ _)
   | (with_reducible exact ih1 _ _ _ _ _)
   | (with_reducible exact ih2 _ _ _ _ _ _ _ _ _ _)
   | (with_reducible exact ih3 _ _ _ _ _ _ _ _ _ _ _)
   | (with_reducible exact falseworkref6_table.mono _ _ _ _ _ _)
   | (with_reducible exact LeO.refl _)
   | (with_reducible exact LeO.none _)
   | (with_reducible refine LeO.ite ?_ ?_)
   | (with_reducible refine LeO.bind ?_ (fun _ => ?_))
   | exact ih0 _ _ _ _
   | exact ih1 _ _ _ _ _
   | exact ih2 _ _ _ _ _ _ _ _ _ _
   | exact ih3 _ _ _ _ _ _ _ _ _ _ _
   | exact falseworkref6_table.mono _ _ _ _ _ _
   | exact LeO.none _
   | refine LeO.ite ?_ ?_
   | refine LeO.bind ?_ (fun _ => ?_)
set_option maxHeartbeats 8000000 in
set_option maxRecDepth 100000 in
theorem falseworkref6_May.calls (k : Nat) (a0_0 : Int) (A0_1 : Option Addr) (c0_1 : Nat) (l0_1 : List (S70)) (a0_2 : Int) (r : Bool) (w : World) (hr0_1 : Kd.C k70 w A0_1 l0_1.length l0_1) (hc0_1 : l0_1.length ≤ c0_1) (h : falseworkref6_May.f k a0_0 l0_1 a0_2 = some r) :
  Calls Tryd.prog 37 #[.agg #[.int .i64 a0_0, .slice A0_1 l0_1.length c0_1, .int .i64 a0_2]] w fun e w' => e = .returned (.bool r) ∧ Below w.heap.size w w' := by
 have hu28 := Tryd.underlying28
 have hu70 := Tryd.underlying70
 have HR0_1 := Aside0.mk hr0_1
 have HC0_1 := Aside0.mk hc0_1
 clear hr0_1 hc0_1
 have HB := Aside0.mk (Below.refl w.heap.size w)
 have H : (if a0_0 < 0 then (falseworkref6_May.j0 k true a0_0 l0_1 a0_2) else (if a0_0 ≥ 1099511627776 then (falseworkref6_May.j0 k true a0_0 l0_1 a0_2) else (if a0_2 < 0 then (falseworkref6_May.j0 k true a0_0 l0_1 a0_2) else (if a0_2 ≥ 1099511627776 then (falseworkref6_May.j0 k true a0_0 l0_1 a0_2) else (falseworkref6_May.j0 k (decide ((l0_1.length : Int) > 4)) a0_0 l0_1 a0_2))))) = some r := h
 clear h
 have HC2 := Aside0.mk H
 clear H
 go_enter Tryd.func37, Tryd.ntmps37
 go_upto_region 1 with (first | ((with_reducible refine gate_dst (N := 1) rfl ?_); (try (refine gate_guard (by rfl) ?_; dsimp only)); refine box_event ?hg (N := 1) ?hd (cs := #[.int .i64 a0_0, .slice A0_1 l0_1.length c0_1, .int .i64 a0_2]) (t := 28) ?hr ?_; (case hd => rfl); (case hg => rfl); (case hr => first | (go_simp; done) | (go_simp; rfl)); intro gb171 hg w3 hbox hb; have n0_ := Aside0.mk (below_step (by repeat (first | (with_reducible first | exact HB.out | apply below_alloc | apply pw_below_drewN | apply below_drew1) | exact HB.out)) hb); have n1_ := Aside0.mk (hbox); have n2_ := Aside0.mk ((by rw [hg]; exact (below_size (by repeat (first | (with_reducible first | exact HB.out | apply below_alloc | apply pw_below_drewN | apply below_drew1) | exact HB.out))) : w.heap.size ≤ gb171)); have n3_ := Aside0.mk ((by rw [hg]; exact (below_size (by repeat (first | (with_reducible first | exact HB.out | apply below_alloc | apply pw_below_drewN | apply below_drew1) | exact HB.out))) : w.heap.size ≤ gb171)); clear HB; have HB := n0_; have BK171 := n1_; have GW171 := n2_; have GE171 := n3_; clear n0_ n1_ n2_ n3_; clear hb hbox hg))
 repeat (go_quiet (first | ((with_reducible refine gate_dst (N := 1) rfl ?_); (try (refine gate_guard (by rfl) ?_; dsimp only)); refine box_event ?hg (N := 1) ?hd (cs := #[.int .i64 a0_0, .slice A0_1 l0_1.length c0_1, .int .i64 a0_2]) (t := 28) ?hr ?_; (case hd => rfl); (case hg => rfl); (case hr => first | (go_simp; done) | (go_simp; rfl)); intro gb171 hg w3 hbox hb; have n0_ := Aside0.mk (below_step (by repeat (first | (with_reducible first | exact HB.out | apply below_alloc | apply pw_below_drewN | apply below_drew1) | exact HB.out)) hb); have n1_ := Aside0.mk (hbox); have n2_ := Aside0.mk ((by rw [hg]; exact (below_size (by repeat (first | (with_reducible first | exact HB.out | apply below_alloc | apply pw_below_drewN | apply below_drew1) | exact HB.out))) : w.heap.size ≤ gb171)); have n3_ := Aside0.mk ((by rw [hg]; exact (below_size (by repeat (first | (with_reducible first | exact HB.out | apply below_alloc | apply pw_below_drewN | apply below_drew1) | exact HB.out))) : w.heap.size ≤ gb171)); clear HB; have HB := n0_; have BK171 := n1_; have GW171 := n2_; have GE171 := n3_; clear n0_ n1_ n2_ n3_; clear hb hbox hg)); go_upto_region 1 with (first | ((with_reducible refine gate_dst (N := 1) rfl ?_); (try (refine gate_guard (by rfl) ?_; dsimp only)); refine box_event ?hg (N := 1) ?hd (cs := #[.int .i64 a0_0, .slice A0_1 l0_1.length c0_1, .int .i64 a0_2]) (t := 28) ?hr ?_; (case hd => rfl); (case hg => rfl); (case hr => first | (go_simp; done) | (go_simp; rfl)); intro gb171 hg w3 hbox hb; have n0_ := Aside0.mk (below_step (by repeat (first | (with_reducible first | exact HB.out | apply below_alloc | apply pw_below_drewN | apply below_drew1) | exact HB.out)) hb); have n1_ := Aside0.mk (hbox); have n2_ := Aside0.mk ((by rw [hg]; exact (below_size (by repeat (first | (with_reducible first | exact HB.out | apply below_alloc | apply pw_below_drewN | apply below_drew1) | exact HB.out))) : w.heap.size ≤ gb171)); have n3_ := Aside0.mk ((by rw [hg]; exact (below_size (by repeat (first | (with_reducible first | exact HB.out | apply below_alloc | apply pw_below_drewN | apply below_drew1) | exact HB.out))) : w.heap.size ≤ gb171)); clear HB; have HB := n0_; have BK171 := n1_; have GW171 := n2_; have GE171 := n3_; clear n0_ n1_ n2_ n3_; clear hb hbox hg)))
 (try simp only [Act.put, List.setIfInBounds_toArray, List.set_cons_zero, List.set_cons_succ])
 go_cut [30] (fun v30 wc => ∃ (kq : Nat) (x30_1 : Bool), v30 = .bool x30_1 ∧ Aside0 (falseworkref6_May.j0 kq x30_1 a0_0 l0_1 a0_2 = some r) ∧ Aside0 (kq ≤ k) ∧ Aside0 (wc.heap[gb171]? = some (.cells #[.int .i64 a0_0, (.slice A0_1 l0_1.length c0_1), .int .i64 a0_2] 28 (0, 0))) ∧ Aside0 (Below w.heap.size w wc))
 case first =>
  have H := HC2.out
  clear HC2
  by_cases c4 : a0_0 < 0
  ·rw [if_pos c4] at H
   have c4b0 : decide (a0_0 < 0) = true := decide_eq_true c4
   clear c4
   (first | rw [c4b0] | (simp only [i64_w, i32_w]; rw [c4b0]) | skip)
   have H' := Aside0.mk H
   clear H
   have hcz5_0 : w3.cell? ⟨gb171, 0, none⟩ = some (.int .i64 a0_0) := (blk_cell BK171.out 0).trans rfl
   have hcz5_1 : w3.cell? ⟨gb171, 1, none⟩ = some (.slice A0_1 l0_1.length c0_1) := (blk_cell BK171.out 1).trans rfl
   have hcz5_2 : w3.cell? ⟨gb171, 2, none⟩ = some (.int .i64 a0_2) := (blk_cell BK171.out 2).trans rfl
   have hfz5_0 := blk_frozen BK171.out 0
   have hfz5_1 := blk_frozen BK171.out 1
   have hfz5_2 := blk_frozen BK171.out 2
   go_wp2
   repeat (go_quiet (fail); try go_wp2)
   go_meet
   case rel => exact ⟨_, (true), (by first | rfl | (simp; done) | (simp [*]; done)), H', ⟨by first | omega | exact Nat.le_refl _⟩, ⟨by (with_reducible repeat (first | refine blk_drewN ?_ _ | refine blk_drew ?_ | refine blk_alloc ?_ _)); exact BK171.out⟩, ⟨by repeat (first | (with_reducible first | exact HB.out | apply below_alloc | apply pw_below_drewN | apply below_drew1 | refine below_set ?_ GE171.out) | exact HB.out)⟩⟩
  ·rw [if_neg c4] at H
   have c4b0 : decide (a0_0 < 0) = false := decide_eq_false c4
   clear c4
   (first | rw [c4b0] | (simp only [i64_w, i32_w]; rw [c4b0]) | skip)
   by_cases c6 : a0_0 ≥ 1099511627776
   ·rw [if_pos c6] at H
    have c6b0 : decide (1099511627776 ≤ a0_0) = true := decide_eq_true c6
    clear c6
    have H' := Aside0.mk H
    clear H
    have hcz7_0 : w3.cell? ⟨gb171, 0, none⟩ = some (.int .i64 a0_0) := (blk_cell BK171.out 0).trans rfl
    have hcz7_1 : w3.cell? ⟨gb171, 1, none⟩ = some (.slice A0_1 l0_1.length c0_1) := (blk_cell BK171.out 1).trans rfl
    have hcz7_2 : w3.cell? ⟨gb171, 2, none⟩ = some (.int .i64 a0_2) := (blk_cell BK171.out 2).trans rfl
    have hfz7_0 := blk_frozen BK171.out 0
    have hfz7_1 := blk_frozen BK171.out 1
    have hfz7_2 := blk_frozen BK171.out 2
    go_wp2
    repeat (go_quiet (fail); try go_wp2)
    go_meet
    case rel => exact ⟨_, (true), (by first | rfl | (simp; done) | (simp [*]; done)), H', ⟨by first | omega | exact Nat.le_refl _⟩, ⟨by (with_reducible repeat (first | refine blk_drewN ?_ _ | refine blk_drew ?_ | refine blk_alloc ?_ _)); exact BK171.out⟩, ⟨by repeat (first | (with_reducible first | exact HB.out | apply below_alloc | apply pw_below_drewN | apply below_drew1 | refine below_set ?_ GE171.out) | exact HB.out)⟩⟩
   ·rw [if_neg c6] at H
    have c6b0 : decide (1099511627776 ≤ a0_0) = false := decide_eq_false c6
    clear c6
    by_cases c8 : a0_2 < 0
    ·rw [if_pos c8] at H
     have c8b0 : decide (a0_2 < 0) = true := decide_eq_true c8
     clear c8
     have H' := Aside0.mk H
     clear H
     have hcz9_0 : w3.cell? ⟨gb171, 0, none⟩ = some (.int .i64 a0_0) := (blk_cell BK171.out 0).trans rfl
     have hcz9_1 : w3.cell? ⟨gb171, 1, none⟩ = some (.slice A0_1 l0_1.length c0_1) := (blk_cell BK171.out 1).trans rfl
     have hcz9_2 : w3.cell? ⟨gb171, 2, none⟩ = some (.int .i64 a0_2) := (blk_cell BK171.out 2).trans rfl
     have hfz9_0 := blk_frozen BK171.out 0
     have hfz9_1 := blk_frozen BK171.out 1
     have hfz9_2 := blk_frozen BK171.out 2
     go_wp2
     repeat (go_quiet (fail); try go_wp2)
     go_meet
     case rel => exact ⟨_, (true), (by first | rfl | (simp; done) | (simp [*]; done)), H', ⟨by first | omega | exact Nat.le_refl _⟩, ⟨by (with_reducible repeat (first | refine blk_drewN ?_ _ | refine blk_drew ?_ | refine blk_alloc ?_ _)); exact BK171.out⟩, ⟨by repeat (first | (with_reducible first | exact HB.out | apply below_alloc | apply pw_below_drewN | apply below_drew1 | refine below_set ?_ GE171.out) | exact HB.out)⟩⟩
    ·rw [if_neg c8] at H
     have c8b0 : decide (a0_2 < 0) = false := decide_eq_false c8
     clear c8
     by_cases c10 : a0_2 ≥ 1099511627776
     ·rw [if_pos c10] at H
      have c10b0 : decide (1099511627776 ≤ a0_2) = true := decide_eq_true c10
      clear c10
      have H' := Aside0.mk H
      clear H
      have hcz11_0 : w3.cell? ⟨gb171, 0, none⟩ = some (.int .i64 a0_0) := (blk_cell BK171.out 0).trans rfl
      have hcz11_1 : w3.cell? ⟨gb171, 1, none⟩ = some (.slice A0_1 l0_1.length c0_1) := (blk_cell BK171.out 1).trans rfl
      have hcz11_2 : w3.cell? ⟨gb171, 2, none⟩ = some (.int .i64 a0_2) := (blk_cell BK171.out 2).trans rfl
      have hfz11_0 := blk_frozen BK171.out 0
      have hfz11_1 := blk_frozen BK171.out 1
      have hfz11_2 := blk_frozen BK171.out 2
      go_wp2
      repeat (go_quiet (fail); try go_wp2)
      go_meet
      case rel => exact ⟨_, (true), (by first | rfl | (simp; done) | (simp [*]; done)), H', ⟨by first | omega | exact Nat.le_refl _⟩, ⟨by (with_reducible repeat (first | refine blk_drewN ?_ _ | refine blk_drew ?_ | refine blk_alloc ?_ _)); exact BK171.out⟩, ⟨by repeat (first | (with_reducible first | exact HB.out | apply below_alloc | apply pw_below_drewN | apply below_drew1 | refine below_set ?_ GE171.out) | exact HB.out)⟩⟩
     ·rw [if_neg c10] at H
      have c10b0 : decide (1099511627776 ≤ a0_2) = false := decide_eq_false c10
      clear c10
      have H' := Aside0.mk H
      clear H
      have hcz12_0 : w3.cell? ⟨gb171, 0, none⟩ = some (.int .i64 a0_0) := (blk_cell BK171.out 0).trans rfl
      have hcz12_1 : w3.cell? ⟨gb171, 1, none⟩ = some (.slice A0_1 l0_1.length c0_1) := (blk_cell BK171.out 1).trans rfl
      have hcz12_2 : w3.cell? ⟨gb171, 2, none⟩ = some (.int .i64 a0_2) := (blk_cell BK171.out 2).trans rfl
      have hfz12_0 := blk_frozen BK171.out 0
      have hfz12_1 := blk_frozen BK171.out 1
      have hfz12_2 := blk_frozen BK171.out 2
      go_wp2
      repeat (go_quiet (fail); try go_wp2)
      go_meet
      case rel => exact ⟨_, (decide ((l0_1.length : Int) > 4)), (by first | rfl | (simp; done) | (simp [*]; done)), H', ⟨by first | omega | exact Nat.le_refl _⟩, ⟨by (with_reducible repeat (first | refine blk_drewN ?_ _ | refine blk_drew ?_ | refine blk_alloc ?_ _)); exact BK171.out⟩, ⟨by repeat (first | (with_reducible first | exact HB.out | apply below_alloc | apply pw_below_drewN | apply below_drew1 | refine below_set ?_ GE171.out) | exact HB.out)⟩⟩
 case rest =>
  clear HC2
  try clear c1
  try clear p2
  try clear c3
  try clear c4
  try clear c4b0
  try clear c6
  try clear c6b0
  try clear c8
  try clear c8b0
  try clear c10
  try clear c10b0
  try clear hcz11_0
  try clear hcz11_1
  try clear hcz11_2
  try clear hcz12_0
  try clear hcz12_1
  try clear hcz12_2
  try clear hcz5_0
  try clear hcz5_1
  try clear hcz5_2
  try clear hcz7_0
  try clear hcz7_1
  try clear hcz7_2
  try clear hcz9_0
  try clear hcz9_1
  try clear hcz9_2
  try clear hfz11_0
  try clear hfz11_1
  try clear hfz11_2
  try clear hfz12_0
  try clear hfz12_1
  try clear hfz12_2
  try clear hfz5_0
  try clear hfz5_1
  try clear hfz5_2
  try clear hfz7_0
  try clear hfz7_1
  try clear hfz7_2
  try clear hfz9_0
  try clear hfz9_1
  try clear hfz9_2
  obtain ⟨kq, x30_1, rfl, HA, HJ1, BK171, HB⟩ := hcut
  cases kq with
  | zero => exact absurd HA.out (by simp [falseworkref6_May.j0])
  | succ kj1 =>
   have H := HA.out
   clear HA
   simp only [falseworkref6_May.j0] at H
   by_cases c13 : x30_1 = true
   ·subst c13
    have H1 : (some false) = some r := by rw [if_pos rfl] at H; exact H
    clear H
    have H := H1
    clear H1
    obtain rfl := Option.some.inj H
    go_wp2
    repeat (go_quiet (fail); try go_wp2)
    go_ret
    exact ⟨by first | rfl | (simp [errW_none, errW_some] <;> rfl) | (simp [*, errW_none, errW_some] <;> rfl), by repeat (first | (with_reducible first | exact HB.out | apply below_alloc | apply pw_below_drewN | apply below_drew1 | refine below_set ?_ GE171.out) | exact HB.out)⟩
   ·replace c13 := Bool.eq_false_iff.mpr c13
    subst c13
    have H1 : (falseworkref6_May.l0 kj1 0 0 a0_0 l0_1 a0_2) = some r := by rw [if_neg (show ¬ (false = true) by decide)] at H; exact H
    clear H
    have H := H1
    clear H1
    have H' := Aside0.mk H
    clear H
    go_wp2
    repeat (go_quiet (fail); try go_wp2)
    go_loopg [3, 4] kj1 (fun kq v3 v4 w' => ∃ (x3_2 : Int) (x4_2 : Int), v3 = .int .i64 x3_2 ∧ v4 = .int .i64 x4_2 ∧ Aside0 (falseworkref6_May.l0 kq x3_2 x4_2 a0_0 l0_1 a0_2 = some r) ∧ Aside0 (kq ≤ kj1) ∧ Aside0 (w'.heap[gb171]? = some (.cells #[.int .i64 a0_0, (.slice A0_1 l0_1.length c0_1), .int .i64 a0_2] 28 (0, 0))) ∧ Aside0 (Below w.heap.size w w'))
    case atStart => exact ⟨(0), (0), (by first | rfl | (simp; done) | (simp [*]; done)), (by first | rfl | (simp; done) | (simp [*]; done)), H', ⟨Nat.le_refl _⟩, ⟨by (with_reducible repeat (first | refine blk_drewN ?_ _ | refine blk_drew ?_ | refine blk_alloc ?_ _)); exact BK171.out⟩, ⟨by repeat (first | (with_reducible first | exact HB.out | apply below_alloc | apply pw_below_drewN | apply below_drew1 | refine below_set ?_ GE171.out) | exact HB.out)⟩⟩
    case round =>
     clear H'
     try clear c1
     try clear p2
     try clear c3
     try clear c4
     try clear c4b0
     try clear c6
     try clear c6b0
     try clear c8
     try clear c8b0
     try clear c10
     try clear c10b0
     try clear c13
     try clear hcz11_0
     try clear hcz11_1
     try clear hcz11_2
     try clear hcz12_0
     try clear hcz12_1
     try clear hcz12_2
     try clear hcz5_0
     try clear hcz5_1
     try clear hcz5_2
     try clear hcz7_0
     try clear hcz7_1
     try clear hcz7_2
     try clear hcz9_0
     try clear hcz9_1
     try clear hcz9_2
     try clear hfz11_0
     try clear hfz11_1
     try clear hfz11_2
     try clear hfz12_0
     try clear hfz12_1
     try clear hfz12_2
     try clear hfz5_0
     try clear hfz5_1
     try clear hfz5_2
     try clear hfz7_0
     try clear hfz7_1
     try clear hfz7_2
     try clear hfz9_0
     try clear hfz9_1
     try clear hfz9_2
     try clear p2
     obtain ⟨x3_2, x4_2, rfl, rfl, HA, HK2, BK171, HB⟩ := hrel
     cases gk with
     | zero => exact absurd HA.out (by simp [falseworkref6_May.l0])
     | succ k2 =>
      have H := HA.out
      clear HA
      simp only [falseworkref6_May.l0] at H
      by_cases c14 : x4_2 < (l0_1.length : Int)
      ·rw [if_pos c14] at H
       have c14b0 : decide (x4_2 < (l0_1.length : Int)) = true := decide_eq_true c14
       clear c14
       by_cases c15 : 0 ≤ x4_2
       ·rw [if_pos c15] at H
        have c15b0 : decide (0 ≤ x4_2) = true := decide_eq_true c15
        clear c15
        have HC16 := Aside0.mk H
        clear H
        have hcz17_0 : wr.cell? ⟨gb171, 0, none⟩ = some (.int .i64 a0_0) := (blk_cell BK171.out 0).trans rfl
        have hcz17_1 : wr.cell? ⟨gb171, 1, none⟩ = some (.slice A0_1 l0_1.length c0_1) := (blk_cell BK171.out 1).trans rfl
        have hcz17_2 : wr.cell? ⟨gb171, 2, none⟩ = some (.int .i64 a0_2) := (blk_cell BK171.out 2).trans rfl
        have hfz17_0 := blk_frozen BK171.out 0
        have hfz17_1 := blk_frozen BK171.out 1
        have hfz17_2 := blk_frozen BK171.out 2
        have p172 : 0 ≤ (x4_2 : Int) := of_decide_eq_true (by first | (with_reducible assumption) | assumption)
        have q172 : x4_2 < (l0_1.length : Int) := of_decide_eq_true (by first | (with_reducible assumption) | assumption)
        obtain ⟨ad172, A172_2, c172_2, A172_3, c172_3, e172, hx172_0, hx172_1, hx172_2, hx172_3, hx172_4, hl172_2, hi172_2, hl172_3, hi172_3⟩ := at_T70 HR0_1.out x4_2 p172 q172
        cases e172
        replace hx172_0 := (HB.out.cell (World.block_lt_of_cell? w _ hx172_0)).trans hx172_0
        replace hx172_1 := (HB.out.cell (World.block_lt_of_cell? w _ hx172_1)).trans hx172_1
        replace hx172_2 := (HB.out.cell (World.block_lt_of_cell? w _ hx172_2)).trans hx172_2
        replace hx172_3 := (HB.out.cell (World.block_lt_of_cell? w _ hx172_3)).trans hx172_3
        replace hx172_4 := (HB.out.cell (World.block_lt_of_cell? w _ hx172_4)).trans hx172_4
        have HR172_2 := Aside0.mk hi172_2
        have HC172_2 := Aside0.mk hl172_2
        clear hi172_2 hl172_2
        have HR172_3 := Aside0.mk hi172_3
        have HC172_3 := Aside0.mk hl172_3
        clear hi172_3 hl172_3
        replace p172 := eq_true p172
        replace q172 := eq_true q172
        go_upto_region 8 with (first | ((with_reducible refine gate_dst (N := 5) rfl ?_); (try (refine gate_guard (by rfl) ?_; dsimp only)); refine box_event ?hg (N := 5) ?hd (cs := #[.int .i64 0, .string (⟨#[]⟩ : ByteArray), .slice none 0 0, .slice none 0 0, .int .i64 0]) (t := 70) ?hr ?_; (case hd => rfl); (case hg => rfl); (case hr => first | (go_simp; done) | (go_simp; rfl)); intro gb173 hg w18 hbox hb; have n0_ := Aside0.mk (blk_below (g := gb171) (o := .cells #[.int .i64 a0_0, .slice (some ad172) l0_1.length c0_1, .int .i64 a0_2] 28 (0, 0)) (by (with_reducible repeat (first | refine blk_drewN ?_ _ | refine blk_drew ?_ | refine blk_alloc ?_ _)); exact BK171.out) hb); have n1_ := Aside0.mk (below_step (by repeat (first | (with_reducible first | exact HB.out | apply below_alloc | apply pw_below_drewN | apply below_drew1 | refine below_set ?_ GE171.out) | exact HB.out)) hb); have n2_ := Aside0.mk (hbox); have n3_ := Aside0.mk ((by rw [hg]; exact (below_size (by repeat (first | (with_reducible first | exact HB.out | apply below_alloc | apply pw_below_drewN | apply below_drew1 | refine below_set ?_ GE171.out) | exact HB.out))) : w.heap.size ≤ gb173)); have n4_ := Aside0.mk ((by rw [hg]; exact (below_size (by repeat (first | (with_reducible first | exact HB.out | apply below_alloc | apply pw_below_drewN | apply below_drew1 | refine below_set ?_ GE171.out) | exact HB.out))) : w.heap.size ≤ gb173)); have n5_ := Aside0.mk ((by rw [hg]; exact Nat.ne_of_lt (blk_lt (g := gb171) (o := .cells #[.int .i64 a0_0, .slice (some ad172) l0_1.length c0_1, .int .i64 a0_2] 28 (0, 0)) (by (with_reducible repeat (first | refine blk_drewN ?_ _ | refine blk_drew ?_ | refine blk_alloc ?_ _)); exact BK171.out)) : gb171 ≠ gb173)); have n6_ := Aside0.mk ((by rw [hg]; exact Nat.ne_of_gt (blk_lt (g := gb171) (o := .cells #[.int .i64 a0_0, .slice (some ad172) l0_1.length c0_1, .int .i64 a0_2] 28 (0, 0)) (by (with_reducible repeat (first | refine blk_drewN ?_ _ | refine blk_drew ?_ | refine blk_alloc ?_ _)); exact BK171.out)) : gb173 ≠ gb171)); clear BK171; clear HB; have BK171 := n0_; have HB := n1_; have BK173 := n2_; have GW173 := n3_; have GE173 := n4_; have NB171_173 := n5_; have NB173_171 := n6_; clear n0_ n1_ n2_ n3_ n4_ n5_ n6_; clear hb hbox hg; have hnb19 := NB173_171.out; have hnc19 := NB171_173.out; have hcz20_0 : w18.cell? ⟨gb173, 0, none⟩ = some (.int .i64 0) := (blk_cell BK173.out 0).trans rfl; have hcz20_1 : w18.cell? ⟨gb173, 1, none⟩ = some (.string (⟨#[]⟩ : ByteArray)) := (blk_cell BK173.out 1).trans rfl; have hcz20_2 : w18.cell? ⟨gb173, 2, none⟩ = some (.slice none 0 0) := (blk_cell BK173.out 2).trans rfl; have hcz20_3 : w18.cell? ⟨gb173, 3, none⟩ = some (.slice none 0 0) := (blk_cell BK173.out 3).trans rfl; have hcz20_4 : w18.cell? ⟨gb173, 4, none⟩ = some (.int .i64 0) := (blk_cell BK173.out 4).trans rfl; have hfz20_0 := blk_frozen BK173.out 0; have hfz20_1 := blk_frozen BK173.out 1; have hfz20_2 := blk_frozen BK173.out 2; have hfz20_3 := blk_frozen BK173.out 3; have hfz20_4 := blk_frozen BK173.out 4))
        repeat (go_quiet (first | ((with_reducible refine gate_dst (N := 5) rfl ?_); (try (refine gate_guard (by rfl) ?_; dsimp only)); refine box_event ?hg (N := 5) ?hd (cs := #[.int .i64 0, .string (⟨#[]⟩ : ByteArray), .slice none 0 0, .slice none 0 0, .int .i64 0]) (t := 70) ?hr ?_; (case hd => rfl); (case hg => rfl); (case hr => first | (go_simp; done) | (go_simp; rfl)); intro gb173 hg w18 hbox hb; have n0_ := Aside0.mk (blk_below (g := gb171) (o := .cells #[.int .i64 a0_0, .slice (some ad172) l0_1.length c0_1, .int .i64 a0_2] 28 (0, 0)) (by (with_reducible repeat (first | refine blk_drewN ?_ _ | refine blk_drew ?_ | refine blk_alloc ?_ _)); exact BK171.out) hb); have n1_ := Aside0.mk (below_step (by repeat (first | (with_reducible first | exact HB.out | apply below_alloc | apply pw_below_drewN | apply below_drew1 | refine below_set ?_ GE171.out) | exact HB.out)) hb); have n2_ := Aside0.mk (hbox); have n3_ := Aside0.mk ((by rw [hg]; exact (below_size (by repeat (first | (with_reducible first | exact HB.out | apply below_alloc | apply pw_below_drewN | apply below_drew1 | refine below_set ?_ GE171.out) | exact HB.out))) : w.heap.size ≤ gb173)); have n4_ := Aside0.mk ((by rw [hg]; exact (below_size (by repeat (first | (with_reducible first | exact HB.out | apply below_alloc | apply pw_below_drewN | apply below_drew1 | refine below_set ?_ GE171.out) | exact HB.out))) : w.heap.size ≤ gb173)); have n5_ := Aside0.mk ((by rw [hg]; exact Nat.ne_of_lt (blk_lt (g := gb171) (o := .cells #[.int .i64 a0_0, .slice (some ad172) l0_1.length c0_1, .int .i64 a0_2] 28 (0, 0)) (by (with_reducible repeat (first | refine blk_drewN ?_ _ | refine blk_drew ?_ | refine blk_alloc ?_ _)); exact BK171.out)) : gb171 ≠ gb173)); have n6_ := Aside0.mk ((by rw [hg]; exact Nat.ne_of_gt (blk_lt (g := gb171) (o := .cells #[.int .i64 a0_0, .slice (some ad172) l0_1.length c0_1, .int .i64 a0_2] 28 (0, 0)) (by (with_reducible repeat (first | refine blk_drewN ?_ _ | refine blk_drew ?_ | refine blk_alloc ?_ _)); exact BK171.out)) : gb173 ≠ gb171)); clear BK171; clear HB; have BK171 := n0_; have HB := n1_; have BK173 := n2_; have GW173 := n3_; have GE173 := n4_; have NB171_173 := n5_; have NB173_171 := n6_; clear n0_ n1_ n2_ n3_ n4_ n5_ n6_; clear hb hbox hg; have hnb19 := NB173_171.out; have hnc19 := NB171_173.out; have hcz20_0 : w18.cell? ⟨gb173, 0, none⟩ = some (.int .i64 0) := (blk_cell BK173.out 0).trans rfl; have hcz20_1 : w18.cell? ⟨gb173, 1, none⟩ = some (.string (⟨#[]⟩ : ByteArray)) := (blk_cell BK173.out 1).trans rfl; have hcz20_2 : w18.cell? ⟨gb173, 2, none⟩ = some (.slice none 0 0) := (blk_cell BK173.out 2).trans rfl; have hcz20_3 : w18.cell? ⟨gb173, 3, none⟩ = some (.slice none 0 0) := (blk_cell BK173.out 3).trans rfl; have hcz20_4 : w18.cell? ⟨gb173, 4, none⟩ = some (.int .i64 0) := (blk_cell BK173.out 4).trans rfl; have hfz20_0 := blk_frozen BK173.out 0; have hfz20_1 := blk_frozen BK173.out 1; have hfz20_2 := blk_frozen BK173.out 2; have hfz20_3 := blk_frozen BK173.out 3; have hfz20_4 := blk_frozen BK173.out 4)); go_upto_region 8 with (first | ((with_reducible refine gate_dst (N := 5) rfl ?_); (try (refine gate_guard (by rfl) ?_; dsimp only)); refine box_event ?hg (N := 5) ?hd (cs := #[.int .i64 0, .string (⟨#[]⟩ : ByteArray), .slice none 0 0, .slice none 0 0, .int .i64 0]) (t := 70) ?hr ?_; (case hd => rfl); (case hg => rfl); (case hr => first | (go_simp; done) | (go_simp; rfl)); intro gb173 hg w18 hbox hb; have n0_ := Aside0.mk (blk_below (g := gb171) (o := .cells #[.int .i64 a0_0, .slice (some ad172) l0_1.length c0_1, .int .i64 a0_2] 28 (0, 0)) (by (with_reducible repeat (first | refine blk_drewN ?_ _ | refine blk_drew ?_ | refine blk_alloc ?_ _)); exact BK171.out) hb); have n1_ := Aside0.mk (below_step (by repeat (first | (with_reducible first | exact HB.out | apply below_alloc | apply pw_below_drewN | apply below_drew1 | refine below_set ?_ GE171.out) | exact HB.out)) hb); have n2_ := Aside0.mk (hbox); have n3_ := Aside0.mk ((by rw [hg]; exact (below_size (by repeat (first | (with_reducible first | exact HB.out | apply below_alloc | apply pw_below_drewN | apply below_drew1 | refine below_set ?_ GE171.out) | exact HB.out))) : w.heap.size ≤ gb173)); have n4_ := Aside0.mk ((by rw [hg]; exact (below_size (by repeat (first | (with_reducible first | exact HB.out | apply below_alloc | apply pw_below_drewN | apply below_drew1 | refine below_set ?_ GE171.out) | exact HB.out))) : w.heap.size ≤ gb173)); have n5_ := Aside0.mk ((by rw [hg]; exact Nat.ne_of_lt (blk_lt (g := gb171) (o := .cells #[.int .i64 a0_0, .slice (some ad172) l0_1.length c0_1, .int .i64 a0_2] 28 (0, 0)) (by (with_reducible repeat (first | refine blk_drewN ?_ _ | refine blk_drew ?_ | refine blk_alloc ?_ _)); exact BK171.out)) : gb171 ≠ gb173)); have n6_ := Aside0.mk ((by rw [hg]; exact Nat.ne_of_gt (blk_lt (g := gb171) (o := .cells #[.int .i64 a0_0, .slice (some ad172) l0_1.length c0_1, .int .i64 a0_2] 28 (0, 0)) (by (with_reducible repeat (first | refine blk_drewN ?_ _ | refine blk_drew ?_ | refine blk_alloc ?_ _)); exact BK171.out)) : gb173 ≠ gb171)); clear BK171; clear HB; have BK171 := n0_; have HB := n1_; have BK173 := n2_; have GW173 := n3_; have GE173 := n4_; have NB171_173 := n5_; have NB173_171 := n6_; clear n0_ n1_ n2_ n3_ n4_ n5_ n6_; clear hb hbox hg; have hnb19 := NB173_171.out; have hnc19 := NB171_173.out; have hcz20_0 : w18.cell? ⟨gb173, 0, none⟩ = some (.int .i64 0) := (blk_cell BK173.out 0).trans rfl; have hcz20_1 : w18.cell? ⟨gb173, 1, none⟩ = some (.string (⟨#[]⟩ : ByteArray)) := (blk_cell BK173.out 1).trans rfl; have hcz20_2 : w18.cell? ⟨gb173, 2, none⟩ = some (.slice none 0 0) := (blk_cell BK173.out 2).trans rfl; have hcz20_3 : w18.cell? ⟨gb173, 3, none⟩ = some (.slice none 0 0) := (blk_cell BK173.out 3).trans rfl; have hcz20_4 : w18.cell? ⟨gb173, 4, none⟩ = some (.int .i64 0) := (blk_cell BK173.out 4).trans rfl; have hfz20_0 := blk_frozen BK173.out 0; have hfz20_1 := blk_frozen BK173.out 1; have hfz20_2 := blk_frozen BK173.out 2; have hfz20_3 := blk_frozen BK173.out 3; have hfz20_4 := blk_frozen BK173.out 4)))
        (try simp only [Act.put, List.setIfInBounds_toArray, List.set_cons_zero, List.set_cons_succ])
        go_cut [58] (fun v58 wc => ∃ (kq : Nat) (x58_15 : Bool), v58 = .bool x58_15 ∧ Aside0 (falseworkref6_May.j2 kq x4_2 x58_15 a0_0 l0_1 a0_2 ((rd_T70 l0_1 x4_2).f0) ((rd_T70 l0_1 x4_2).f1) ((rd_T70 l0_1 x4_2).f2) ((rd_T70 l0_1 x4_2).f3) ((rd_T70 l0_1 x4_2).f4) = some r) ∧ Aside0 (kq ≤ k2) ∧ Aside0 (wc.heap[gb171]? = some (.cells #[.int .i64 a0_0, (.slice (some ad172) l0_1.length c0_1), .int .i64 a0_2] 28 (0, 0))) ∧ Aside0 (wc.heap[gb173]? = some (.cells #[.int .i64 ((rd_T70 l0_1 x4_2).f0), .string ((rd_T70 l0_1 x4_2).f1), (.slice A172_2 ((rd_T70 l0_1 x4_2).f2).length c172_2), (.slice A172_3 ((rd_T70 l0_1 x4_2).f3).length c172_3), .int .i64 ((rd_T70 l0_1 x4_2).f4)] 70 (0, 0))) ∧ Aside0 (Below w.heap.size w wc))
        case first =>
         have H := HC16.out
         clear HC16
         by_cases c21 : ((rd_T70 l0_1 x4_2).f0) ≤ x3_2
         ·rw [if_pos c21] at H
          have c21b0 : decide (((rd_T70 l0_1 x4_2).f0) ≤ x3_2) = true := decide_eq_true c21
          clear c21
          (first | rw [c21b0] | (simp only [i64_w, i32_w]; rw [c21b0]) | skip)
          have H' := Aside0.mk H
          clear H
          have hnb22 := NB173_171.out
          have hnc22 := NB171_173.out
          have hcz23_0 : w18.cell? ⟨gb173, 0, none⟩ = some (.int .i64 0) := (blk_cell BK173.out 0).trans rfl
          have hcz23_1 : w18.cell? ⟨gb173, 1, none⟩ = some (.string (⟨#[]⟩ : ByteArray)) := (blk_cell BK173.out 1).trans rfl
          have hcz23_2 : w18.cell? ⟨gb173, 2, none⟩ = some (.slice none 0 0) := (blk_cell BK173.out 2).trans rfl
          have hcz23_3 : w18.cell? ⟨gb173, 3, none⟩ = some (.slice none 0 0) := (blk_cell BK173.out 3).trans rfl
          have hcz23_4 : w18.cell? ⟨gb173, 4, none⟩ = some (.int .i64 0) := (blk_cell BK173.out 4).trans rfl
          have hfz23_0 := blk_frozen BK173.out 0
          have hfz23_1 := blk_frozen BK173.out 1
          have hfz23_2 := blk_frozen BK173.out 2
          have hfz23_3 := blk_frozen BK173.out 3
          have hfz23_4 := blk_frozen BK173.out 4
          go_wp2
          repeat (go_quiet (fail); try go_wp2)
          go_meet
          case rel => exact ⟨_, (true), (by first | rfl | (simp; done) | (simp [*]; done)), H', ⟨by have := HJ1.out; have := HK2.out; first | omega | exact Nat.le_refl _⟩, ⟨by (with_reducible repeat (first | refine blk_drewN ?_ _ | refine blk_drew ?_ | refine blk_alloc ?_ _)); refine blk_far ?_ NB171_173.out _; (with_reducible repeat (first | refine blk_drewN ?_ _ | refine blk_drew ?_ | refine blk_alloc ?_ _)); refine blk_far ?_ NB171_173.out _; (with_reducible repeat (first | refine blk_drewN ?_ _ | refine blk_drew ?_ | refine blk_alloc ?_ _)); refine blk_far ?_ NB171_173.out _; (with_reducible repeat (first | refine blk_drewN ?_ _ | refine blk_drew ?_ | refine blk_alloc ?_ _)); refine blk_far ?_ NB171_173.out _; (with_reducible repeat (first | refine blk_drewN ?_ _ | refine blk_drew ?_ | refine blk_alloc ?_ _)); refine blk_far ?_ NB171_173.out _; (with_reducible repeat (first | refine blk_drewN ?_ _ | refine blk_drew ?_ | refine blk_alloc ?_ _)); exact BK171.out⟩, ⟨by (with_reducible repeat (first | refine blk_drewN ?_ _ | refine blk_drew ?_ | refine blk_alloc ?_ _)); refine blk_put (cs := #[.int .i64 ((rd_T70 l0_1 x4_2).f0), .string ((rd_T70 l0_1 x4_2).f1), .slice A172_2 ((rd_T70 l0_1 x4_2).f2).length c172_2, .slice A172_3 ((rd_T70 l0_1 x4_2).f3).length c172_3, .int .i64 0]) ?_ 4 _ rfl; (with_reducible repeat (first | refine blk_drewN ?_ _ | refine blk_drew ?_ | refine blk_alloc ?_ _)); refine blk_put (cs := #[.int .i64 ((rd_T70 l0_1 x4_2).f0), .string ((rd_T70 l0_1 x4_2).f1), .slice A172_2 ((rd_T70 l0_1 x4_2).f2).length c172_2, .slice none 0 0, .int .i64 0]) ?_ 3 _ rfl; (with_reducible repeat (first | refine blk_drewN ?_ _ | refine blk_drew ?_ | refine blk_alloc ?_ _)); refine blk_put (cs := #[.int .i64 ((rd_T70 l0_1 x4_2).f0), .string ((rd_T70 l0_1 x4_2).f1), .slice none 0 0, .slice none 0 0, .int .i64 0]) ?_ 2 _ rfl; (with_reducible repeat (first | refine blk_drewN ?_ _ | refine blk_drew ?_ | refine blk_alloc ?_ _)); refine blk_put (cs := #[.int .i64 ((rd_T70 l0_1 x4_2).f0), .string (⟨#[]⟩ : ByteArray), .slice none 0 0, .slice none 0 0, .int .i64 0]) ?_ 1 _ rfl; (with_reducible repeat (first | refine blk_drewN ?_ _ | refine blk_drew ?_ | refine blk_alloc ?_ _)); refine blk_put (cs := #[.int .i64 0, .string (⟨#[]⟩ : ByteArray), .slice none 0 0, .slice none 0 0, .int .i64 0]) ?_ 0 _ rfl; (with_reducible repeat (first | refine blk_drewN ?_ _ | refine blk_drew ?_ | refine blk_alloc ?_ _)); exact BK173.out⟩, ⟨by repeat (first | (with_reducible first | exact HB.out | apply below_alloc | apply pw_below_drewN | apply below_drew1 | refine below_set ?_ GE171.out | refine below_set ?_ GE173.out) | exact HB.out)⟩⟩
         ·rw [if_neg c21] at H
          have c21b0 : decide (((rd_T70 l0_1 x4_2).f0) ≤ x3_2) = false := decide_eq_false c21
          clear c21
          (first | rw [c21b0] | (simp only [i64_w, i32_w]; rw [c21b0]) | skip)
          by_cases c24 : ((rd_T70 l0_1 x4_2).f0) ≥ a0_2
          ·rw [if_pos c24] at H
           have c24b0 : decide (a0_2 ≤ ((rd_T70 l0_1 x4_2).f0)) = true := decide_eq_true c24
           clear c24
           have H' := Aside0.mk H
           clear H
           have hnb25 := NB173_171.out
           have hnc25 := NB171_173.out
           have hcz26_0 : w18.cell? ⟨gb173, 0, none⟩ = some (.int .i64 0) := (blk_cell BK173.out 0).trans rfl
           have hcz26_1 : w18.cell? ⟨gb173, 1, none⟩ = some (.string (⟨#[]⟩ : ByteArray)) := (blk_cell BK173.out 1).trans rfl
           have hcz26_2 : w18.cell? ⟨gb173, 2, none⟩ = some (.slice none 0 0) := (blk_cell BK173.out 2).trans rfl
           have hcz26_3 : w18.cell? ⟨gb173, 3, none⟩ = some (.slice none 0 0) := (blk_cell BK173.out 3).trans rfl
           have hcz26_4 : w18.cell? ⟨gb173, 4, none⟩ = some (.int .i64 0) := (blk_cell BK173.out 4).trans rfl
           have hfz26_0 := blk_frozen BK173.out 0
           have hfz26_1 := blk_frozen BK173.out 1
           have hfz26_2 := blk_frozen BK173.out 2
           have hfz26_3 := blk_frozen BK173.out 3
           have hfz26_4 := blk_frozen BK173.out 4
           have hcz27_0 : w18.cell? ⟨gb171, 0, none⟩ = some (.int .i64 a0_0) := (blk_cell BK171.out 0).trans rfl
           have hcz27_1 : w18.cell? ⟨gb171, 1, none⟩ = some (.slice (some ad172) l0_1.length c0_1) := (blk_cell BK171.out 1).trans rfl
           have hcz27_2 : w18.cell? ⟨gb171, 2, none⟩ = some (.int .i64 a0_2) := (blk_cell BK171.out 2).trans rfl
           have hfz27_0 := blk_frozen BK171.out 0
           have hfz27_1 := blk_frozen BK171.out 1
           have hfz27_2 := blk_frozen BK171.out 2
           go_wp2
           repeat (go_quiet (fail); try go_wp2)
           go_meet
           case rel => exact ⟨_, (true), (by first | rfl | (simp; done) | (simp [*]; done)), H', ⟨by have := HJ1.out; have := HK2.out; first | omega | exact Nat.le_refl _⟩, ⟨by (with_reducible repeat (first | refine blk_drewN ?_ _ | refine blk_drew ?_ | refine blk_alloc ?_ _)); refine blk_far ?_ NB171_173.out _; (with_reducible repeat (first | refine blk_drewN ?_ _ | refine blk_drew ?_ | refine blk_alloc ?_ _)); refine blk_far ?_ NB171_173.out _; (with_reducible repeat (first | refine blk_drewN ?_ _ | refine blk_drew ?_ | refine blk_alloc ?_ _)); refine blk_far ?_ NB171_173.out _; (with_reducible repeat (first | refine blk_drewN ?_ _ | refine blk_drew ?_ | refine blk_alloc ?_ _)); refine blk_far ?_ NB171_173.out _; (with_reducible repeat (first | refine blk_drewN ?_ _ | refine blk_drew ?_ | refine blk_alloc ?_ _)); refine blk_far ?_ NB171_173.out _; (with_reducible repeat (first | refine blk_drewN ?_ _ | refine blk_drew ?_ | refine blk_alloc ?_ _)); exact BK171.out⟩, ⟨by (with_reducible repeat (first | refine blk_drewN ?_ _ | refine blk_drew ?_ | refine blk_alloc ?_ _)); refine blk_put (cs := #[.int .i64 ((rd_T70 l0_1 x4_2).f0), .string ((rd_T70 l0_1 x4_2).f1), .slice A172_2 ((rd_T70 l0_1 x4_2).f2).length c172_2, .slice A172_3 ((rd_T70 l0_1 x4_2).f3).length c172_3, .int .i64 0]) ?_ 4 _ rfl; (with_reducible repeat (first | refine blk_drewN ?_ _ | refine blk_drew ?_ | refine blk_alloc ?_ _)); refine blk_put (cs := #[.int .i64 ((rd_T70 l0_1 x4_2).f0), .string ((rd_T70 l0_1 x4_2).f1), .slice A172_2 ((rd_T70 l0_1 x4_2).f2).length c172_2, .slice none 0 0, .int .i64 0]) ?_ 3 _ rfl; (with_reducible repeat (first | refine blk_drewN ?_ _ | refine blk_drew ?_ | refine blk_alloc ?_ _)); refine blk_put (cs := #[.int .i64 ((rd_T70 l0_1 x4_2).f0), .string ((rd_T70 l0_1 x4_2).f1), .slice none 0 0, .slice none 0 0, .int .i64 0]) ?_ 2 _ rfl; (with_reducible repeat (first | refine blk_drewN ?_ _ | refine blk_drew ?_ | refine blk_alloc ?_ _)); refine blk_put (cs := #[.int .i64 ((rd_T70 l0_1 x4_2).f0), .string (⟨#[]⟩ : ByteArray), .slice none 0 0, .slice none 0 0, .int .i64 0]) ?_ 1 _ rfl; (with_reducible repeat (first | refine blk_drewN ?_ _ | refine blk_drew ?_ | refine blk_alloc ?_ _)); refine blk_put (cs := #[.int .i64 0, .string (⟨#[]⟩ : ByteArray), .slice none 0 0, .slice none 0 0, .int .i64 0]) ?_ 0 _ rfl; (with_reducible repeat (first | refine blk_drewN ?_ _ | refine blk_drew ?_ | refine blk_alloc ?_ _)); exact BK173.out⟩, ⟨by repeat (first | (with_reducible first | exact HB.out | apply below_alloc | apply pw_below_drewN | apply below_drew1 | refine below_set ?_ GE171.out | refine below_set ?_ GE173.out) | exact HB.out)⟩⟩
          ·rw [if_neg c24] at H
           have c24b0 : decide (a0_2 ≤ ((rd_T70 l0_1 x4_2).f0)) = false := decide_eq_false c24
           clear c24
           replace H := Option.bind_eq_some_iff.mp H
           obtain ⟨t174, A280, H⟩ := H
           replace H : (falseworkref6_May.j2 k2 x4_2 (!t174) a0_0 l0_1 a0_2 ((rd_T70 l0_1 x4_2).f0) ((rd_T70 l0_1 x4_2).f1) ((rd_T70 l0_1 x4_2).f2) ((rd_T70 l0_1 x4_2).f3) ((rd_T70 l0_1 x4_2).f4)) = some r := H
           have A28 := Aside0.mk A280
           clear A280
           have H' := Aside0.mk H
           clear H
           have hnb29 := NB173_171.out
           have hnc29 := NB171_173.out
           have hcz30_0 : w18.cell? ⟨gb173, 0, none⟩ = some (.int .i64 0) := (blk_cell BK173.out 0).trans rfl
           have hcz30_1 : w18.cell? ⟨gb173, 1, none⟩ = some (.string (⟨#[]⟩ : ByteArray)) := (blk_cell BK173.out 1).trans rfl
           have hcz30_2 : w18.cell? ⟨gb173, 2, none⟩ = some (.slice none 0 0) := (blk_cell BK173.out 2).trans rfl
           have hcz30_3 : w18.cell? ⟨gb173, 3, none⟩ = some (.slice none 0 0) := (blk_cell BK173.out 3).trans rfl
           have hcz30_4 : w18.cell? ⟨gb173, 4, none⟩ = some (.int .i64 0) := (blk_cell BK173.out 4).trans rfl
           have hfz30_0 := blk_frozen BK173.out 0
           have hfz30_1 := blk_frozen BK173.out 1
           have hfz30_2 := blk_frozen BK173.out 2
           have hfz30_3 := blk_frozen BK173.out 3
           have hfz30_4 := blk_frozen BK173.out 4
           have hcz31_0 : w18.cell? ⟨gb171, 0, none⟩ = some (.int .i64 a0_0) := (blk_cell BK171.out 0).trans rfl
           have hcz31_1 : w18.cell? ⟨gb171, 1, none⟩ = some (.slice (some ad172) l0_1.length c0_1) := (blk_cell BK171.out 1).trans rfl
           have hcz31_2 : w18.cell? ⟨gb171, 2, none⟩ = some (.int .i64 a0_2) := (blk_cell BK171.out 2).trans rfl
           have hfz31_0 := blk_frozen BK171.out 0
           have hfz31_1 := blk_frozen BK171.out 1
           have hfz31_2 := blk_frozen BK171.out 2
           go_wp2_with (first | (go_at_call 75; (with_reducible refine (falseworkref6_table.calls k2 ((rd_T70 l0_1 x4_2).f0) ((rd_T70 l0_1 x4_2).f1) _ _ ((rd_T70 l0_1 x4_2).f2) _ _ ((rd_T70 l0_1 x4_2).f3) ((rd_T70 l0_1 x4_2).f4) t174 _ ?side1 ?side2 ?side3 ?side4 A28.out).mono ?_); (case side1 => exact Kd.C_below HR172_2.out (by repeat (first | (with_reducible first | exact HB.out | apply below_alloc | apply pw_below_drewN | apply below_drew1 | refine below_set ?_ GE171.out | refine below_set ?_ GE173.out) | exact HB.out))); (case side2 => exact HC172_2.out); (case side3 => exact Kd.C_below HR172_3.out (by repeat (first | (with_reducible first | exact HB.out | apply below_alloc | apply pw_below_drewN | apply below_drew1 | refine below_set ?_ GE171.out | refine below_set ?_ GE173.out) | exact HB.out))); (case side4 => exact HC172_3.out); rintro e w32 ⟨rfl, hb⟩; have n0_ := Aside0.mk (blk_below (g := gb171) (o := .cells #[.int .i64 a0_0, .slice (some ad172) l0_1.length c0_1, .int .i64 a0_2] 28 (0, 0)) (by (with_reducible repeat (first | refine blk_drewN ?_ _ | refine blk_drew ?_ | refine blk_alloc ?_ _)); refine blk_far ?_ NB171_173.out _; (with_reducible repeat (first | refine blk_drewN ?_ _ | refine blk_drew ?_ | refine blk_alloc ?_ _)); refine blk_far ?_ NB171_173.out _; (with_reducible repeat (first | refine blk_drewN ?_ _ | refine blk_drew ?_ | refine blk_alloc ?_ _)); refine blk_far ?_ NB171_173.out _; (with_reducible repeat (first | refine blk_drewN ?_ _ | refine blk_drew ?_ | refine blk_alloc ?_ _)); refine blk_far ?_ NB171_173.out _; (with_reducible repeat (first | refine blk_drewN ?_ _ | refine blk_drew ?_ | refine blk_alloc ?_ _)); refine blk_far ?_ NB171_173.out _; (with_reducible repeat (first | refine blk_drewN ?_ _ | refine blk_drew ?_ | refine blk_alloc ?_ _)); exact BK171.out) hb); have n1_ := Aside0.mk (blk_below (g := gb173) (o := .cells #[.int .i64 ((rd_T70 l0_1 x4_2).f0), .string ((rd_T70 l0_1 x4_2).f1), .slice A172_2 ((rd_T70 l0_1 x4_2).f2).length c172_2, .slice A172_3 ((rd_T70 l0_1 x4_2).f3).length c172_3, .int .i64 ((rd_T70 l0_1 x4_2).f4)] 70 (0, 0)) (by (with_reducible repeat (first | refine blk_drewN ?_ _ | refine blk_drew ?_ | refine blk_alloc ?_ _)); refine blk_put (cs := #[.int .i64 ((rd_T70 l0_1 x4_2).f0), .string ((rd_T70 l0_1 x4_2).f1), .slice A172_2 ((rd_T70 l0_1 x4_2).f2).length c172_2, .slice A172_3 ((rd_T70 l0_1 x4_2).f3).length c172_3, .int .i64 0]) ?_ 4 _ rfl; (with_reducible repeat (first | refine blk_drewN ?_ _ | refine blk_drew ?_ | refine blk_alloc ?_ _)); refine blk_put (cs := #[.int .i64 ((rd_T70 l0_1 x4_2).f0), .string ((rd_T70 l0_1 x4_2).f1), .slice A172_2 ((rd_T70 l0_1 x4_2).f2).length c172_2, .slice none 0 0, .int .i64 0]) ?_ 3 _ rfl; (with_reducible repeat (first | refine blk_drewN ?_ _ | refine blk_drew ?_ | refine blk_alloc ?_ _)); refine blk_put (cs := #[.int .i64 ((rd_T70 l0_1 x4_2).f0), .string ((rd_T70 l0_1 x4_2).f1), .slice none 0 0, .slice none 0 0, .int .i64 0]) ?_ 2 _ rfl; (with_reducible repeat (first | refine blk_drewN ?_ _ | refine blk_drew ?_ | refine blk_alloc ?_ _)); refine blk_put (cs := #[.int .i64 ((rd_T70 l0_1 x4_2).f0), .string (⟨#[]⟩ : ByteArray), .slice none 0 0, .slice none 0 0, .int .i64 0]) ?_ 1 _ rfl; (with_reducible repeat (first | refine blk_drewN ?_ _ | refine blk_drew ?_ | refine blk_alloc ?_ _)); refine blk_put (cs := #[.int .i64 0, .string (⟨#[]⟩ : ByteArray), .slice none 0 0, .slice none 0 0, .int .i64 0]) ?_ 0 _ rfl; (with_reducible repeat (first | refine blk_drewN ?_ _ | refine blk_drew ?_ | refine blk_alloc ?_ _)); exact BK173.out) hb); have n2_ := Aside0.mk (below_step (by repeat (first | (with_reducible first | exact HB.out | apply below_alloc | apply pw_below_drewN | apply below_drew1 | refine below_set ?_ GE171.out | refine below_set ?_ GE173.out) | exact HB.out)) hb); clear BK171; clear BK173; clear HB; have BK171 := n0_; have BK173 := n1_; have HB := n2_; clear n0_ n1_ n2_; (try clear hb); (try clear hb2); (try clear hk); (try clear hi)))
           repeat (go_quiet (first | (go_at_call 75; (with_reducible refine (falseworkref6_table.calls k2 ((rd_T70 l0_1 x4_2).f0) ((rd_T70 l0_1 x4_2).f1) _ _ ((rd_T70 l0_1 x4_2).f2) _ _ ((rd_T70 l0_1 x4_2).f3) ((rd_T70 l0_1 x4_2).f4) t174 _ ?side1 ?side2 ?side3 ?side4 A28.out).mono ?_); (case side1 => exact Kd.C_below HR172_2.out (by repeat (first | (with_reducible first | exact HB.out | apply below_alloc | apply pw_below_drewN | apply below_drew1 | refine below_set ?_ GE171.out | refine below_set ?_ GE173.out) | exact HB.out))); (case side2 => exact HC172_2.out); (case side3 => exact Kd.C_below HR172_3.out (by repeat (first | (with_reducible first | exact HB.out | apply below_alloc | apply pw_below_drewN | apply below_drew1 | refine below_set ?_ GE171.out | refine below_set ?_ GE173.out) | exact HB.out))); (case side4 => exact HC172_3.out); rintro e w32 ⟨rfl, hb⟩; have n0_ := Aside0.mk (blk_below (g := gb171) (o := .cells #[.int .i64 a0_0, .slice (some ad172) l0_1.length c0_1, .int .i64 a0_2] 28 (0, 0)) (by (with_reducible repeat (first | refine blk_drewN ?_ _ | refine blk_drew ?_ | refine blk_alloc ?_ _)); refine blk_far ?_ NB171_173.out _; (with_reducible repeat (first | refine blk_drewN ?_ _ | refine blk_drew ?_ | refine blk_alloc ?_ _)); refine blk_far ?_ NB171_173.out _; (with_reducible repeat (first | refine blk_drewN ?_ _ | refine blk_drew ?_ | refine blk_alloc ?_ _)); refine blk_far ?_ NB171_173.out _; (with_reducible repeat (first | refine blk_drewN ?_ _ | refine blk_drew ?_ | refine blk_alloc ?_ _)); refine blk_far ?_ NB171_173.out _; (with_reducible repeat (first | refine blk_drewN ?_ _ | refine blk_drew ?_ | refine blk_alloc ?_ _)); refine blk_far ?_ NB171_173.out _; (with_reducible repeat (first | refine blk_drewN ?_ _ | refine blk_drew ?_ | refine blk_alloc ?_ _)); exact BK171.out) hb); have n1_ := Aside0.mk (blk_below (g := gb173) (o := .cells #[.int .i64 ((rd_T70 l0_1 x4_2).f0), .string ((rd_T70 l0_1 x4_2).f1), .slice A172_2 ((rd_T70 l0_1 x4_2).f2).length c172_2, .slice A172_3 ((rd_T70 l0_1 x4_2).f3).length c172_3, .int .i64 ((rd_T70 l0_1 x4_2).f4)] 70 (0, 0)) (by (with_reducible repeat (first | refine blk_drewN ?_ _ | refine blk_drew ?_ | refine blk_alloc ?_ _)); refine blk_put (cs := #[.int .i64 ((rd_T70 l0_1 x4_2).f0), .string ((rd_T70 l0_1 x4_2).f1), .slice A172_2 ((rd_T70 l0_1 x4_2).f2).length c172_2, .slice A172_3 ((rd_T70 l0_1 x4_2).f3).length c172_3, .int .i64 0]) ?_ 4 _ rfl; (with_reducible repeat (first | refine blk_drewN ?_ _ | refine blk_drew ?_ | refine blk_alloc ?_ _)); refine blk_put (cs := #[.int .i64 ((rd_T70 l0_1 x4_2).f0), .string ((rd_T70 l0_1 x4_2).f1), .slice A172_2 ((rd_T70 l0_1 x4_2).f2).length c172_2, .slice none 0 0, .int .i64 0]) ?_ 3 _ rfl; (with_reducible repeat (first | refine blk_drewN ?_ _ | refine blk_drew ?_ | refine blk_alloc ?_ _)); refine blk_put (cs := #[.int .i64 ((rd_T70 l0_1 x4_2).f0), .string ((rd_T70 l0_1 x4_2).f1), .slice none 0 0, .slice none 0 0, .int .i64 0]) ?_ 2 _ rfl; (with_reducible repeat (first | refine blk_drewN ?_ _ | refine blk_drew ?_ | refine blk_alloc ?_ _)); refine blk_put (cs := #[.int .i64 ((rd_T70 l0_1 x4_2).f0), .string (⟨#[]⟩ : ByteArray), .slice none 0 0, .slice none 0 0, .int .i64 0]) ?_ 1 _ rfl; (with_reducible repeat (first | refine blk_drewN ?_ _ | refine blk_drew ?_ | refine blk_alloc ?_ _)); refine blk_put (cs := #[.int .i64 0, .string (⟨#[]⟩ : ByteArray), .slice none 0 0, .slice none 0 0, .int .i64 0]) ?_ 0 _ rfl; (with_reducible repeat (first | refine blk_drewN ?_ _ | refine blk_drew ?_ | refine blk_alloc ?_ _)); exact BK173.out) hb); have n2_ := Aside0.mk (below_step (by repeat (first | (with_reducible first | exact HB.out | apply below_alloc | apply pw_below_drewN | apply below_drew1 | refine below_set ?_ GE171.out | refine below_set ?_ GE173.out) | exact HB.out)) hb); clear BK171; clear BK173; clear HB; have BK171 := n0_; have BK173 := n1_; have HB := n2_; clear n0_ n1_ n2_; (try clear hb); (try clear hb2); (try clear hk); (try clear hi))); try go_wp2_with (first | (go_at_call 75; (with_reducible refine (falseworkref6_table.calls k2 ((rd_T70 l0_1 x4_2).f0) ((rd_T70 l0_1 x4_2).f1) _ _ ((rd_T70 l0_1 x4_2).f2) _ _ ((rd_T70 l0_1 x4_2).f3) ((rd_T70 l0_1 x4_2).f4) t174 _ ?side1 ?side2 ?side3 ?side4 A28.out).mono ?_); (case side1 => exact Kd.C_below HR172_2.out (by repeat (first | (with_reducible first | exact HB.out | apply below_alloc | apply pw_below_drewN | apply below_drew1 | refine below_set ?_ GE171.out | refine below_set ?_ GE173.out) | exact HB.out))); (case side2 => exact HC172_2.out); (case side3 => exact Kd.C_below HR172_3.out (by repeat (first | (with_reducible first | exact HB.out | apply below_alloc | apply pw_below_drewN | apply below_drew1 | refine below_set ?_ GE171.out | refine below_set ?_ GE173.out) | exact HB.out))); (case side4 => exact HC172_3.out); rintro e w32 ⟨rfl, hb⟩; have n0_ := Aside0.mk (blk_below (g := gb171) (o := .cells #[.int .i64 a0_0, .slice (some ad172) l0_1.length c0_1, .int .i64 a0_2] 28 (0, 0)) (by (with_reducible repeat (first | refine blk_drewN ?_ _ | refine blk_drew ?_ | refine blk_alloc ?_ _)); refine blk_far ?_ NB171_173.out _; (with_reducible repeat (first | refine blk_drewN ?_ _ | refine blk_drew ?_ | refine blk_alloc ?_ _)); refine blk_far ?_ NB171_173.out _; (with_reducible repeat (first | refine blk_drewN ?_ _ | refine blk_drew ?_ | refine blk_alloc ?_ _)); refine blk_far ?_ NB171_173.out _; (with_reducible repeat (first | refine blk_drewN ?_ _ | refine blk_drew ?_ | refine blk_alloc ?_ _)); refine blk_far ?_ NB171_173.out _; (with_reducible repeat (first | refine blk_drewN ?_ _ | refine blk_drew ?_ | refine blk_alloc ?_ _)); refine blk_far ?_ NB171_173.out _; (with_reducible repeat (first | refine blk_drewN ?_ _ | refine blk_drew ?_ | refine blk_alloc ?_ _)); exact BK171.out) hb); have n1_ := Aside0.mk (blk_below (g := gb173) (o := .cells #[.int .i64 ((rd_T70 l0_1 x4_2).f0), .string ((rd_T70 l0_1 x4_2).f1), .slice A172_2 ((rd_T70 l0_1 x4_2).f2).length c172_2, .slice A172_3 ((rd_T70 l0_1 x4_2).f3).length c172_3, .int .i64 ((rd_T70 l0_1 x4_2).f4)] 70 (0, 0)) (by (with_reducible repeat (first | refine blk_drewN ?_ _ | refine blk_drew ?_ | refine blk_alloc ?_ _)); refine blk_put (cs := #[.int .i64 ((rd_T70 l0_1 x4_2).f0), .string ((rd_T70 l0_1 x4_2).f1), .slice A172_2 ((rd_T70 l0_1 x4_2).f2).length c172_2, .slice A172_3 ((rd_T70 l0_1 x4_2).f3).length c172_3, .int .i64 0]) ?_ 4 _ rfl; (with_reducible repeat (first | refine blk_drewN ?_ _ | refine blk_drew ?_ | refine blk_alloc ?_ _)); refine blk_put (cs := #[.int .i64 ((rd_T70 l0_1 x4_2).f0), .string ((rd_T70 l0_1 x4_2).f1), .slice A172_2 ((rd_T70 l0_1 x4_2).f2).length c172_2, .slice none 0 0, .int .i64 0]) ?_ 3 _ rfl; (with_reducible repeat (first | refine blk_drewN ?_ _ | refine blk_drew ?_ | refine blk_alloc ?_ _)); refine blk_put (cs := #[.int .i64 ((rd_T70 l0_1 x4_2).f0), .string ((rd_T70 l0_1 x4_2).f1), .slice none 0 0, .slice none 0 0, .int .i64 0]) ?_ 2 _ rfl; (with_reducible repeat (first | refine blk_drewN ?_ _ | refine blk_drew ?_ | refine blk_alloc ?_ _)); refine blk_put (cs := #[.int .i64 ((rd_T70 l0_1 x4_2).f0), .string (⟨#[]⟩ : ByteArray), .slice none 0 0, .slice none 0 0, .int .i64 0]) ?_ 1 _ rfl; (with_reducible repeat (first | refine blk_drewN ?_ _ | refine blk_drew ?_ | refine blk_alloc ?_ _)); refine blk_put (cs := #[.int .i64 0, .string (⟨#[]⟩ : ByteArray), .slice none 0 0, .slice none 0 0, .int .i64 0]) ?_ 0 _ rfl; (with_reducible repeat (first | refine blk_drewN ?_ _ | refine blk_drew ?_ | refine blk_alloc ?_ _)); exact BK173.out) hb); have n2_ := Aside0.mk (below_step (by repeat (first | (with_reducible first | exact HB.out | apply below_alloc | apply pw_below_drewN | apply below_drew1 | refine below_set ?_ GE171.out | refine below_set ?_ GE173.out) | exact HB.out)) hb); clear BK171; clear BK173; clear HB; have BK171 := n0_; have BK173 := n1_; have HB := n2_; clear n0_ n1_ n2_; (try clear hb); (try clear hb2); (try clear hk); (try clear hi))))
           go_meet
           case rel => exact ⟨_, (!t174), (by first | rfl | (simp; done) | (simp [*]; done)), H', ⟨by have := HJ1.out; have := HK2.out; first | omega | exact Nat.le_refl _⟩, ⟨by (with_reducible repeat (first | refine blk_drewN ?_ _ | refine blk_drew ?_ | refine blk_alloc ?_ _)); exact BK171.out⟩, ⟨by (with_reducible repeat (first | refine blk_drewN ?_ _ | refine blk_drew ?_ | refine blk_alloc ?_ _)); exact BK173.out⟩, ⟨by repeat (first | (with_reducible first | exact HB.out | apply below_alloc | apply pw_below_drewN | apply below_drew1 | refine below_set ?_ GE171.out | refine below_set ?_ GE173.out) | exact HB.out)⟩⟩
        case rest =>
         clear HC16
         try clear c1
         try clear p1
         try clear q1
         try clear hx1
         try clear c2
         try clear p2
         try clear c3
         try clear c4
         try clear c4b0
         try clear c6
         try clear c6b0
         try clear c8
         try clear c8b0
         try clear c10
         try clear c10b0
         try clear c13
         try clear c14
         try clear c14b0
         try clear c15
         try clear c15b0
         try clear c17
         try clear p17
         try clear q17
         try clear hx17
         try clear c19
         try clear c21
         try clear c21b0
         try clear c22
         try clear c24
         try clear c24b0
         try clear c25
         try clear c29
         try clear hcz11_0
         try clear hcz11_1
         try clear hcz11_2
         try clear hcz12_0
         try clear hcz12_1
         try clear hcz12_2
         try clear hcz17_0
         try clear hcz17_1
         try clear hcz17_2
         try clear hcz20_0
         try clear hcz20_1
         try clear hcz20_2
         try clear hcz20_3
         try clear hcz20_4
         try clear hcz23_0
         try clear hcz23_1
         try clear hcz23_2
         try clear hcz23_3
         try clear hcz23_4
         try clear hcz26_0
         try clear hcz26_1
         try clear hcz26_2
         try clear hcz26_3
         try clear hcz26_4
         try clear hcz27_0
         try clear hcz27_1
         try clear hcz27_2
         try clear hcz30_0
         try clear hcz30_1
         try clear hcz30_2
         try clear hcz30_3
         try clear hcz30_4
         try clear hcz31_0
         try clear hcz31_1
         try clear hcz31_2
         try clear hcz5_0
         try clear hcz5_1
         try clear hcz5_2
         try clear hcz7_0
         try clear hcz7_1
         try clear hcz7_2
         try clear hcz9_0
         try clear hcz9_1
         try clear hcz9_2
         try clear hfz11_0
         try clear hfz11_1
         try clear hfz11_2
         try clear hfz12_0
         try clear hfz12_1
         try clear hfz12_2
         try clear hfz17_0
         try clear hfz17_1
         try clear hfz17_2
         try clear hfz20_0
         try clear hfz20_1
         try clear hfz20_2
         try clear hfz20_3
         try clear hfz20_4
         try clear hfz23_0
         try clear hfz23_1
         try clear hfz23_2
         try clear hfz23_3
         try clear hfz23_4
         try clear hfz26_0
         try clear hfz26_1
         try clear hfz26_2
         try clear hfz26_3
         try clear hfz26_4
         try clear hfz27_0
         try clear hfz27_1
         try clear hfz27_2
         try clear hfz30_0
         try clear hfz30_1
         try clear hfz30_2
         try clear hfz30_3
         try clear hfz30_4
         try clear hfz31_0
         try clear hfz31_1
         try clear hfz31_2
         try clear hfz5_0
         try clear hfz5_1
         try clear hfz5_2
         try clear hfz7_0
         try clear hfz7_1
         try clear hfz7_2
         try clear hfz9_0
         try clear hfz9_1
         try clear hfz9_2
         try clear hx172_0
         try clear hx172_1
         try clear hx172_2
         try clear hx172_3
         try clear hx172_4
         try clear p172
         try clear p2
         try clear q172
         obtain ⟨kq, x58_15, rfl, HA, HJ15, BK171, BK173, HB⟩ := hcut
         cases kq with
         | zero => exact absurd HA.out (by simp [falseworkref6_May.j2])
         | succ kj15 =>
          have H := HA.out
          clear HA
          simp only [falseworkref6_May.j2] at H
          by_cases c33 : x58_15 = true
          ·subst c33
           have H1 : (some false) = some r := by rw [if_pos rfl] at H; exact H
           clear H
           have H := H1
           clear H1
           obtain rfl := Option.some.inj H
           go_wp2
           repeat (go_quiet (fail); try go_wp2)
           go_ret
           exact ⟨by first | rfl | (simp [errW_none, errW_some] <;> rfl) | (simp [*, errW_none, errW_some] <;> rfl), by repeat (first | (with_reducible first | exact HB.out | apply below_alloc | apply pw_below_drewN | apply below_drew1 | refine below_set ?_ GE171.out | refine below_set ?_ GE173.out) | exact HB.out)⟩
          ·replace c33 := Bool.eq_false_iff.mpr c33
           subst c33
           have H1 : (falseworkref6_May.l1 kj15 ((rd_T70 l0_1 x4_2).f0) x4_2 0 a0_0 l0_1 a0_2 ((rd_T70 l0_1 x4_2).f0) ((rd_T70 l0_1 x4_2).f1) ((rd_T70 l0_1 x4_2).f2) ((rd_T70 l0_1 x4_2).f3) ((rd_T70 l0_1 x4_2).f4)) = some r := by rw [if_neg (show ¬ (false = true) by decide)] at H; exact H
           clear H
           have H := H1
           clear H1
           have H' := Aside0.mk H
           clear H
           have hnb34 := NB173_171.out
           have hnc34 := NB171_173.out
           have hcz35_0 : wc.cell? ⟨gb173, 0, none⟩ = some (.int .i64 ((rd_T70 l0_1 x4_2).f0)) := (blk_cell BK173.out 0).trans rfl
           have hcz35_1 : wc.cell? ⟨gb173, 1, none⟩ = some (.string ((rd_T70 l0_1 x4_2).f1)) := (blk_cell BK173.out 1).trans rfl
           have hcz35_2 : wc.cell? ⟨gb173, 2, none⟩ = some (.slice A172_2 ((rd_T70 l0_1 x4_2).f2).length c172_2) := (blk_cell BK173.out 2).trans rfl
           have hcz35_3 : wc.cell? ⟨gb173, 3, none⟩ = some (.slice A172_3 ((rd_T70 l0_1 x4_2).f3).length c172_3) := (blk_cell BK173.out 3).trans rfl
           have hcz35_4 : wc.cell? ⟨gb173, 4, none⟩ = some (.int .i64 ((rd_T70 l0_1 x4_2).f4)) := (blk_cell BK173.out 4).trans rfl
           have hfz35_0 := blk_frozen BK173.out 0
           have hfz35_1 := blk_frozen BK173.out 1
           have hfz35_2 := blk_frozen BK173.out 2
           have hfz35_3 := blk_frozen BK173.out 3
           have hfz35_4 := blk_frozen BK173.out 4
           go_wp2
           repeat (go_quiet (fail); try go_wp2)
           go_loopg [6] kj15 (fun kq v6 w' => ∃ (x6_4 : Int), v6 = .int .i64 x6_4 ∧ Aside0 (falseworkref6_May.l1 kq ((rd_T70 l0_1 x4_2).f0) x4_2 x6_4 a0_0 l0_1 a0_2 ((rd_T70 l0_1 x4_2).f0) ((rd_T70 l0_1 x4_2).f1) ((rd_T70 l0_1 x4_2).f2) ((rd_T70 l0_1 x4_2).f3) ((rd_T70 l0_1 x4_2).f4) = some r) ∧ Aside0 (kq ≤ kj15) ∧ Aside0 (w'.heap[gb171]? = some (.cells #[.int .i64 a0_0, (.slice (some ad172) l0_1.length c0_1), .int .i64 a0_2] 28 (0, 0))) ∧ Aside0 (w'.heap[gb173]? = some (.cells #[.int .i64 ((rd_T70 l0_1 x4_2).f0), .string ((rd_T70 l0_1 x4_2).f1), (.slice A172_2 ((rd_T70 l0_1 x4_2).f2).length c172_2), (.slice A172_3 ((rd_T70 l0_1 x4_2).f3).length c172_3), .int .i64 ((rd_T70 l0_1 x4_2).f4)] 70 (0, 0))) ∧ Aside0 (Below w.heap.size w w'))
           case atStart => exact ⟨(0), (by first | rfl | (simp; done) | (simp [*]; done)), H', ⟨Nat.le_refl _⟩, ⟨by (with_reducible repeat (first | refine blk_drewN ?_ _ | refine blk_drew ?_ | refine blk_alloc ?_ _)); exact BK171.out⟩, ⟨by (with_reducible repeat (first | refine blk_drewN ?_ _ | refine blk_drew ?_ | refine blk_alloc ?_ _)); exact BK173.out⟩, ⟨by repeat (first | (with_reducible first | exact HB.out | apply below_alloc | apply pw_below_drewN | apply below_drew1 | refine below_set ?_ GE171.out | refine below_set ?_ GE173.out) | exact HB.out)⟩⟩
           case round =>
            clear H'
            try clear c1
            try clear p1
            try clear q1
            try clear hx1
            try clear c2
            try clear p2
            try clear c3
            try clear c4
            try clear c4b0
            try clear c6
            try clear c6b0
            try clear c8
            try clear c8b0
            try clear c10
            try clear c10b0
            try clear c13
            try clear c14
            try clear c14b0
            try clear c15
            try clear c15b0
            try clear c17
            try clear p17
            try clear q17
            try clear hx17
            try clear c19
            try clear c21
            try clear c21b0
            try clear c22
            try clear c24
            try clear c24b0
            try clear c25
            try clear c29
            try clear c33
            try clear c34
            try clear hcz11_0
            try clear hcz11_1
            try clear hcz11_2
            try clear hcz12_0
            try clear hcz12_1
            try clear hcz12_2
            try clear hcz17_0
            try clear hcz17_1
            try clear hcz17_2
            try clear hcz20_0
            try clear hcz20_1
            try clear hcz20_2
            try clear hcz20_3
            try clear hcz20_4
            try clear hcz23_0
            try clear hcz23_1
            try clear hcz23_2
            try clear hcz23_3
            try clear hcz23_4
            try clear hcz26_0
            try clear hcz26_1
            try clear hcz26_2
            try clear hcz26_3
            try clear hcz26_4
            try clear hcz27_0
            try clear hcz27_1
            try clear hcz27_2
            try clear hcz30_0
            try clear hcz30_1
            try clear hcz30_2
            try clear hcz30_3
            try clear hcz30_4
            try clear hcz31_0
            try clear hcz31_1
            try clear hcz31_2
            try clear hcz35_0
            try clear hcz35_1
            try clear hcz35_2
            try clear hcz35_3
            try clear hcz35_4
            try clear hcz5_0
            try clear hcz5_1
            try clear hcz5_2
            try clear hcz7_0
            try clear hcz7_1
            try clear hcz7_2
            try clear hcz9_0
            try clear hcz9_1
            try clear hcz9_2
            try clear hfz11_0
            try clear hfz11_1
            try clear hfz11_2
            try clear hfz12_0
            try clear hfz12_1
            try clear hfz12_2
            try clear hfz17_0
            try clear hfz17_1
            try clear hfz17_2
            try clear hfz20_0
            try clear hfz20_1
            try clear hfz20_2
            try clear hfz20_3
            try clear hfz20_4
            try clear hfz23_0
            try clear hfz23_1
            try clear hfz23_2
            try clear hfz23_3
            try clear hfz23_4
            try clear hfz26_0
            try clear hfz26_1
            try clear hfz26_2
            try clear hfz26_3
            try clear hfz26_4
            try clear hfz27_0
            try clear hfz27_1
            try clear hfz27_2
            try clear hfz30_0
            try clear hfz30_1
            try clear hfz30_2
            try clear hfz30_3
            try clear hfz30_4
            try clear hfz31_0
            try clear hfz31_1
            try clear hfz31_2
            try clear hfz35_0
            try clear hfz35_1
            try clear hfz35_2
            try clear hfz35_3
            try clear hfz35_4
            try clear hfz5_0
            try clear hfz5_1
            try clear hfz5_2
            try clear hfz7_0
            try clear hfz7_1
            try clear hfz7_2
            try clear hfz9_0
            try clear hfz9_1
            try clear hfz9_2
            try clear hx172_0
            try clear hx172_1
            try clear hx172_2
            try clear hx172_3
            try clear hx172_4
            try clear p1
            try clear p17
            try clear p172
            try clear p2
            try clear q1
            try clear q17
            try clear q172
            obtain ⟨x6_4, rfl, HA, HK4, BK171, BK173, HB⟩ := hrel
            cases gk with
            | zero => exact absurd HA.out (by simp [falseworkref6_May.l1])
            | succ k4 =>
             have H := HA.out
             clear HA
             simp only [falseworkref6_May.l1] at H
             by_cases c36 : x6_4 < x4_2
             ·rw [if_pos c36] at H
              have c36b0 : decide (x6_4 < x4_2) = true := decide_eq_true c36
              clear c36
              by_cases c37 : 0 ≤ x6_4
              ·rw [if_pos c37] at H
               have c37b0 : decide (0 ≤ x6_4) = true := decide_eq_true c37
               clear c37
               by_cases c38 : x6_4 < (l0_1.length : Int)
               ·rw [if_pos c38] at H
                have c38b0 : decide (x6_4 < (l0_1.length : Int)) = true := decide_eq_true c38
                clear c38
                by_cases c39 : ((rd_T70 l0_1 x6_4).f1).toList = ((rd_T70 l0_1 x4_2).f1).toList
                ·rw [if_pos c39] at H
                 have c39b0 : (((rd_T70 l0_1 x6_4).f1).toList == ((rd_T70 l0_1 x4_2).f1).toList) = true := beq_iff_eq.mpr c39
                 have c39b1 : (((rd_T70 l0_1 x6_4).f1).toList != ((rd_T70 l0_1 x4_2).f1).toList) = false := bne_eq_false_iff_eq.mpr c39
                 clear c39
                 obtain rfl := Option.some.inj H
                 have hnb40 := NB171_173.out
                 have hnc40 := NB173_171.out
                 have hcz41_0 : wr.cell? ⟨gb171, 0, none⟩ = some (.int .i64 a0_0) := (blk_cell BK171.out 0).trans rfl
                 have hcz41_1 : wr.cell? ⟨gb171, 1, none⟩ = some (.slice (some ad172) l0_1.length c0_1) := (blk_cell BK171.out 1).trans rfl
                 have hcz41_2 : wr.cell? ⟨gb171, 2, none⟩ = some (.int .i64 a0_2) := (blk_cell BK171.out 2).trans rfl
                 have hfz41_0 := blk_frozen BK171.out 0
                 have hfz41_1 := blk_frozen BK171.out 1
                 have hfz41_2 := blk_frozen BK171.out 2
                 have p175 : 0 ≤ (x6_4 : Int) := of_decide_eq_true (by first | (with_reducible assumption) | assumption)
                 have q175 : x6_4 < (l0_1.length : Int) := of_decide_eq_true (by first | (with_reducible assumption) | assumption)
                 obtain ⟨ad175, A175_2, c175_2, A175_3, c175_3, e175, hx175_0, hx175_1, hx175_2, hx175_3, hx175_4, hl175_2, hi175_2, hl175_3, hi175_3⟩ := at_T70 HR0_1.out x6_4 p175 q175
                 obtain rfl : ad172 = ad175 := (by injection e175)
                 replace hx175_0 := (HB.out.cell (World.block_lt_of_cell? w _ hx175_0)).trans hx175_0
                 replace hx175_1 := (HB.out.cell (World.block_lt_of_cell? w _ hx175_1)).trans hx175_1
                 replace hx175_2 := (HB.out.cell (World.block_lt_of_cell? w _ hx175_2)).trans hx175_2
                 replace hx175_3 := (HB.out.cell (World.block_lt_of_cell? w _ hx175_3)).trans hx175_3
                 replace hx175_4 := (HB.out.cell (World.block_lt_of_cell? w _ hx175_4)).trans hx175_4
                 have HR175_2 := Aside0.mk hi175_2
                 have HC175_2 := Aside0.mk hl175_2
                 clear hi175_2 hl175_2
                 have HR175_3 := Aside0.mk hi175_3
                 have HC175_3 := Aside0.mk hl175_3
                 clear hi175_3 hl175_3
                 replace p175 := eq_true p175
                 replace q175 := eq_true q175
                 have hcz42_0 : wr.cell? ⟨gb173, 0, none⟩ = some (.int .i64 ((rd_T70 l0_1 x4_2).f0)) := (blk_cell BK173.out 0).trans rfl
                 have hcz42_1 : wr.cell? ⟨gb173, 1, none⟩ = some (.string ((rd_T70 l0_1 x4_2).f1)) := (blk_cell BK173.out 1).trans rfl
                 have hcz42_2 : wr.cell? ⟨gb173, 2, none⟩ = some (.slice A172_2 ((rd_T70 l0_1 x4_2).f2).length c172_2) := (blk_cell BK173.out 2).trans rfl
                 have hcz42_3 : wr.cell? ⟨gb173, 3, none⟩ = some (.slice A172_3 ((rd_T70 l0_1 x4_2).f3).length c172_3) := (blk_cell BK173.out 3).trans rfl
                 have hcz42_4 : wr.cell? ⟨gb173, 4, none⟩ = some (.int .i64 ((rd_T70 l0_1 x4_2).f4)) := (blk_cell BK173.out 4).trans rfl
                 have hfz42_0 := blk_frozen BK173.out 0
                 have hfz42_1 := blk_frozen BK173.out 1
                 have hfz42_2 := blk_frozen BK173.out 2
                 have hfz42_3 := blk_frozen BK173.out 3
                 have hfz42_4 := blk_frozen BK173.out 4
                 go_wp2
                 repeat (go_quiet (fail); try go_wp2)
                 go_ret
                 exact ⟨by first | rfl | (simp [errW_none, errW_some] <;> rfl) | (simp [*, errW_none, errW_some] <;> rfl), by repeat (first | (with_reducible first | exact HB.out | apply below_alloc | apply pw_below_drewN | apply below_drew1 | refine below_set ?_ GE171.out | refine below_set ?_ GE173.out) | exact HB.out)⟩
                ·rw [if_neg c39] at H
                 have c39b0 : (((rd_T70 l0_1 x6_4).f1).toList == ((rd_T70 l0_1 x4_2).f1).toList) = false := beq_eq_false_iff_ne.mpr c39
                 have c39b1 : (((rd_T70 l0_1 x6_4).f1).toList != ((rd_T70 l0_1 x4_2).f1).toList) = true := bne_iff_ne.mpr c39
                 have H' := Aside0.mk H
                 clear H
                 have hnb43 := NB171_173.out
                 have hnc43 := NB173_171.out
                 have hcz44_0 : wr.cell? ⟨gb171, 0, none⟩ = some (.int .i64 a0_0) := (blk_cell BK171.out 0).trans rfl
                 have hcz44_1 : wr.cell? ⟨gb171, 1, none⟩ = some (.slice (some ad172) l0_1.length c0_1) := (blk_cell BK171.out 1).trans rfl
                 have hcz44_2 : wr.cell? ⟨gb171, 2, none⟩ = some (.int .i64 a0_2) := (blk_cell BK171.out 2).trans rfl
                 have hfz44_0 := blk_frozen BK171.out 0
                 have hfz44_1 := blk_frozen BK171.out 1
                 have hfz44_2 := blk_frozen BK171.out 2
                 have p175 : 0 ≤ (x6_4 : Int) := of_decide_eq_true (by first | (with_reducible assumption) | assumption)
                 have q175 : x6_4 < (l0_1.length : Int) := of_decide_eq_true (by first | (with_reducible assumption) | assumption)
                 obtain ⟨ad175, A175_2, c175_2, A175_3, c175_3, e175, hx175_0, hx175_1, hx175_2, hx175_3, hx175_4, hl175_2, hi175_2, hl175_3, hi175_3⟩ := at_T70 HR0_1.out x6_4 p175 q175
                 obtain rfl : ad172 = ad175 := (by injection e175)
                 replace hx175_0 := (HB.out.cell (World.block_lt_of_cell? w _ hx175_0)).trans hx175_0
                 replace hx175_1 := (HB.out.cell (World.block_lt_of_cell? w _ hx175_1)).trans hx175_1
                 replace hx175_2 := (HB.out.cell (World.block_lt_of_cell? w _ hx175_2)).trans hx175_2
                 replace hx175_3 := (HB.out.cell (World.block_lt_of_cell? w _ hx175_3)).trans hx175_3
                 replace hx175_4 := (HB.out.cell (World.block_lt_of_cell? w _ hx175_4)).trans hx175_4
                 have HR175_2 := Aside0.mk hi175_2
                 have HC175_2 := Aside0.mk hl175_2
                 clear hi175_2 hl175_2
                 have HR175_3 := Aside0.mk hi175_3
                 have HC175_3 := Aside0.mk hl175_3
                 clear hi175_3 hl175_3
                 replace p175 := eq_true p175
                 replace q175 := eq_true q175
                 have hcz45_0 : wr.cell? ⟨gb173, 0, none⟩ = some (.int .i64 ((rd_T70 l0_1 x4_2).f0)) := (blk_cell BK173.out 0).trans rfl
                 have hcz45_1 : wr.cell? ⟨gb173, 1, none⟩ = some (.string ((rd_T70 l0_1 x4_2).f1)) := (blk_cell BK173.out 1).trans rfl
                 have hcz45_2 : wr.cell? ⟨gb173, 2, none⟩ = some (.slice A172_2 ((rd_T70 l0_1 x4_2).f2).length c172_2) := (blk_cell BK173.out 2).trans rfl
                 have hcz45_3 : wr.cell? ⟨gb173, 3, none⟩ = some (.slice A172_3 ((rd_T70 l0_1 x4_2).f3).length c172_3) := (blk_cell BK173.out 3).trans rfl
                 have hcz45_4 : wr.cell? ⟨gb173, 4, none⟩ = some (.int .i64 ((rd_T70 l0_1 x4_2).f4)) := (blk_cell BK173.out 4).trans rfl
                 have hfz45_0 := blk_frozen BK173.out 0
                 have hfz45_1 := blk_frozen BK173.out 1
                 have hfz45_2 := blk_frozen BK173.out 2
                 have hfz45_3 := blk_frozen BK173.out 3
                 have hfz45_4 := blk_frozen BK173.out 4
                 go_wp2
                 repeat (go_quiet (fail); try go_wp2)
                 go_roundg k4
                 case measure => have := HJ1.out; have := HK2.out; have := HJ15.out; have := HK4.out; omega
                 case rel => exact ⟨(wrap64 (x6_4 + 1)), (by first | rfl | (simp; done) | (simp [*]; done)), H', ⟨by have := HJ1.out; have := HK2.out; have := HJ15.out; have := HK4.out; omega⟩, ⟨by (with_reducible repeat (first | refine blk_drewN ?_ _ | refine blk_drew ?_ | refine blk_alloc ?_ _)); exact BK171.out⟩, ⟨by (with_reducible repeat (first | refine blk_drewN ?_ _ | refine blk_drew ?_ | refine blk_alloc ?_ _)); exact BK173.out⟩, ⟨by repeat (first | (with_reducible first | exact HB.out | apply below_alloc | apply pw_below_drewN | apply below_drew1 | refine below_set ?_ GE171.out | refine below_set ?_ GE173.out) | exact HB.out)⟩⟩
               ·rw [if_neg c38] at H
                exact absurd H (by simp)
              ·rw [if_neg c37] at H
               exact absurd H (by simp)
             ·rw [if_neg c36] at H
              have c36b0 : decide (x6_4 < x4_2) = false := decide_eq_false c36
              clear c36
              have H' := Aside0.mk H
              clear H
              go_wp2
              repeat (go_quiet (fail); try go_wp2)
              go_roundg k4
              case measure => have := HJ1.out; have := HK2.out; have := HJ15.out; have := HK4.out; omega
              case rel => exact ⟨(((rd_T70 l0_1 x4_2).f0)), (wrap64 (x4_2 + 1)), (by first | rfl | (simp; done) | (simp [*]; done)), (by first | rfl | (simp; done) | (simp [*]; done)), H', ⟨by have := HJ1.out; have := HK2.out; have := HJ15.out; have := HK4.out; omega⟩, ⟨by (with_reducible repeat (first | refine blk_drewN ?_ _ | refine blk_drew ?_ | refine blk_alloc ?_ _)); exact BK171.out⟩, ⟨by repeat (first | (with_reducible first | exact HB.out | apply below_alloc | apply pw_below_drewN | apply below_drew1 | refine below_set ?_ GE171.out | refine below_set ?_ GE173.out) | exact HB.out)⟩⟩
       ·rw [if_neg c15] at H
        exact absurd H (by simp)
      ·rw [if_neg c14] at H
       have c14b0 : decide (x4_2 < (l0_1.length : Int)) = false := decide_eq_false c14
       clear c14
       obtain rfl := Option.some.inj H
       have hcz46_0 : wr.cell? ⟨gb171, 0, none⟩ = some (.int .i64 a0_0) := (blk_cell BK171.out 0).trans rfl
       have hcz46_1 : wr.cell? ⟨gb171, 1, none⟩ = some (.slice A0_1 l0_1.length c0_1) := (blk_cell BK171.out 1).trans rfl
       have hcz46_2 : wr.cell? ⟨gb171, 2, none⟩ = some (.int .i64 a0_2) := (blk_cell BK171.out 2).trans rfl
       have hfz46_0 := blk_frozen BK171.out 0
       have hfz46_1 := blk_frozen BK171.out 1
       have hfz46_2 := blk_frozen BK171.out 2
       go_wp2
       repeat (go_quiet (fail); try go_wp2)
       go_ret
       exact ⟨by first | rfl | (simp [errW_none, errW_some] <;> rfl) | (simp [*, errW_none, errW_some] <;> rfl), by repeat (first | (with_reducible first | exact HB.out | apply below_alloc | apply pw_below_drewN | apply below_drew1 | refine below_set ?_ GE171.out) | exact HB.out)⟩
end Go.Proofs.YtjgomlcdmpcoaaaDoor.D
namespace Go.Proofs.YtjgomlcdmpcoaaaDoor.H
open Go.RowKit Go.Proofs.YtjgomlcdmpcoaaaDoorW.PrintWords Go.Proofs.YtjgomlcdmpcoaaaDoorW.PrintLast Go.Proofs.YtjgomlcdmpcoaaaDoorW.PrintMore
open Go.Proofs.YtjgomlcdmpcoaaaDoor.D Go.Proofs.YtjgomlcdmpcoaaaDoor
set_option linter.unusedVariables false
set_option linter.unusedSimpArgs false
theorem wrap_nat (i : Nat) (h : i < 1000000) : wrap64 ((i : Int) + 1) = ((i + 1 : Nat) : Int) := by unfold wrap64; omega
theorem rd_nat (l : List Int) (i : Nat) (h : i < l.length) : rd l (i : Int) = l[i] := by simp [rd, List.getD, h]
theorem rd75 (l : List S75) (i : Nat) (h : i < l.length) : rd_T75 l (i : Int) = l[i] := by unfold rd_T75; simp [List.getD, h]
theorem rd98 (l : List S98) (i : Nat) (h : i < l.length) : rd_T98 l (i : Int) = l[i] := by unfold rd_T98; simp [List.getD, h]
theorem rd70 (l : List S70) (i : Nat) (h : i < l.length) : rd_T70 l (i : Int) = l[i] := by unfold rd_T70; simp [List.getD, h]
section
variable (t : S70) (x : S98)
abbrev iL0 (k : Nat) (i : Int) := falseworkref6_index.l0 k i t.f0 t.f1 t.f2 t.f3 t.f4 x.f0 x.f1 x.f2 x.f3 x.f4
abbrev iL1 (k : Nat) (i : Int) (b : Bool) (j : Int) := falseworkref6_index.l1 k i b j t.f0 t.f1 t.f2 t.f3 t.f4 x.f0 x.f1 x.f2 x.f3 x.f4
abbrev iL2 (k : Nat) (i : Int) (b : Bool) (j : Int) := falseworkref6_index.l2 k i b j t.f0 t.f1 t.f2 t.f3 t.f4 x.f0 x.f1 x.f2 x.f3 x.f4
theorem iL1_run (i : Nat) (hi : i < x.f2.length) (hc : t.f2.length < 1000) : ∀ (m k j : Nat) (b : Bool), j + m = t.f2.length →
    iL1 t x (k + m + 1) i b j = iL2 t x k i (b || (t.f2.drop j).any (fun c => c.f0 == x.f2[i])) 0
  | 0, k, j, b, h => by
    obtain rfl : j = t.f2.length := by omega
    show falseworkref6_index.l1 (k + 0 + 1) _ _ _ _ _ _ _ _ _ _ _ _ _ = _
    rw [falseworkref6_index.l1, if_neg (by omega), List.drop_length]
    simp
  | m + 1, k, j, b, h => by
    have hj : j < t.f2.length := by omega
    have ih := fun b' => iL1_run i hi hc m k (j + 1) b' (by omega)
    have hd : t.f2.drop j = t.f2[j] :: t.f2.drop (j + 1) := List.drop_eq_getElem_cons hj
    show falseworkref6_index.l1 (k + m + 1 + 1) _ _ _ _ _ _ _ _ _ _ _ _ _ = _
    rw [falseworkref6_index.l1, if_pos (by omega), wrap_nat j (by omega)]
    cases b with
    | true =>
      rw [if_pos rfl]
      exact (ih true).trans (by simp)
    | false =>
      rw [if_neg (by simp), if_pos (by omega), if_pos (by omega), if_pos (by omega), rd75 _ _ hj, rd_nat _ _ hi]
      refine (ih _).trans ?_
      rw [hd, List.any_cons]
      simp
theorem iL2_run (i : Nat) (hi : i < x.f2.length) (hn : x.f2.length < 1000) : ∀ (m k j : Nat) (b : Bool), j + m = i →
    iL2 t x (k + m + 1) i b j = if (b && !((x.f2.take i).drop j).contains x.f2[i]) = true then iL0 t x k ((i + 1 : Nat) : Int) else some false
  | 0, k, j, b, h => by
    obtain rfl : j = i := by omega
    show falseworkref6_index.l2 (k + 0 + 1) _ _ _ _ _ _ _ _ _ _ _ _ _ = _
    have hd : (x.f2.take j).drop j = [] := List.drop_eq_nil_of_le (by rw [List.length_take]; omega)
    rw [falseworkref6_index.l2, if_neg (by omega), wrap_nat j (by omega), hd]
    cases b <;> simp
  | m + 1, k, j, b, h => by
    have hj : j < i := by omega
    have hjx : j < x.f2.length := by omega
    have ih := fun b' => iL2_run i hi hn m k (j + 1) b' (by omega)
    have hd : (x.f2.take i).drop j = x.f2[j] :: (x.f2.take i).drop (j + 1) := by
      rw [List.drop_eq_getElem_cons (by rw [List.length_take]; omega)]
      simp
    show falseworkref6_index.l2 (k + m + 1 + 1) _ _ _ _ _ _ _ _ _ _ _ _ _ = _
    rw [falseworkref6_index.l2, if_pos (by omega), wrap_nat j (by omega)]
    cases b with
    | false =>
      rw [if_neg (by simp)]
      exact (ih false).trans (by simp)
    | true =>
      rw [if_pos rfl, if_pos (by omega), if_pos (by omega), if_pos (by omega), if_pos (by omega), rd_nat _ _ hjx, rd_nat _ _ hi]
      refine (ih _).trans ?_
      rw [hd, List.contains_cons]
      have e : (x.f2[j] != x.f2[i]) = !(x.f2[i] == x.f2[j]) := by
        show (!(x.f2[j] == x.f2[i])) = _
        rw [Bool.beq_comm]
      rw [e]
      simp [Bool.not_or]
theorem iL0_run (hc : t.f2.length ≤ 8) (hn : x.f2.length ≤ 8) : ∀ (m k i : Nat), i + m = x.f2.length → 30 * (m + 1) ≤ k → iL0 t x k i = some (colsB t.f2 (x.f2.take i) (x.f2.drop i))
  | 0, k, i, h, hk => by
    obtain ⟨k, rfl⟩ : ∃ k', k = k' + 1 := ⟨k - 1, by omega⟩
    obtain rfl : i = x.f2.length := by omega
    show falseworkref6_index.l0 (k + 1) _ _ _ _ _ _ _ _ _ _ _ = _
    rw [falseworkref6_index.l0, if_neg (by omega), List.drop_length]
    rfl
  | m + 1, k, i, h, hk => by
    have hi : i < x.f2.length := by omega
    have hd : x.f2.drop i = x.f2[i] :: x.f2.drop (i + 1) := List.drop_eq_getElem_cons hi
    have htk : x.f2.take (i + 1) = x.f2.take i ++ [x.f2[i]] := List.take_succ_eq_append_getElem hi
    obtain ⟨k, rfl⟩ : ∃ k', k = (k' + i + 1) + t.f2.length + 1 + 1 := ⟨k - i - t.f2.length - 3, by omega⟩
    have ih := iL0_run hc hn m k (i + 1) (by omega) (by omega)
    show falseworkref6_index.l0 ((k + i + 1) + t.f2.length + 1 + 1) _ _ _ _ _ _ _ _ _ _ _ = _
    rw [falseworkref6_index.l0, if_pos (by omega)]
    refine (iL1_run t x i hi (by omega) t.f2.length (k + i + 1) 0 false (by omega)).trans ?_
    refine (iL2_run t x i hi (by omega) i k 0 _ (by omega)).trans ?_
    rw [ih, hd, htk, List.drop_zero, List.drop_zero, Bool.false_or, colsB]
    cases (t.f2.any fun c => c.f0 == x.f2[i]) <;> cases ((x.f2.take i).contains x.f2[i]) <;> simp
theorem ref_index (hc : t.f2.length ≤ 8) (k : Nat) (hk : 400 < k) : falseworkref6_index.f k t.f0 t.f1 t.f2 t.f3 t.f4 x.f0 x.f1 x.f2 x.f3 x.f4 = some (indexB t x) := by
  obtain ⟨k, rfl⟩ : ∃ k', k = k' + 1 := ⟨k - 1, by omega⟩
  unfold falseworkref6_index.f indexB stateB
  rw [ref_name _ _ (by omega), Option.bind_some]
  have hj : ∀ b, falseworkref6_index.j0 (k + 1) b t.f0 t.f1 t.f2 t.f3 t.f4 x.f0 x.f1 x.f2 x.f3 x.f4 = if b = true then some false else iL0 t x k 0 := fun b => by rw [falseworkref6_index.j0]
  simp only [hj]
  cases nameB x.f1
  · simp
  · by_cases h1 : x.f4 < 0
    · simp [h1, show ¬ 0 ≤ x.f4 by omega]
    · by_cases h2 : x.f4 > 4
      · simp [h1, h2, show ¬ x.f4 ≤ 4 by omega]
      · by_cases h3 : (x.f2.length : Int) < 1
        · simp [h1, h2, h3, show ¬ 1 ≤ x.f2.length by omega]
        · by_cases h4 : (x.f2.length : Int) > 8
          · simp [h1, h2, h3, h4, show ¬ x.f2.length ≤ 8 by omega]
          · have h := iL0_run t x hc (by omega) x.f2.length k 0 (by omega) (by omega)
            have h' : iL0 t x k 0 = some (colsB t.f2 [] x.f2) := h
            simp [h1, h2, h3, h4, h', show x.f2.length ≤ 8 by omega, show 1 ≤ x.f2.length by omega, show 0 ≤ x.f4 by omega, show x.f4 ≤ 4 by omega]
end
def rcolsB : List (List UInt8) → List S75 → Bool
  | _, [] => true
  | ns, c :: r => !ns.contains (nm c.f1) && (columnB c && rcolsB (ns ++ [nm c.f1]) r)
def rindsB (t : S70) : List (List UInt8) → List S98 → Bool
  | _, [] => true
  | ns, x :: r => !ns.contains (nm x.f1) && (indexB t x && rindsB t (ns ++ [nm x.f1]) r)
def idsB (next : Int) : List Int → List Int → Bool
  | _, [] => true
  | pre, i :: r => fitsB next pre i && idsB next (pre ++ [i]) r
theorem tcols_parts (next : Int) : ∀ (l : List S75) (ids : List Int) (ns : List (List UInt8)), tcolsB next ids ns l = (rcolsB ns l && idsB next ids (l.map (·.f0)))
  | [], _, _ => rfl
  | c :: l, ids, ns => by
    rw [tcolsB, rcolsB, tcols_parts next l, List.map_cons, idsB]
    cases fitsB next ids c.f0 <;> cases ns.contains (nm c.f1) <;> cases columnB c <;> cases rcolsB (ns ++ [nm c.f1]) l <;> simp
theorem tinds_parts (t : S70) : ∀ (l : List S98) (ids : List Int) (ns : List (List UInt8)), tindsB t ids ns l = (rindsB t ns l && idsB t.f4 ids (l.map (·.f0)))
  | [], _, _ => rfl
  | c :: l, ids, ns => by
    rw [tindsB, rindsB, tinds_parts t l, List.map_cons, idsB]
    cases fitsB t.f4 ids c.f0 <;> cases ns.contains (nm c.f1) <;> cases indexB t c <;> cases rindsB t (ns ++ [nm c.f1]) l <;> simp
theorem ids_append (next : Int) : ∀ (l r pre : List Int), idsB next pre (l ++ r) = (idsB next pre l && idsB next (pre ++ l) r)
  | [], r, pre => by simp [idsB]
  | i :: l, r, pre => by
    rw [List.cons_append, idsB, idsB, ids_append next l r, Bool.and_assoc, List.append_assoc]
    rfl
section
variable (t : S70)
abbrev tL0 (k : Nat) (l : List Int) (i : Int) := falseworkref6_table.l0 k l i t.f0 t.f1 t.f2 t.f3 t.f4
abbrev tL1 (k : Nat) (l : List Int) (i j : Int) := falseworkref6_table.l1 k l i j t.f0 t.f1 t.f2 t.f3 t.f4
abbrev tL2 (k : Nat) (l : List Int) (i : Int) := falseworkref6_table.l2 k l i t.f0 t.f1 t.f2 t.f3 t.f4
abbrev tL3 (k : Nat) (l : List Int) (i j : Int) := falseworkref6_table.l3 k l i j t.f0 t.f1 t.f2 t.f3 t.f4
abbrev tL4 (k : Nat) (l : List Int) (i : Int) := falseworkref6_table.l4 k l i t.f0 t.f1 t.f2 t.f3 t.f4
abbrev tL5 (k : Nat) (l : List Int) (i j : Int) := falseworkref6_table.l5 k l i j t.f0 t.f1 t.f2 t.f3 t.f4
theorem nm_eq {α : Type} (a b : ByteArray) (x y : α) : (if a.toList = b.toList then x else y) = if (nm b == nm a) = true then x else y := by
  rw [ByteArray.toList_eq, ByteArray.toList_eq]
  by_cases h : a.data.toList = b.data.toList
  · rw [if_pos h, if_pos (beq_iff_eq.2 h.symm)]
  · rw [if_neg h, if_neg (fun e => h (beq_iff_eq.1 e).symm)]
theorem tL1_run (hw : ∀ c ∈ t.f2, ValWf c.f5) (hc : t.f2.length ≤ 8) (ids : List Int) (hi' : ids.length < 1000) (i : Nat) (hi : i < t.f2.length) : ∀ (m k j : Nat), j + m = i → 100 < k →
    tL1 t (k + m + 1) ids i j = if ((((t.f2.take i).map fun c => nm c.f1).drop j).contains (nm t.f2[i].f1)) = true then some false else if columnB t.f2[i] = true then tL0 t k (ids ++ [t.f2[i].f0]) ((i + 1 : Nat) : Int) else some false
  | 0, k, j, h, hk => by
    obtain rfl : j = i := by omega
    have hd : ((t.f2.take j).map fun c => nm c.f1).drop j = [] := List.drop_eq_nil_of_le (by rw [List.length_map, List.length_take]; omega)
    show falseworkref6_table.l1 (k + 0 + 1) _ _ _ _ _ _ _ _ = _
    rw [falseworkref6_table.l1, if_neg (by omega), if_pos (by omega), if_pos (by omega), rd75 _ _ hi, hd, ref_column _ (hw _ (List.getElem_mem hi)) _ (by omega), Option.bind_some, wrap_nat j (by omega), if_pos (by omega : ids.length < 17592186044416)]
    simp
  | m + 1, k, j, h, hk => by
    have hj : j < i := by omega
    have hjx : j < t.f2.length := by omega
    have ih := tL1_run hw hc ids hi' i hi m k (j + 1) (by omega) hk
    have hd : ((t.f2.take i).map fun c => nm c.f1).drop j = nm t.f2[j].f1 :: ((t.f2.take i).map fun c => nm c.f1).drop (j + 1) := by
      rw [List.drop_eq_getElem_cons (by rw [List.length_map, List.length_take]; omega)]
      simp
    show falseworkref6_table.l1 (k + m + 1 + 1) _ _ _ _ _ _ _ _ = _
    rw [falseworkref6_table.l1, if_pos (by omega), if_pos (by omega), if_pos (by omega), if_pos (by omega), if_pos (by omega), wrap_nat j (by omega), rd75 _ _ hjx, rd75 _ _ hi, nm_eq, hd, List.contains_cons]
    refine (congrArg _ ih).trans ?_
    cases (nm t.f2[i].f1 == nm t.f2[j].f1) <;> simp
theorem tL0_run (hw : ∀ c ∈ t.f2, ValWf c.f5) (hc : t.f2.length ≤ 8) (K0 : Nat) (R : Bool) (hR : ∀ k, K0 < k → tL2 t k (t.f2.map (·.f0)) 0 = some R) : ∀ (m k i : Nat), i + m = t.f2.length → K0 + 200 + 30 * (m + 1) ≤ k →
    tL0 t k ((t.f2.take i).map (·.f0)) i = some (rcolsB ((t.f2.take i).map fun c => nm c.f1) (t.f2.drop i) && R)
  | 0, k, i, h, hk => by
    obtain ⟨k, rfl⟩ : ∃ k', k = k' + 1 := ⟨k - 1, by omega⟩
    obtain rfl : i = t.f2.length := by omega
    show falseworkref6_table.l0 (k + 1) _ _ _ _ _ _ _ = _
    rw [falseworkref6_table.l0, if_neg (by omega), List.drop_length, List.take_length]
    refine (hR k (by omega)).trans ?_
    simp [rcolsB]
  | m + 1, k, i, h, hk => by
    have hi : i < t.f2.length := by omega
    have hd : t.f2.drop i = t.f2[i] :: t.f2.drop (i + 1) := List.drop_eq_getElem_cons hi
    have htk : t.f2.take (i + 1) = t.f2.take i ++ [t.f2[i]] := List.take_succ_eq_append_getElem hi
    obtain ⟨k, rfl⟩ : ∃ k', k = (k' + i + 1) + 1 := ⟨k - i - 2, by omega⟩
    have ih := tL0_run hw hc K0 R hR m k (i + 1) (by omega) (by omega)
    show falseworkref6_table.l0 (k + i + 1 + 1) _ _ _ _ _ _ _ = _
    rw [falseworkref6_table.l0, if_pos (by omega)]
    refine (tL1_run t hw hc _ (by rw [List.length_map, List.length_take]; omega) i hi i k 0 (by omega) (by omega)).trans ?_
    rw [htk] at ih
    simp only [List.map_append, List.map_cons, List.map_nil] at ih
    rw [ih, hd, List.drop_zero, rcolsB]
    cases ((t.f2.take i).map fun c => nm c.f1).contains (nm t.f2[i].f1) <;> cases columnB t.f2[i] <;> simp
theorem tL3_run (hc : t.f2.length ≤ 8) (hx : t.f3.length ≤ 4) (ids : List Int) (hi' : ids.length < 1000) (i : Nat) (hi : i < t.f3.length) : ∀ (m k j : Nat), j + m = i → 400 < k →
    tL3 t (k + m + 1) ids i j = if ((((t.f3.take i).map fun c => nm c.f1).drop j).contains (nm t.f3[i].f1)) = true then some false else if indexB t t.f3[i] = true then tL2 t k (ids ++ [t.f3[i].f0]) ((i + 1 : Nat) : Int) else some false
  | 0, k, j, h, hk => by
    obtain rfl : j = i := by omega
    have hd : ((t.f3.take j).map fun c => nm c.f1).drop j = [] := List.drop_eq_nil_of_le (by rw [List.length_map, List.length_take]; omega)
    show falseworkref6_table.l3 (k + 0 + 1) _ _ _ _ _ _ _ _ = _
    rw [falseworkref6_table.l3, if_neg (by omega), if_pos (by omega), if_pos (by omega), rd98 _ _ hi, hd, ref_index t _ hc _ (by omega), Option.bind_some, wrap_nat j (by omega), if_pos (by omega : ids.length < 17592186044416)]
    simp
  | m + 1, k, j, h, hk => by
    have hj : j < i := by omega
    have hjx : j < t.f3.length := by omega
    have ih := tL3_run hc hx ids hi' i hi m k (j + 1) (by omega) hk
    have hd : ((t.f3.take i).map fun c => nm c.f1).drop j = nm t.f3[j].f1 :: ((t.f3.take i).map fun c => nm c.f1).drop (j + 1) := by
      rw [List.drop_eq_getElem_cons (by rw [List.length_map, List.length_take]; omega)]
      simp
    show falseworkref6_table.l3 (k + m + 1 + 1) _ _ _ _ _ _ _ _ = _
    rw [falseworkref6_table.l3, if_pos (by omega), if_pos (by omega), if_pos (by omega), if_pos (by omega), if_pos (by omega), wrap_nat j (by omega), rd98 _ _ hjx, rd98 _ _ hi, nm_eq, hd, List.contains_cons]
    refine (congrArg _ ih).trans ?_
    cases (nm t.f3[i].f1 == nm t.f3[j].f1) <;> simp
theorem tL2_run (hc : t.f2.length ≤ 8) (hx : t.f3.length ≤ 4) (pre : List Int) (hp : pre.length < 900) (K0 : Nat) (R : Bool) (hR : ∀ k, K0 < k → tL4 t k (pre ++ t.f3.map (·.f0)) 0 = some R) : ∀ (m k i : Nat), i + m = t.f3.length → K0 + 500 + 30 * (m + 1) ≤ k →
    tL2 t k (pre ++ (t.f3.take i).map (·.f0)) i = some (rindsB t ((t.f3.take i).map fun c => nm c.f1) (t.f3.drop i) && R)
  | 0, k, i, h, hk => by
    obtain ⟨k, rfl⟩ : ∃ k', k = k' + 1 := ⟨k - 1, by omega⟩
    obtain rfl : i = t.f3.length := by omega
    show falseworkref6_table.l2 (k + 1) _ _ _ _ _ _ _ = _
    rw [falseworkref6_table.l2, if_neg (by omega), List.drop_length, List.take_length]
    refine (hR k (by omega)).trans ?_
    simp [rindsB]
  | m + 1, k, i, h, hk => by
    have hi : i < t.f3.length := by omega
    have hd : t.f3.drop i = t.f3[i] :: t.f3.drop (i + 1) := List.drop_eq_getElem_cons hi
    have htk : t.f3.take (i + 1) = t.f3.take i ++ [t.f3[i]] := List.take_succ_eq_append_getElem hi
    obtain ⟨k, rfl⟩ : ∃ k', k = (k' + i + 1) + 1 := ⟨k - i - 2, by omega⟩
    have ih := tL2_run hc hx pre hp K0 R hR m k (i + 1) (by omega) (by omega)
    show falseworkref6_table.l2 (k + i + 1 + 1) _ _ _ _ _ _ _ = _
    rw [falseworkref6_table.l2, if_pos (by omega)]
    refine (tL3_run t hc hx _ (by rw [List.length_append, List.length_map, List.length_take]; omega) i hi i k 0 (by omega) (by omega)).trans ?_
    rw [htk] at ih
    simp only [List.map_append, List.map_cons, List.map_nil, ← List.append_assoc] at ih
    rw [ih, hd, List.drop_zero, rindsB]
    cases ((t.f3.take i).map fun c => nm c.f1).contains (nm t.f3[i].f1) <;> cases indexB t t.f3[i] <;> simp
theorem tL5_run (l : List Int) (hl : l.length < 1000) (i : Nat) (hi : i < l.length) : ∀ (m k j : Nat), j + m = i →
    tL5 t (k + m + 1) l i j = if ((l.take i).drop j).contains l[i] = true then some false else tL4 t k l ((i + 1 : Nat) : Int)
  | 0, k, j, h => by
    obtain rfl : j = i := by omega
    have hd : (l.take j).drop j = [] := List.drop_eq_nil_of_le (by rw [List.length_take]; omega)
    show falseworkref6_table.l5 (k + 0 + 1) _ _ _ _ _ _ _ _ = _
    rw [falseworkref6_table.l5, if_neg (by omega), hd, wrap_nat j (by omega)]
    simp
  | m + 1, k, j, h => by
    have hj : j < i := by omega
    have hjx : j < l.length := by omega
    have ih := tL5_run l hl i hi m k (j + 1) (by omega)
    have hd : (l.take i).drop j = l[j] :: (l.take i).drop (j + 1) := by
      rw [List.drop_eq_getElem_cons (by rw [List.length_take]; omega)]
      simp
    show falseworkref6_table.l5 (k + m + 1 + 1) _ _ _ _ _ _ _ _ = _
    rw [falseworkref6_table.l5, if_pos (by omega), if_pos (by omega), if_pos (by omega), if_pos (by omega), if_pos (by omega), wrap_nat j (by omega), rd_nat _ _ hjx, rd_nat _ _ hi, hd, List.contains_cons]
    by_cases e : l[j] = l[i]
    · rw [if_pos e, beq_iff_eq.2 e.symm]
      simp
    · rw [if_neg e, beq_eq_false_iff_ne.2 (fun q => e q.symm), Bool.false_or]
      exact ih
theorem tL4_run (l : List Int) (hl : l.length < 100) : ∀ (m k i : Nat), i + m = l.length → 200 * (m + 1) ≤ k → tL4 t k l i = some (idsB t.f4 (l.take i) (l.drop i))
  | 0, k, i, h, hk => by
    obtain ⟨k, rfl⟩ : ∃ k', k = k' + 1 := ⟨k - 1, by omega⟩
    obtain rfl : i = l.length := by omega
    show falseworkref6_table.l4 (k + 1) _ _ _ _ _ _ _ = _
    rw [falseworkref6_table.l4, if_neg (by omega), List.drop_length]
    rfl
  | m + 1, k, i, h, hk => by
    have hi : i < l.length := by omega
    have hd : l.drop i = l[i] :: l.drop (i + 1) := List.drop_eq_getElem_cons hi
    have htk : l.take (i + 1) = l.take i ++ [l[i]] := List.take_succ_eq_append_getElem hi
    obtain ⟨k, rfl⟩ : ∃ k', k = (k' + i + 1) + 1 + 1 := ⟨k - i - 3, by omega⟩
    have ih := tL4_run l hl m k (i + 1) (by omega) (by omega)
    have h5 := tL5_run t l (by omega) i hi i k 0 (by omega)
    have h7 : ∀ b, falseworkref6_table.j7 ((k + i + 1) + 1) l i b t.f0 t.f1 t.f2 t.f3 t.f4 = if b = true then some false else tL5 t (k + i + 1) l i 0 := fun b => by rw [falseworkref6_table.j7]
    show falseworkref6_table.l4 (k + i + 1 + 1 + 1) _ _ _ _ _ _ _ = _
    rw [falseworkref6_table.l4, if_pos (by omega), if_pos (by omega), rd_nat _ _ hi, hd, idsB, fitsB, h7, h7, ← htk]
    have h5' : tL5 t (k + i + 1) l i 0 = if (l.take i).contains l[i] = true then some false else tL4 t k l ((i + 1 : Nat) : Int) := h5
    rw [h5', ih]
    by_cases h1 : l[i] < 1
    · rw [if_pos h1, if_pos rfl, decide_eq_false (by omega : ¬ 1 ≤ l[i])]
      rfl
    · rw [if_neg h1, decide_eq_true (by omega : 1 ≤ l[i])]
      by_cases h2 : l[i] ≥ t.f4
      · rw [decide_eq_true h2, if_pos rfl, decide_eq_false (by omega : ¬ l[i] < t.f4)]
        rfl
      · rw [decide_eq_false h2, if_neg (by simp), decide_eq_true (by omega : l[i] < t.f4)]
        cases (l.take i).contains l[i] <;> simp
theorem ref_table (hw : ∀ c ∈ t.f2, ValWf c.f5) (k : Nat) (hk : 8000 < k) : falseworkref6_table.f k t.f0 t.f1 t.f2 t.f3 t.f4 = some (tableB t) := by
  obtain ⟨k, rfl⟩ : ∃ k', k = k' + 1 + 1 := ⟨k - 2, by omega⟩
  have hj1 : ∀ b, falseworkref6_table.j1 (k + 1) b t.f0 t.f1 t.f2 t.f3 t.f4 = if b = true then some false else tL0 t k [] 0 := fun b => by rw [falseworkref6_table.j1]
  have hj0 : 0 < t.f2.length → ∀ b, falseworkref6_table.j0 (k + 1 + 1) b t.f0 t.f1 t.f2 t.f3 t.f4 = if b = true then some false else if keyB t = true then tL0 t k [] 0 else some false := fun h0 b => by
    rw [falseworkref6_table.j0, hj1, hj1, if_pos (by omega : 0 < (t.f2.length : Int)), show rd_T75 t.f2 0 = t.f2[0] from rd75 t.f2 0 h0, keyB_of t h0]
    by_cases h1 : t.f2[0].f3 = 4
    · by_cases h2 : t.f2[0].f4 = 4
      · by_cases h3 : t.f2[0].f5.f0 = 0 <;> simp [h1, h2, h3]
      · simp [h1, h2]
    · simp [h1]
  have hjt : falseworkref6_table.j0 (k + 1 + 1) true t.f0 t.f1 t.f2 t.f3 t.f4 = some false := by rw [falseworkref6_table.j0, if_pos rfl]
  unfold falseworkref6_table.f tableB
  rw [ref_name _ _ (by omega), Option.bind_some]
  cases nameB t.f1
  · simp [hjt]
  · rw [if_pos rfl]
    by_cases h1 : t.f4 < 1
    · simp [h1, hjt, show ¬ 1 ≤ t.f4 by omega]
    by_cases h2 : t.f4 > 60000
    · simp [h1, h2, hjt, show ¬ t.f4 ≤ 60000 by omega]
    by_cases h3 : (t.f2.length : Int) < 1
    · simp [h1, h2, h3, hjt, show ¬ 1 ≤ t.f2.length by omega]
    by_cases h4 : (t.f2.length : Int) > 8
    · simp [h1, h2, h3, h4, hjt, show ¬ t.f2.length ≤ 8 by omega]
    by_cases h5 : (t.f3.length : Int) > 4
    · simp [h1, h2, h3, h4, h5, hjt, show ¬ t.f3.length ≤ 4 by omega]
    have r4 : ∀ k, 2800 < k → tL4 t k (t.f2.map (·.f0) ++ t.f3.map (·.f0)) 0 = some (idsB t.f4 [] (t.f2.map (·.f0) ++ t.f3.map (·.f0))) := fun k hk =>
      tL4_run t _ (by rw [List.length_append, List.length_map, List.length_map]; omega) (t.f2.map (·.f0) ++ t.f3.map (·.f0)).length k 0 (by omega) (by rw [List.length_append, List.length_map, List.length_map]; omega)
    have r2 : ∀ k, 3500 < k → tL2 t k (t.f2.map (·.f0)) 0 = some (rindsB t [] t.f3 && idsB t.f4 [] (t.f2.map (·.f0) ++ t.f3.map (·.f0))) := fun k hk => by
      have := tL2_run t (by omega) (by omega) (t.f2.map (·.f0)) (by rw [List.length_map]; omega) 2800 _ r4 t.f3.length k 0 (by omega) (by omega)
      simpa using this
    have r0 : tL0 t k [] 0 = some (rcolsB [] t.f2 && (rindsB t [] t.f3 && idsB t.f4 [] (t.f2.map (·.f0) ++ t.f3.map (·.f0)))) := by
      have := tL0_run t hw (by omega) 3500 _ r2 t.f2.length k 0 (by omega) (by omega)
      simpa using this
    rw [if_neg h1, if_neg h2, if_neg h3, if_neg h4, decide_eq_false h5, hj0 (by omega), if_neg (by simp), r0, tcols_parts, tinds_parts, ids_append, decide_eq_true (by omega : 1 ≤ t.f4), decide_eq_true (by omega : t.f4 ≤ 60000), decide_eq_true (by omega : 1 ≤ t.f2.length), decide_eq_true (by omega : t.f2.length ≤ 8), decide_eq_true (by omega : t.f3.length ≤ 4), List.nil_append]
    cases keyB t <;> cases rcolsB [] t.f2 <;> cases rindsB t [] t.f3 <;> cases idsB t.f4 [] (t.f2.map (·.f0)) <;> simp
end
section
variable (v : Int) (ts : List S70) (nx : Int)
abbrev mL0 (k : Nat) (last i : Int) := falseworkref6_May.l0 k last i v ts nx
abbrev mL1 (k : Nat) (last i j : Int) (t : S70) := falseworkref6_May.l1 k last i j v ts nx t.f0 t.f1 t.f2 t.f3 t.f4
theorem mL1_run (hn : ts.length ≤ 4) (last : Int) (i : Nat) (hi : i < ts.length) : ∀ (m k j : Nat), j + m = i →
    mL1 v ts nx (k + m + 1) last i j ts[i] = if (((ts.take i).map fun c => nm c.f1).drop j).contains (nm ts[i].f1) = true then some false else mL0 v ts nx k last ((i + 1 : Nat) : Int)
  | 0, k, j, h => by
    obtain rfl : j = i := by omega
    have hd : ((ts.take j).map fun c => nm c.f1).drop j = [] := List.drop_eq_nil_of_le (by rw [List.length_map, List.length_take]; omega)
    show falseworkref6_May.l1 (k + 0 + 1) _ _ _ _ _ _ _ _ _ _ _ = _
    rw [falseworkref6_May.l1, if_neg (by omega), hd, wrap_nat j (by omega)]
    simp
  | m + 1, k, j, h => by
    have hj : j < i := by omega
    have hjx : j < ts.length := by omega
    have ih := mL1_run hn last i hi m k (j + 1) (by omega)
    have hd : ((ts.take i).map fun c => nm c.f1).drop j = nm ts[j].f1 :: ((ts.take i).map fun c => nm c.f1).drop (j + 1) := by
      rw [List.drop_eq_getElem_cons (by rw [List.length_map, List.length_take]; omega)]
      simp
    show falseworkref6_May.l1 (k + m + 1 + 1) _ _ _ _ _ _ _ _ _ _ _ = _
    rw [falseworkref6_May.l1, if_pos (by omega), if_pos (by omega), if_pos (by omega), wrap_nat j (by omega), rd70 _ _ hjx, nm_eq, hd, List.contains_cons]
    refine (congrArg _ ih).trans ?_
    cases (nm ts[i].f1 == nm ts[j].f1) <;> simp
theorem mL0_run (hw : ∀ t ∈ ts, ∀ c ∈ t.f2, ValWf c.f5) (hn : ts.length ≤ 4) : ∀ (m k i : Nat) (last : Int), i + m = ts.length → 8100 + 30 * (m + 1) ≤ k →
    mL0 v ts nx k last i = some (tabsB nx last ((ts.take i).map fun c => nm c.f1) (ts.drop i))
  | 0, k, i, last, h, hk => by
    obtain ⟨k, rfl⟩ : ∃ k', k = k' + 1 := ⟨k - 1, by omega⟩
    obtain rfl : i = ts.length := by omega
    show falseworkref6_May.l0 (k + 1) _ _ _ _ _ = _
    rw [falseworkref6_May.l0, if_neg (by omega), List.drop_length]
    rfl
  | m + 1, k, i, last, h, hk => by
    have hi : i < ts.length := by omega
    have hd : ts.drop i = ts[i] :: ts.drop (i + 1) := List.drop_eq_getElem_cons hi
    have htk : ts.take (i + 1) = ts.take i ++ [ts[i]] := List.take_succ_eq_append_getElem hi
    obtain ⟨k, rfl⟩ : ∃ k', k = (k' + i + 1) + 1 + 1 := ⟨k - i - 3, by omega⟩
    have ih := mL0_run hw hn m k (i + 1) ts[i].f0 (by omega) (by omega)
    have h1 := mL1_run v ts nx hn ts[i].f0 i hi i k 0 (by omega)
    have h1' : mL1 v ts nx (k + i + 1) ts[i].f0 i 0 ts[i] = if ((ts.take i).map fun c => nm c.f1).contains (nm ts[i].f1) = true then some false else mL0 v ts nx k ts[i].f0 ((i + 1 : Nat) : Int) := h1
    have hj : ∀ b, falseworkref6_May.j2 ((k + i + 1) + 1) i b v ts nx ts[i].f0 ts[i].f1 ts[i].f2 ts[i].f3 ts[i].f4 = if b = true then some false else mL1 v ts nx (k + i + 1) ts[i].f0 i 0 ts[i] := fun b => by rw [falseworkref6_May.j2]
    show falseworkref6_May.l0 (k + i + 1 + 1 + 1) _ _ _ _ _ = _
    rw [falseworkref6_May.l0, if_pos (by omega), if_pos (by omega), rd70 _ _ hi, hj, ref_table _ (hw _ (List.getElem_mem hi)) _ (by omega), Option.bind_some, hj, h1', hd, tabsB]
    rw [htk] at ih
    simp only [List.map_append, List.map_cons, List.map_nil] at ih
    rw [ih]
    by_cases q1 : ts[i].f0 ≤ last
    · rw [if_pos q1, if_pos rfl, decide_eq_false (by omega : ¬ last < ts[i].f0)]
      rfl
    · rw [if_neg q1, decide_eq_true (by omega : last < ts[i].f0)]
      by_cases q2 : ts[i].f0 ≥ nx
      · rw [if_pos q2, if_pos rfl, decide_eq_false (by omega : ¬ ts[i].f0 < nx)]
        rfl
      · rw [if_neg q2, decide_eq_true (by omega : ts[i].f0 < nx)]
        cases tableB ts[i] <;> cases ((ts.take i).map fun c => nm c.f1).contains (nm ts[i].f1) <;> simp
theorem ref_may (hw : ∀ t ∈ ts, ∀ c ∈ t.f2, ValWf c.f5) (k : Nat) (hk : 8500 < k) : falseworkref6_May.f k v ts nx = some (schB v ts nx) := by
  obtain ⟨k, rfl⟩ : ∃ k', k = k' + 1 := ⟨k - 1, by omega⟩
  have hj : ∀ b, falseworkref6_May.j0 (k + 1) b v ts nx = if b = true then some false else mL0 v ts nx k 0 0 := fun b => by rw [falseworkref6_May.j0]
  unfold falseworkref6_May.f schB
  simp only [hj]
  by_cases h1 : v < 0
  · simp [h1, show ¬ 0 ≤ v by omega]
  by_cases h2 : v ≥ 1099511627776
  · simp [h1, h2, show ¬ v < 1099511627776 by omega]
  by_cases h3 : nx < 0
  · simp [h1, h2, h3, show ¬ 0 ≤ nx by omega]
  by_cases h4 : nx ≥ 1099511627776
  · simp [h1, h2, h3, h4, show ¬ nx < 1099511627776 by omega]
  by_cases h5 : (ts.length : Int) > 4
  · simp [h1, h2, h3, h4, h5, show ¬ ts.length ≤ 4 by omega]
  have r := mL0_run v ts nx hw (by omega) ts.length k 0 0 (by omega) (by omega)
  have r' : mL0 v ts nx k 0 0 = some (tabsB nx 0 [] ts) := r
  rw [if_neg h1, if_neg h2, if_neg h3, if_neg h4, decide_eq_false h5, if_neg (by simp), r', decide_eq_true (by omega : 0 ≤ v), decide_eq_true (by omega : v < 1099511627776), decide_eq_true (by omega : 0 ≤ nx), decide_eq_true (by omega : nx < 1099511627776), decide_eq_true (by omega : ts.length ≤ 4)]
  rfl
end
theorem rmay_calls (v : Int) (ts : List S70) (nx : Int) (hw : ∀ t ∈ ts, ∀ c ∈ t.f2, ValWf c.f5) (A : Option Addr) (c : Nat) (w : World) (hc : ts.length ≤ c) (g2 : k70.C w A ts.length ts) :
    Calls Tryd.prog 37 #[.agg #[.int .i64 v, .slice A ts.length c, .int .i64 nx]] w fun e w' => e = .returned (.bool (schB v ts nx)) ∧ Below w.heap.size w w' :=
  falseworkref6_May.calls 8501 v A c ts nx _ w g2 hc (ref_may v ts nx hw 8501 (by decide))
end Go.Proofs.YtjgomlcdmpcoaaaDoor.H
