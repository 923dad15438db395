/- Own texts of this session, packed by its program wip/pp/pack.py: lemmas and walks of functions. -/
import Derived.Defers
import Derived.Deep.QuietTactic
import Derived.Test.YtjgomlcdmpcoaaaDoorKTurned1
import Derived.Test.YtjgomlcdmpcoaaaDoorKTurned6
import Derived.Test.YtjgomlcdmpcoaaaDoorKTurned9
namespace Go.Proofs.YtjgomlcdmpcoaaaDoor.D
open Go.RowKit Go.Proofs.YtjgomlcdmpcoaaaDoorW.PrintWords Go.Proofs.YtjgomlcdmpcoaaaDoorW.PrintLast Go.Proofs.YtjgomlcdmpcoaaaDoorW.PrintMore
attribute [local go_sem] max2_int min2_int max_two min_two max_three min_three max_four min_four
set_option linter.unusedVariables false
set_option linter.unusedSimpArgs false
mutual
def falseworklaw6_Great.l0 : Nat → Int → Int → List (S70) → Int → Option (Bool)
 | 0, _, _, _, _ => none
 | k + 1, x3, x325000, x325001, x325002 => if x3 < (x325001.length : Int) then (if 0 ≤ x3 then (if (((rd_T70 x325001 x3).f1).size : Int) > 1000 then (falseworklaw6_Great.j1 k x3 true x325000 x325001 x325002 ((rd_T70 x325001 x3).f0) ((rd_T70 x325001 x3).f1) ((rd_T70 x325001 x3).f2) ((rd_T70 x325001 x3).f3) ((rd_T70 x325001 x3).f4)) else (if (((rd_T70 x325001 x3).f2).length : Int) > 50 then (falseworklaw6_Great.j1 k x3 true x325000 x325001 x325002 ((rd_T70 x325001 x3).f0) ((rd_T70 x325001 x3).f1) ((rd_T70 x325001 x3).f2) ((rd_T70 x325001 x3).f3) ((rd_T70 x325001 x3).f4)) else (falseworklaw6_Great.j1 k x3 (decide ((((rd_T70 x325001 x3).f3).length : Int) > 50)) x325000 x325001 x325002 ((rd_T70 x325001 x3).f0) ((rd_T70 x325001 x3).f1) ((rd_T70 x325001 x3).f2) ((rd_T70 x325001 x3).f3) ((rd_T70 x325001 x3).f4)))) else (none)) else (some false)
def falseworklaw6_Great.j1 : Nat → Int → Bool → Int → List (S70) → Int → Int → ByteArray → List (S75) → List (S98) → Int → Option (Bool)
 | 0, _, _, _, _, _, _, _, _, _, _ => none
 | k + 1, x3, x38, x325000, x325001, x325002, x327000, x327001, x327002, x327003, x327004 => if x38 = true then (some true) else (falseworklaw6_Great.l1 k x3 0 x325000 x325001 x325002 x327000 x327001 x327002 x327003 x327004)
def falseworklaw6_Great.l1 : Nat → Int → Int → Int → List (S70) → Int → Int → ByteArray → List (S75) → List (S98) → Int → Option (Bool)
 | 0, _, _, _, _, _, _, _, _, _, _ => none
 | k + 1, x3, x5, x325000, x325001, x325002, x327000, x327001, x327002, x327003, x327004 => if x5 < (x327002.length : Int) then (if 0 ≤ x5 then (if (((rd_T75 x327002 x5).f1).size : Int) > 1000 then (some true) else (if (((rd_T75 x327002 x5).f5.f3).size : Int) > 1000 then (some true) else (falseworklaw6_Great.l1 k x3 (wrap64 (x5 + 1)) x325000 x325001 x325002 x327000 x327001 x327002 x327003 x327004))) else (none)) else (falseworklaw6_Great.l2 k x3 0 x325000 x325001 x325002 x327000 x327001 x327002 x327003 x327004)
def falseworklaw6_Great.l2 : Nat → Int → Int → Int → List (S70) → Int → Int → ByteArray → List (S75) → List (S98) → Int → Option (Bool)
 | 0, _, _, _, _, _, _, _, _, _, _ => none
 | k + 1, x3, x6, x325000, x325001, x325002, x327000, x327001, x327002, x327003, x327004 => if x6 < (x327003.length : Int) then (if 0 ≤ x6 then (if (((rd_T98 x327003 x6).f1).size : Int) > 1000 then (some true) else (if (((rd_T98 x327003 x6).f2).length : Int) > 50 then (some true) else (falseworklaw6_Great.l2 k x3 (wrap64 (x6 + 1)) x325000 x325001 x325002 x327000 x327001 x327002 x327003 x327004))) else (none)) else (falseworklaw6_Great.l0 k (wrap64 (x3 + 1)) x325000 x325001 x325002)
end
def falseworklaw6_Great.f (k : Nat) (a0_0 : Int) (l0_1 : List (S70)) (a0_2 : Int) : Option (Bool) := if (l0_1.length : Int) > 20 then (some true) else (falseworklaw6_Great.l0 k 0 a0_0 l0_1 a0_2)
theorem falseworklaw6_Great.mono_l : ∀ k, (∀ y0 y1 y2 y3, LeO (falseworklaw6_Great.l0 k y0 y1 y2 y3) (falseworklaw6_Great.l0 (k + 1) y0 y1 y2 y3)) ∧ (∀ y0 y1 y2 y3 y4 y5 y6 y7 y8 y9, LeO (falseworklaw6_Great.j1 k y0 y1 y2 y3 y4 y5 y6 y7 y8 y9) (falseworklaw6_Great.j1 (k + 1) y0 y1 y2 y3 y4 y5 y6 y7 y8 y9)) ∧ (∀ y0 y1 y2 y3 y4 y5 y6 y7 y8 y9, LeO (falseworklaw6_Great.l1 k y0 y1 y2 y3 y4 y5 y6 y7 y8 y9) (falseworklaw6_Great.l1 (k + 1) y0 y1 y2 y3 y4 y5 y6 y7 y8 y9)) ∧ (∀ y0 y1 y2 y3 y4 y5 y6 y7 y8 y9, LeO (falseworklaw6_Great.l2 k y0 y1 y2 y3 y4 y5 y6 y7 y8 y9) (falseworklaw6_Great.l2 (k + 1) y0 y1 y2 y3 y4 y5 y6 y7 y8 y9))
 | 0 => ⟨fun _ _ _ _ r h => by simp [falseworklaw6_Great.l0] at h, fun _ _ _ _ _ _ _ _ _ _ r h => by simp [falseworklaw6_Great.j1] at h, fun _ _ _ _ _ _ _ _ _ _ r h => by simp [falseworklaw6_Great.l1] at h, fun _ _ _ _ _ _ _ _ _ _ r h => by simp [falseworklaw6_Great.l2] at h⟩
 | k + 1 => by
  obtain ⟨ih0, ih1, ih2, ih3⟩ := falseworklaw6_Great.mono_l k
  refine ⟨?_, ?_, ?_, ?_⟩
  ·intro y0 y1 y2 y3
   unfold falseworklaw6_Great.l0
   repeat' first
   | (with_reducible exact ih0 _ _ _ _)
   | (with_reducible exact ih1 _ _ _ _ _ _ _ _ _ _)
   | (with_reducible exact ih2 _ _ _ _ _ _ _ _ _ _)
   | (with_reducible exact ih3 _ _ _ _ _ _ _ _ _ _)
   | (with_reducible exact LeO.refl _)
   | (with_reducible exact LeO.none _)
   | (with_reducible refine LeO.ite ?_ ?_)
   | (with_reducible refine LeO.bind ?_ (fun _ => ?_))
   | exact ih0 _ _ _ _
   | exact ih1 _ _ _ _ _ _ _ _ _ _
   | exact ih2 _ _ _ _ _ _ _ _ _ _
   | exact ih3 _ _ _ _ _ _ _ _ _ _
   | exact LeO.none _
   | refine LeO.ite ?_ ?_
   | refine LeO.bind ?_ (fun _ => ?_)
  ·intro y0 y1 y2 y3 y4 y5 y6 y7 y8 y9
   unfold falseworklaw6_Great.j1
   repeat' first
   | (with_reducible exact ih0 _ _ _ _)
   | (with_reducible exact ih1 _ _ _ _ _ _ _ _ _ _)
   | (with_reducible exact ih2 _ _ _ _ _ _ _ _ _ _)
   | (with_reducible exact ih3 _ _ _ _ _ _ _ _ _ _)
   | (with_reducible exact LeO.refl _)
   | (with_reducible exact LeO.none _)
   | (with_reducible refine LeO.ite ?_ ?_)
   | (with_reducible refine LeO.bind ?_ (fun _ => ?_))
   | exact ih0 _ _ _ _
   | exact ih1 _ _ _ _ _ _ _ _ _ _
   | exact ih2 _ _ _ _ _ _ _ _ _ _
   | exact ih3 _ _ _ _ _ _ _ _ _ _
   | exact LeO.none _
   | refine LeO.ite ?_ ?_
   | refine LeO.bind ?_ (fun _ => ?_)
  ·intro y0 y1 y2 y3 y4 y5 y6 y7 y8 y9
   unfold falseworklaw6_Great.l1
   repeat' first
   | (with_reducible exact ih0 _ _ _ _)
   | (with_reducible exact ih1 _ _ _ _ _ _ _ _ _ _)
   | (with_reducible exact ih2 _ _ _ _ _ _ _ _ _ _)
   | (with_reducible exact ih3 _ _ _ _ _ _ _ _ _ _)
   | (with_reducible exact LeO.refl _)
   | (with_reducible exact LeO.none _)
   | (with_reducible refine LeO.ite ?_ ?_)
   | (with_reducible refine LeO.bind ?_ (fun _ => ?_))
   | exact ih0 _ _ _ _
   | exact ih1 _ _ _ _ _ _ _ _ _ _
   | exact ih2 _ _ _ _ _ _ _ _ _ _
   | exact ih3 _ _ _ _ _ _ _ _ _ _
   | exact LeO.none _
   | refine LeO.ite ?_ ?_
   | refine LeO.bind ?_ (fun _ => ?_)
  ·intro y0 y1 y2 y3 y4 y5 y6 y7 y8 y9
   unfold falseworklaw6_Great.l2
   repeat' first
   | (with_reducible exact ih0 _ _ _ _)
   | (with_reducible exact ih1 _ _ _ _ _ _ _ _ _ _)
   | (with_reducible exact ih2 _ _ _ _ _ _ _ _ _ _)
   | (with_reducible exact ih3 _ _ _ _ _ _ _ _ _ _)
   | (with_reducible exact LeO.refl _)
   | (with_reducible exact LeO.none _)
   | (with_reducible refine LeO.ite ?_ ?_)
   | (with_reducible refine LeO.bind ?_ (fun _ => ?_))
   | exact ih0 _ _ _ _
   | exact ih1 _ _ _ _ _ _ _ _ _ _
   | exact ih2 _ _ _ _ _ _ _ _ _ _
   | exact ih3 _ _ _ _ _ _ _ _ _ _
   | exact LeO.none _
   | refine LeO.ite ?_ ?_
   | refine LeO.bind ?_ (fun _ => ?_)
theorem falseworklaw6_Great.mono : ∀ a0 a1 a2 k, LeO (falseworklaw6_Great.f k a0 a1 a2) (falseworklaw6_Great.f (k + 1) a0 a1 a2) := by
 intro a0 a1 a2 k
 obtain ⟨ih0, ih1, ih2, ih3⟩ := falseworklaw6_Great.mono_l k
 unfold falseworklaw6_Great.f
 repeat' first
   | (with_reducible exact ih0 _ _ _ _)
   | (with_reducible exact ih1 _ _ _ _ _ _ _ _ _ _)
   | (with_reducible exact ih2 _ _ _ _ _ _ _ _ _ _)
   | (with_reducible exact ih3 _ _ _ _ _ _ _ _ _ _)
   | (with_reducible exact LeO.refl _)
   | (with_reducible exact LeO.none _)
   | (with_reducible refine LeO.ite ?_ ?_)
   | (with_reducible refine LeO.bind ?_ (fun _ => ?_))
   | exact ih0 _ _ _ _
   | exact ih1 _ _ _ _ _ _ _ _ _ _
   | exact ih2 _ _ _ _ _ _ _ _ _ _
   | exact ih3 _ _ _ _ _ _ _ _ _ _
   | exact LeO.none _
   | refine LeO.ite ?_ ?_
   | refine LeO.bind ?_ (fun _ => ?_)
set_option maxHeartbeats 8000000 in
set_option maxRecDepth 100000 in
theorem falseworklaw6_Great.calls (k : Nat) (a0_0 : Int) (A0_1 : Option Addr) (c0_1 : Nat) (l0_1 : List (S70)) (a0_2 : Int) (r : Bool) (w : World) (hr0_1 : Kd.C k70 w A0_1 l0_1.length l0_1) (hc0_1 : l0_1.length ≤ c0_1) (h : falseworklaw6_Great.f k a0_0 l0_1 a0_2 = some r) :
  Calls Tryd.prog 25 #[.agg #[.int .i64 a0_0, .slice A0_1 l0_1.length c0_1, .int .i64 a0_2]] w fun e w' => e = .returned (.bool r) ∧ Below w.heap.size w w' := by
 have hu28 := Tryd.underlying28
 have hu70 := Tryd.underlying70
 have HR0_1 := Aside0.mk hr0_1
 have HC0_1 := Aside0.mk hc0_1
 clear hr0_1 hc0_1
 have HB := Aside0.mk (Below.refl w.heap.size w)
 have H : (if (l0_1.length : Int) > 20 then (some true) else (falseworklaw6_Great.l0 k 0 a0_0 l0_1 a0_2)) = some r := h
 clear h
 by_cases c2 : (l0_1.length : Int) > 20
 ·rw [if_pos c2] at H
  have c2b0 : decide (20 < (l0_1.length : Int)) = true := decide_eq_true c2
  have c2b1 : decide (20 < l0_1.length) = true := decide_eq_true (by omega)
  clear c2
  obtain rfl := Option.some.inj H
  go_enter Tryd.func25, Tryd.ntmps25
  go_wp2_with (first | ((with_reducible refine gate_dst (N := 1) rfl ?_); (try (refine gate_guard (by rfl) ?_; dsimp only)); refine box_event ?hg (N := 1) ?hd (cs := #[.int .i64 a0_0, .slice A0_1 l0_1.length c0_1, .int .i64 a0_2]) (t := 28) ?hr ?_; (case hd => rfl); (case hg => rfl); (case hr => first | (go_simp; done) | (go_simp; rfl)); intro gb324 hg w3 hbox hb; have n0_ := Aside0.mk (below_step (by repeat (first | (with_reducible first | exact HB.out | apply below_alloc | apply pw_below_drewN | apply below_drew1) | exact HB.out)) hb); have n1_ := Aside0.mk (hbox); have n2_ := Aside0.mk ((by rw [hg]; exact (below_size (by repeat (first | (with_reducible first | exact HB.out | apply below_alloc | apply pw_below_drewN | apply below_drew1) | exact HB.out))) : w.heap.size ≤ gb324)); have n3_ := Aside0.mk ((by rw [hg]; exact (below_size (by repeat (first | (with_reducible first | exact HB.out | apply below_alloc | apply pw_below_drewN | apply below_drew1) | exact HB.out))) : w.heap.size ≤ gb324)); clear HB; have HB := n0_; have BK324 := n1_; have GW324 := n2_; have GE324 := n3_; clear n0_ n1_ n2_ n3_; clear hb hbox hg; have hcz4_0 : w3.cell? ⟨gb324, 0, none⟩ = some (.int .i64 a0_0) := (blk_cell BK324.out 0).trans rfl; have hcz4_1 : w3.cell? ⟨gb324, 1, none⟩ = some (.slice A0_1 l0_1.length c0_1) := (blk_cell BK324.out 1).trans rfl; have hcz4_2 : w3.cell? ⟨gb324, 2, none⟩ = some (.int .i64 a0_2) := (blk_cell BK324.out 2).trans rfl; have hfz4_0 := blk_frozen BK324.out 0; have hfz4_1 := blk_frozen BK324.out 1; have hfz4_2 := blk_frozen BK324.out 2))
  go_ret
  exact ⟨by first | rfl | (simp [errW_none, errW_some] <;> rfl) | (simp [*, errW_none, errW_some] <;> rfl), by repeat (first | (with_reducible first | exact HB.out | apply below_alloc | apply pw_below_drewN | apply below_drew1 | refine below_set ?_ GE324.out) | exact HB.out)⟩
 ·rw [if_neg c2] at H
  have c2b0 : decide (20 < (l0_1.length : Int)) = false := decide_eq_false c2
  have c2b1 : decide (20 < l0_1.length) = false := decide_eq_false (by omega)
  clear c2
  have H' := Aside0.mk H
  clear H
  go_enter Tryd.func25, Tryd.ntmps25
  go_wp2_with (first | ((with_reducible refine gate_dst (N := 1) rfl ?_); (try (refine gate_guard (by rfl) ?_; dsimp only)); refine box_event ?hg (N := 1) ?hd (cs := #[.int .i64 a0_0, .slice A0_1 l0_1.length c0_1, .int .i64 a0_2]) (t := 28) ?hr ?_; (case hd => rfl); (case hg => rfl); (case hr => first | (go_simp; done) | (go_simp; rfl)); intro gb324 hg w5 hbox hb; have n0_ := Aside0.mk (below_step (by repeat (first | (with_reducible first | exact HB.out | apply below_alloc | apply pw_below_drewN | apply below_drew1) | exact HB.out)) hb); have n1_ := Aside0.mk (hbox); have n2_ := Aside0.mk ((by rw [hg]; exact (below_size (by repeat (first | (with_reducible first | exact HB.out | apply below_alloc | apply pw_below_drewN | apply below_drew1) | exact HB.out))) : w.heap.size ≤ gb324)); have n3_ := Aside0.mk ((by rw [hg]; exact (below_size (by repeat (first | (with_reducible first | exact HB.out | apply below_alloc | apply pw_below_drewN | apply below_drew1) | exact HB.out))) : w.heap.size ≤ gb324)); clear HB; have HB := n0_; have BK324 := n1_; have GW324 := n2_; have GE324 := n3_; clear n0_ n1_ n2_ n3_; clear hb hbox hg; have hcz6_0 : w5.cell? ⟨gb324, 0, none⟩ = some (.int .i64 a0_0) := (blk_cell BK324.out 0).trans rfl; have hcz6_1 : w5.cell? ⟨gb324, 1, none⟩ = some (.slice A0_1 l0_1.length c0_1) := (blk_cell BK324.out 1).trans rfl; have hcz6_2 : w5.cell? ⟨gb324, 2, none⟩ = some (.int .i64 a0_2) := (blk_cell BK324.out 2).trans rfl; have hfz6_0 := blk_frozen BK324.out 0; have hfz6_1 := blk_frozen BK324.out 1; have hfz6_2 := blk_frozen BK324.out 2))
  go_loopg [3] k (fun kq v3 w' => ∃ (x3_1 : Int), v3 = .int .i64 x3_1 ∧ Aside0 (falseworklaw6_Great.l0 kq x3_1 a0_0 l0_1 a0_2 = some r) ∧ Aside0 (kq ≤ k) ∧ Aside0 (w'.heap[gb324]? = some (.cells #[.int .i64 a0_0, (.slice A0_1 l0_1.length c0_1), .int .i64 a0_2] 28 (0, 0))) ∧ Aside0 (Below w.heap.size w w'))
  case atStart => exact ⟨(0), (by first | rfl | (simp; done) | (simp [*]; done)), H', ⟨Nat.le_refl _⟩, ⟨by (with_reducible repeat (first | refine blk_drewN ?_ _ | refine blk_drew ?_ | refine blk_alloc ?_ _)); exact BK324.out⟩, ⟨by repeat (first | (with_reducible first | exact HB.out | apply below_alloc | apply pw_below_drewN | apply below_drew1 | refine below_set ?_ GE324.out) | exact HB.out)⟩⟩
  case round =>
   clear H'
   try clear c2
   try clear c2b0
   try clear c2b1
   try clear p2
   try clear hcz4_0
   try clear hcz4_1
   try clear hcz4_2
   try clear hcz6_0
   try clear hcz6_1
   try clear hcz6_2
   try clear hfz4_0
   try clear hfz4_1
   try clear hfz4_2
   try clear hfz6_0
   try clear hfz6_1
   try clear hfz6_2
   obtain ⟨x3_1, rfl, HA, HK1, BK324, HB⟩ := hrel
   cases gk with
   | zero => exact absurd HA.out (by simp [falseworklaw6_Great.l0])
   | succ k1 =>
    have H := HA.out
    clear HA
    simp only [falseworklaw6_Great.l0] at H
    by_cases c7 : x3_1 < (l0_1.length : Int)
    ·rw [if_pos c7] at H
     have c7b0 : decide (x3_1 < (l0_1.length : Int)) = true := decide_eq_true c7
     clear c7
     by_cases c8 : 0 ≤ x3_1
     ·rw [if_pos c8] at H
      have c8b0 : decide (0 ≤ x3_1) = true := decide_eq_true c8
      clear c8
      have HC9 := Aside0.mk H
      clear H
      have hcz10_0 : wr.cell? ⟨gb324, 0, none⟩ = some (.int .i64 a0_0) := (blk_cell BK324.out 0).trans rfl
      have hcz10_1 : wr.cell? ⟨gb324, 1, none⟩ = some (.slice A0_1 l0_1.length c0_1) := (blk_cell BK324.out 1).trans rfl
      have hcz10_2 : wr.cell? ⟨gb324, 2, none⟩ = some (.int .i64 a0_2) := (blk_cell BK324.out 2).trans rfl
      have hfz10_0 := blk_frozen BK324.out 0
      have hfz10_1 := blk_frozen BK324.out 1
      have hfz10_2 := blk_frozen BK324.out 2
      have p325 : 0 ≤ (x3_1 : Int) := of_decide_eq_true (by first | (with_reducible assumption) | assumption)
      have q325 : x3_1 < (l0_1.length : Int) := of_decide_eq_true (by first | (with_reducible assumption) | assumption)
      obtain ⟨ad325, A325_2, c325_2, A325_3, c325_3, e325, hx325_0, hx325_1, hx325_2, hx325_3, hx325_4, hl325_2, hi325_2, hl325_3, hi325_3⟩ := at_T70 HR0_1.out x3_1 p325 q325
      cases e325
      replace hx325_0 := (HB.out.cell (World.block_lt_of_cell? w _ hx325_0)).trans hx325_0
      replace hx325_1 := (HB.out.cell (World.block_lt_of_cell? w _ hx325_1)).trans hx325_1
      replace hx325_2 := (HB.out.cell (World.block_lt_of_cell? w _ hx325_2)).trans hx325_2
      replace hx325_3 := (HB.out.cell (World.block_lt_of_cell? w _ hx325_3)).trans hx325_3
      replace hx325_4 := (HB.out.cell (World.block_lt_of_cell? w _ hx325_4)).trans hx325_4
      have HR325_2 := Aside0.mk hi325_2
      have HC325_2 := Aside0.mk hl325_2
      clear hi325_2 hl325_2
      have HR325_3 := Aside0.mk hi325_3
      have HC325_3 := Aside0.mk hl325_3
      clear hi325_3 hl325_3
      replace p325 := eq_true p325
      replace q325 := eq_true q325
      go_upto_region 7 with (first | ((with_reducible refine gate_dst (N := 4) rfl ?_); (try (refine gate_guard (by rfl) ?_; dsimp only)); refine box_event ?hg (N := 4) ?hd (cs := #[.int .i64 0, .string (⟨#[]⟩ : ByteArray), .slice none 0 0, .slice none 0 0, .int .i64 0]) (t := 70) ?hr ?_; (case hd => rfl); (case hg => rfl); (case hr => first | (go_simp; done) | (go_simp; rfl)); intro gb326 hg w11 hbox hb; have n0_ := Aside0.mk (blk_below (g := gb324) (o := .cells #[.int .i64 a0_0, .slice (some ad325) l0_1.length c0_1, .int .i64 a0_2] 28 (0, 0)) (by (with_reducible repeat (first | refine blk_drewN ?_ _ | refine blk_drew ?_ | refine blk_alloc ?_ _)); exact BK324.out) hb); have n1_ := Aside0.mk (below_step (by repeat (first | (with_reducible first | exact HB.out | apply below_alloc | apply pw_below_drewN | apply below_drew1 | refine below_set ?_ GE324.out) | exact HB.out)) hb); have n2_ := Aside0.mk (hbox); have n3_ := Aside0.mk ((by rw [hg]; exact (below_size (by repeat (first | (with_reducible first | exact HB.out | apply below_alloc | apply pw_below_drewN | apply below_drew1 | refine below_set ?_ GE324.out) | exact HB.out))) : w.heap.size ≤ gb326)); have n4_ := Aside0.mk ((by rw [hg]; exact (below_size (by repeat (first | (with_reducible first | exact HB.out | apply below_alloc | apply pw_below_drewN | apply below_drew1 | refine below_set ?_ GE324.out) | exact HB.out))) : w.heap.size ≤ gb326)); have n5_ := Aside0.mk ((by rw [hg]; exact Nat.ne_of_lt (blk_lt (g := gb324) (o := .cells #[.int .i64 a0_0, .slice (some ad325) l0_1.length c0_1, .int .i64 a0_2] 28 (0, 0)) (by (with_reducible repeat (first | refine blk_drewN ?_ _ | refine blk_drew ?_ | refine blk_alloc ?_ _)); exact BK324.out)) : gb324 ≠ gb326)); have n6_ := Aside0.mk ((by rw [hg]; exact Nat.ne_of_gt (blk_lt (g := gb324) (o := .cells #[.int .i64 a0_0, .slice (some ad325) l0_1.length c0_1, .int .i64 a0_2] 28 (0, 0)) (by (with_reducible repeat (first | refine blk_drewN ?_ _ | refine blk_drew ?_ | refine blk_alloc ?_ _)); exact BK324.out)) : gb326 ≠ gb324)); clear BK324; clear HB; have BK324 := n0_; have HB := n1_; have BK326 := n2_; have GW326 := n3_; have GE326 := n4_; have NB324_326 := n5_; have NB326_324 := n6_; clear n0_ n1_ n2_ n3_ n4_ n5_ n6_; clear hb hbox hg; have hnb12 := NB326_324.out; have hnc12 := NB324_326.out; have hcz13_0 : w11.cell? ⟨gb326, 0, none⟩ = some (.int .i64 0) := (blk_cell BK326.out 0).trans rfl; have hcz13_1 : w11.cell? ⟨gb326, 1, none⟩ = some (.string (⟨#[]⟩ : ByteArray)) := (blk_cell BK326.out 1).trans rfl; have hcz13_2 : w11.cell? ⟨gb326, 2, none⟩ = some (.slice none 0 0) := (blk_cell BK326.out 2).trans rfl; have hcz13_3 : w11.cell? ⟨gb326, 3, none⟩ = some (.slice none 0 0) := (blk_cell BK326.out 3).trans rfl; have hcz13_4 : w11.cell? ⟨gb326, 4, none⟩ = some (.int .i64 0) := (blk_cell BK326.out 4).trans rfl; have hfz13_0 := blk_frozen BK326.out 0; have hfz13_1 := blk_frozen BK326.out 1; have hfz13_2 := blk_frozen BK326.out 2; have hfz13_3 := blk_frozen BK326.out 3; have hfz13_4 := blk_frozen BK326.out 4))
      (try simp only [Act.put, List.setIfInBounds_toArray, List.set_cons_zero, List.set_cons_succ])
      go_cut [38] (fun v38 wc => ∃ (kq : Nat) (x38_8 : Bool), v38 = .bool x38_8 ∧ Aside0 (falseworklaw6_Great.j1 kq x3_1 x38_8 a0_0 l0_1 a0_2 ((rd_T70 l0_1 x3_1).f0) ((rd_T70 l0_1 x3_1).f1) ((rd_T70 l0_1 x3_1).f2) ((rd_T70 l0_1 x3_1).f3) ((rd_T70 l0_1 x3_1).f4) = some r) ∧ Aside0 (kq ≤ k1) ∧ Aside0 (wc.heap[gb324]? = some (.cells #[.int .i64 a0_0, (.slice (some ad325) l0_1.length c0_1), .int .i64 a0_2] 28 (0, 0))) ∧ Aside0 (wc.heap[gb326]? = some (.cells #[.int .i64 ((rd_T70 l0_1 x3_1).f0), .string ((rd_T70 l0_1 x3_1).f1), (.slice A325_2 ((rd_T70 l0_1 x3_1).f2).length c325_2), (.slice A325_3 ((rd_T70 l0_1 x3_1).f3).length c325_3), .int .i64 ((rd_T70 l0_1 x3_1).f4)] 70 (0, 0))) ∧ Aside0 (Below w.heap.size w wc))
      case first =>
       have H := HC9.out
       clear HC9
       by_cases c14 : (((rd_T70 l0_1 x3_1).f1).size : Int) > 1000
       ·rw [if_pos c14] at H
        have c14b0 : decide (1000 < (((rd_T70 l0_1 x3_1).f1).size : Int)) = true := decide_eq_true c14
        have c14b1 : decide (1000 < ((rd_T70 l0_1 x3_1).f1).size) = true := decide_eq_true (by omega)
        clear c14
        (first | rw [c14b0] | (simp only [i64_w, i32_w]; rw [c14b0]) | skip)
        have H' := Aside0.mk H
        clear H
        have hnb15 := NB326_324.out
        have hnc15 := NB324_326.out
        have hcz16_0 : w11.cell? ⟨gb326, 0, none⟩ = some (.int .i64 0) := (blk_cell BK326.out 0).trans rfl
        have hcz16_1 : w11.cell? ⟨gb326, 1, none⟩ = some (.string (⟨#[]⟩ : ByteArray)) := (blk_cell BK326.out 1).trans rfl
        have hcz16_2 : w11.cell? ⟨gb326, 2, none⟩ = some (.slice none 0 0) := (blk_cell BK326.out 2).trans rfl
        have hcz16_3 : w11.cell? ⟨gb326, 3, none⟩ = some (.slice none 0 0) := (blk_cell BK326.out 3).trans rfl
        have hcz16_4 : w11.cell? ⟨gb326, 4, none⟩ = some (.int .i64 0) := (blk_cell BK326.out 4).trans rfl
        have hfz16_0 := blk_frozen BK326.out 0
        have hfz16_1 := blk_frozen BK326.out 1
        have hfz16_2 := blk_frozen BK326.out 2
        have hfz16_3 := blk_frozen BK326.out 3
        have hfz16_4 := blk_frozen BK326.out 4
        go_wp2
        go_meet
        case rel => exact ⟨_, (true), (by first | rfl | (simp; done) | (simp [*]; done)), H', ⟨by have := HK1.out; first | omega | exact Nat.le_refl _⟩, ⟨by (with_reducible repeat (first | refine blk_drewN ?_ _ | refine blk_drew ?_ | refine blk_alloc ?_ _)); refine blk_far ?_ NB324_326.out _; (with_reducible repeat (first | refine blk_drewN ?_ _ | refine blk_drew ?_ | refine blk_alloc ?_ _)); refine blk_far ?_ NB324_326.out _; (with_reducible repeat (first | refine blk_drewN ?_ _ | refine blk_drew ?_ | refine blk_alloc ?_ _)); refine blk_far ?_ NB324_326.out _; (with_reducible repeat (first | refine blk_drewN ?_ _ | refine blk_drew ?_ | refine blk_alloc ?_ _)); refine blk_far ?_ NB324_326.out _; (with_reducible repeat (first | refine blk_drewN ?_ _ | refine blk_drew ?_ | refine blk_alloc ?_ _)); refine blk_far ?_ NB324_326.out _; (with_reducible repeat (first | refine blk_drewN ?_ _ | refine blk_drew ?_ | refine blk_alloc ?_ _)); exact BK324.out⟩, ⟨by (with_reducible repeat (first | refine blk_drewN ?_ _ | refine blk_drew ?_ | refine blk_alloc ?_ _)); refine blk_put (cs := #[.int .i64 ((rd_T70 l0_1 x3_1).f0), .string ((rd_T70 l0_1 x3_1).f1), .slice A325_2 ((rd_T70 l0_1 x3_1).f2).length c325_2, .slice A325_3 ((rd_T70 l0_1 x3_1).f3).length c325_3, .int .i64 0]) ?_ 4 _ rfl; (with_reducible repeat (first | refine blk_drewN ?_ _ | refine blk_drew ?_ | refine blk_alloc ?_ _)); refine blk_put (cs := #[.int .i64 ((rd_T70 l0_1 x3_1).f0), .string ((rd_T70 l0_1 x3_1).f1), .slice A325_2 ((rd_T70 l0_1 x3_1).f2).length c325_2, .slice none 0 0, .int .i64 0]) ?_ 3 _ rfl; (with_reducible repeat (first | refine blk_drewN ?_ _ | refine blk_drew ?_ | refine blk_alloc ?_ _)); refine blk_put (cs := #[.int .i64 ((rd_T70 l0_1 x3_1).f0), .string ((rd_T70 l0_1 x3_1).f1), .slice none 0 0, .slice none 0 0, .int .i64 0]) ?_ 2 _ rfl; (with_reducible repeat (first | refine blk_drewN ?_ _ | refine blk_drew ?_ | refine blk_alloc ?_ _)); refine blk_put (cs := #[.int .i64 ((rd_T70 l0_1 x3_1).f0), .string (⟨#[]⟩ : ByteArray), .slice none 0 0, .slice none 0 0, .int .i64 0]) ?_ 1 _ rfl; (with_reducible repeat (first | refine blk_drewN ?_ _ | refine blk_drew ?_ | refine blk_alloc ?_ _)); refine blk_put (cs := #[.int .i64 0, .string (⟨#[]⟩ : ByteArray), .slice none 0 0, .slice none 0 0, .int .i64 0]) ?_ 0 _ rfl; (with_reducible repeat (first | refine blk_drewN ?_ _ | refine blk_drew ?_ | refine blk_alloc ?_ _)); exact BK326.out⟩, ⟨by repeat (first | (with_reducible first | exact HB.out | apply below_alloc | apply pw_below_drewN | apply below_drew1 | refine below_set ?_ GE324.out | refine below_set ?_ GE326.out) | exact HB.out)⟩⟩
       ·rw [if_neg c14] at H
        have c14b0 : decide (1000 < (((rd_T70 l0_1 x3_1).f1).size : Int)) = false := decide_eq_false c14
        have c14b1 : decide (1000 < ((rd_T70 l0_1 x3_1).f1).size) = false := decide_eq_false (by omega)
        clear c14
        (first | rw [c14b0] | (simp only [i64_w, i32_w]; rw [c14b0]) | skip)
        by_cases c17 : (((rd_T70 l0_1 x3_1).f2).length : Int) > 50
        ·rw [if_pos c17] at H
         have c17b0 : decide (50 < (((rd_T70 l0_1 x3_1).f2).length : Int)) = true := decide_eq_true c17
         have c17b1 : decide (50 < ((rd_T70 l0_1 x3_1).f2).length) = true := decide_eq_true (by omega)
         clear c17
         have H' := Aside0.mk H
         clear H
         have hnb18 := NB326_324.out
         have hnc18 := NB324_326.out
         have hcz19_0 : w11.cell? ⟨gb326, 0, none⟩ = some (.int .i64 0) := (blk_cell BK326.out 0).trans rfl
         have hcz19_1 : w11.cell? ⟨gb326, 1, none⟩ = some (.string (⟨#[]⟩ : ByteArray)) := (blk_cell BK326.out 1).trans rfl
         have hcz19_2 : w11.cell? ⟨gb326, 2, none⟩ = some (.slice none 0 0) := (blk_cell BK326.out 2).trans rfl
         have hcz19_3 : w11.cell? ⟨gb326, 3, none⟩ = some (.slice none 0 0) := (blk_cell BK326.out 3).trans rfl
         have hcz19_4 : w11.cell? ⟨gb326, 4, none⟩ = some (.int .i64 0) := (blk_cell BK326.out 4).trans rfl
         have hfz19_0 := blk_frozen BK326.out 0
         have hfz19_1 := blk_frozen BK326.out 1
         have hfz19_2 := blk_frozen BK326.out 2
         have hfz19_3 := blk_frozen BK326.out 3
         have hfz19_4 := blk_frozen BK326.out 4
         go_wp2
         go_meet
         case rel => exact ⟨_, (true), (by first | rfl | (simp; done) | (simp [*]; done)), H', ⟨by have := HK1.out; first | omega | exact Nat.le_refl _⟩, ⟨by (with_reducible repeat (first | refine blk_drewN ?_ _ | refine blk_drew ?_ | refine blk_alloc ?_ _)); refine blk_far ?_ NB324_326.out _; (with_reducible repeat (first | refine blk_drewN ?_ _ | refine blk_drew ?_ | refine blk_alloc ?_ _)); refine blk_far ?_ NB324_326.out _; (with_reducible repeat (first | refine blk_drewN ?_ _ | refine blk_drew ?_ | refine blk_alloc ?_ _)); refine blk_far ?_ NB324_326.out _; (with_reducible repeat (first | refine blk_drewN ?_ _ | refine blk_drew ?_ | refine blk_alloc ?_ _)); refine blk_far ?_ NB324_326.out _; (with_reducible repeat (first | refine blk_drewN ?_ _ | refine blk_drew ?_ | refine blk_alloc ?_ _)); refine blk_far ?_ NB324_326.out _; (with_reducible repeat (first | refine blk_drewN ?_ _ | refine blk_drew ?_ | refine blk_alloc ?_ _)); exact BK324.out⟩, ⟨by (with_reducible repeat (first | refine blk_drewN ?_ _ | refine blk_drew ?_ | refine blk_alloc ?_ _)); refine blk_put (cs := #[.int .i64 ((rd_T70 l0_1 x3_1).f0), .string ((rd_T70 l0_1 x3_1).f1), .slice A325_2 ((rd_T70 l0_1 x3_1).f2).length c325_2, .slice A325_3 ((rd_T70 l0_1 x3_1).f3).length c325_3, .int .i64 0]) ?_ 4 _ rfl; (with_reducible repeat (first | refine blk_drewN ?_ _ | refine blk_drew ?_ | refine blk_alloc ?_ _)); refine blk_put (cs := #[.int .i64 ((rd_T70 l0_1 x3_1).f0), .string ((rd_T70 l0_1 x3_1).f1), .slice A325_2 ((rd_T70 l0_1 x3_1).f2).length c325_2, .slice none 0 0, .int .i64 0]) ?_ 3 _ rfl; (with_reducible repeat (first | refine blk_drewN ?_ _ | refine blk_drew ?_ | refine blk_alloc ?_ _)); refine blk_put (cs := #[.int .i64 ((rd_T70 l0_1 x3_1).f0), .string ((rd_T70 l0_1 x3_1).f1), .slice none 0 0, .slice none 0 0, .int .i64 0]) ?_ 2 _ rfl; (with_reducible repeat (first | refine blk_drewN ?_ _ | refine blk_drew ?_ | refine blk_alloc ?_ _)); refine blk_put (cs := #[.int .i64 ((rd_T70 l0_1 x3_1).f0), .string (⟨#[]⟩ : ByteArray), .slice none 0 0, .slice none 0 0, .int .i64 0]) ?_ 1 _ rfl; (with_reducible repeat (first | refine blk_drewN ?_ _ | refine blk_drew ?_ | refine blk_alloc ?_ _)); refine blk_put (cs := #[.int .i64 0, .string (⟨#[]⟩ : ByteArray), .slice none 0 0, .slice none 0 0, .int .i64 0]) ?_ 0 _ rfl; (with_reducible repeat (first | refine blk_drewN ?_ _ | refine blk_drew ?_ | refine blk_alloc ?_ _)); exact BK326.out⟩, ⟨by repeat (first | (with_reducible first | exact HB.out | apply below_alloc | apply pw_below_drewN | apply below_drew1 | refine below_set ?_ GE324.out | refine below_set ?_ GE326.out) | exact HB.out)⟩⟩
        ·rw [if_neg c17] at H
         have c17b0 : decide (50 < (((rd_T70 l0_1 x3_1).f2).length : Int)) = false := decide_eq_false c17
         have c17b1 : decide (50 < ((rd_T70 l0_1 x3_1).f2).length) = false := decide_eq_false (by omega)
         clear c17
         have H' := Aside0.mk H
         clear H
         have hnb20 := NB326_324.out
         have hnc20 := NB324_326.out
         have hcz21_0 : w11.cell? ⟨gb326, 0, none⟩ = some (.int .i64 0) := (blk_cell BK326.out 0).trans rfl
         have hcz21_1 : w11.cell? ⟨gb326, 1, none⟩ = some (.string (⟨#[]⟩ : ByteArray)) := (blk_cell BK326.out 1).trans rfl
         have hcz21_2 : w11.cell? ⟨gb326, 2, none⟩ = some (.slice none 0 0) := (blk_cell BK326.out 2).trans rfl
         have hcz21_3 : w11.cell? ⟨gb326, 3, none⟩ = some (.slice none 0 0) := (blk_cell BK326.out 3).trans rfl
         have hcz21_4 : w11.cell? ⟨gb326, 4, none⟩ = some (.int .i64 0) := (blk_cell BK326.out 4).trans rfl
         have hfz21_0 := blk_frozen BK326.out 0
         have hfz21_1 := blk_frozen BK326.out 1
         have hfz21_2 := blk_frozen BK326.out 2
         have hfz21_3 := blk_frozen BK326.out 3
         have hfz21_4 := blk_frozen BK326.out 4
         go_wp2
         go_meet
         case rel => exact ⟨_, (decide ((((rd_T70 l0_1 x3_1).f3).length : Int) > 50)), (by first | rfl | (simp; done) | (simp [*]; done)), H', ⟨by have := HK1.out; first | omega | exact Nat.le_refl _⟩, ⟨by (with_reducible repeat (first | refine blk_drewN ?_ _ | refine blk_drew ?_ | refine blk_alloc ?_ _)); refine blk_far ?_ NB324_326.out _; (with_reducible repeat (first | refine blk_drewN ?_ _ | refine blk_drew ?_ | refine blk_alloc ?_ _)); refine blk_far ?_ NB324_326.out _; (with_reducible repeat (first | refine blk_drewN ?_ _ | refine blk_drew ?_ | refine blk_alloc ?_ _)); refine blk_far ?_ NB324_326.out _; (with_reducible repeat (first | refine blk_drewN ?_ _ | refine blk_drew ?_ | refine blk_alloc ?_ _)); refine blk_far ?_ NB324_326.out _; (with_reducible repeat (first | refine blk_drewN ?_ _ | refine blk_drew ?_ | refine blk_alloc ?_ _)); refine blk_far ?_ NB324_326.out _; (with_reducible repeat (first | refine blk_drewN ?_ _ | refine blk_drew ?_ | refine blk_alloc ?_ _)); exact BK324.out⟩, ⟨by (with_reducible repeat (first | refine blk_drewN ?_ _ | refine blk_drew ?_ | refine blk_alloc ?_ _)); refine blk_put (cs := #[.int .i64 ((rd_T70 l0_1 x3_1).f0), .string ((rd_T70 l0_1 x3_1).f1), .slice A325_2 ((rd_T70 l0_1 x3_1).f2).length c325_2, .slice A325_3 ((rd_T70 l0_1 x3_1).f3).length c325_3, .int .i64 0]) ?_ 4 _ rfl; (with_reducible repeat (first | refine blk_drewN ?_ _ | refine blk_drew ?_ | refine blk_alloc ?_ _)); refine blk_put (cs := #[.int .i64 ((rd_T70 l0_1 x3_1).f0), .string ((rd_T70 l0_1 x3_1).f1), .slice A325_2 ((rd_T70 l0_1 x3_1).f2).length c325_2, .slice none 0 0, .int .i64 0]) ?_ 3 _ rfl; (with_reducible repeat (first | refine blk_drewN ?_ _ | refine blk_drew ?_ | refine blk_alloc ?_ _)); refine blk_put (cs := #[.int .i64 ((rd_T70 l0_1 x3_1).f0), .string ((rd_T70 l0_1 x3_1).f1), .slice none 0 0, .slice none 0 0, .int .i64 0]) ?_ 2 _ rfl; (with_reducible repeat (first | refine blk_drewN ?_ _ | refine blk_drew ?_ | refine blk_alloc ?_ _)); refine blk_put (cs := #[.int .i64 ((rd_T70 l0_1 x3_1).f0), .string (⟨#[]⟩ : ByteArray), .slice none 0 0, .slice none 0 0, .int .i64 0]) ?_ 1 _ rfl; (with_reducible repeat (first | refine blk_drewN ?_ _ | refine blk_drew ?_ | refine blk_alloc ?_ _)); refine blk_put (cs := #[.int .i64 0, .string (⟨#[]⟩ : ByteArray), .slice none 0 0, .slice none 0 0, .int .i64 0]) ?_ 0 _ rfl; (with_reducible repeat (first | refine blk_drewN ?_ _ | refine blk_drew ?_ | refine blk_alloc ?_ _)); exact BK326.out⟩, ⟨by repeat (first | (with_reducible first | exact HB.out | apply below_alloc | apply pw_below_drewN | apply below_drew1 | refine below_set ?_ GE324.out | refine below_set ?_ GE326.out) | exact HB.out)⟩⟩
      case rest =>
       clear HC9
       try clear c1
       try clear c2
       try clear c2b0
       try clear c2b1
       try clear p2
       try clear c3
       try clear p3
       try clear q3
       try clear hx3
       try clear c7
       try clear c7b0
       try clear c8
       try clear c8b0
       try clear c12
       try clear c14
       try clear c14b0
       try clear c14b1
       try clear c15
       try clear c17
       try clear c17b0
       try clear c17b1
       try clear c18
       try clear c20
       try clear hcz10_0
       try clear hcz10_1
       try clear hcz10_2
       try clear hcz13_0
       try clear hcz13_1
       try clear hcz13_2
       try clear hcz13_3
       try clear hcz13_4
       try clear hcz16_0
       try clear hcz16_1
       try clear hcz16_2
       try clear hcz16_3
       try clear hcz16_4
       try clear hcz19_0
       try clear hcz19_1
       try clear hcz19_2
       try clear hcz19_3
       try clear hcz19_4
       try clear hcz21_0
       try clear hcz21_1
       try clear hcz21_2
       try clear hcz21_3
       try clear hcz21_4
       try clear hcz4_0
       try clear hcz4_1
       try clear hcz4_2
       try clear hcz6_0
       try clear hcz6_1
       try clear hcz6_2
       try clear hfz10_0
       try clear hfz10_1
       try clear hfz10_2
       try clear hfz13_0
       try clear hfz13_1
       try clear hfz13_2
       try clear hfz13_3
       try clear hfz13_4
       try clear hfz16_0
       try clear hfz16_1
       try clear hfz16_2
       try clear hfz16_3
       try clear hfz16_4
       try clear hfz19_0
       try clear hfz19_1
       try clear hfz19_2
       try clear hfz19_3
       try clear hfz19_4
       try clear hfz21_0
       try clear hfz21_1
       try clear hfz21_2
       try clear hfz21_3
       try clear hfz21_4
       try clear hfz4_0
       try clear hfz4_1
       try clear hfz4_2
       try clear hfz6_0
       try clear hfz6_1
       try clear hfz6_2
       try clear hx325_0
       try clear hx325_1
       try clear hx325_2
       try clear hx325_3
       try clear hx325_4
       try clear p2
       try clear p325
       try clear q325
       obtain ⟨kq, x38_8, rfl, HA, HJ8, BK324, BK326, HB⟩ := hcut
       cases kq with
       | zero => exact absurd HA.out (by simp [falseworklaw6_Great.j1])
       | succ kj8 =>
        have H := HA.out
        clear HA
        simp only [falseworklaw6_Great.j1] at H
        by_cases c22 : x38_8 = true
        ·subst c22
         have H1 : (some true) = some r := by rw [if_pos rfl] at H; exact H
         clear H
         have H := H1
         clear H1
         obtain rfl := Option.some.inj H
         go_wp2
         go_ret
         exact ⟨by first | rfl | (simp [errW_none, errW_some] <;> rfl) | (simp [*, errW_none, errW_some] <;> rfl), by repeat (first | (with_reducible first | exact HB.out | apply below_alloc | apply pw_below_drewN | apply below_drew1 | refine below_set ?_ GE324.out | refine below_set ?_ GE326.out) | exact HB.out)⟩
        ·replace c22 := Bool.eq_false_iff.mpr c22
         subst c22
         have H1 : (falseworklaw6_Great.l1 kj8 x3_1 0 a0_0 l0_1 a0_2 ((rd_T70 l0_1 x3_1).f0) ((rd_T70 l0_1 x3_1).f1) ((rd_T70 l0_1 x3_1).f2) ((rd_T70 l0_1 x3_1).f3) ((rd_T70 l0_1 x3_1).f4)) = some r := by rw [if_neg (show ¬ (false = true) by decide)] at H; exact H
         clear H
         have H := H1
         clear H1
         have H' := Aside0.mk H
         clear H
         go_wp2
         go_loopg [5] kj8 (fun kq v5 w' => ∃ (x5_3 : Int), v5 = .int .i64 x5_3 ∧ Aside0 (falseworklaw6_Great.l1 kq x3_1 x5_3 a0_0 l0_1 a0_2 ((rd_T70 l0_1 x3_1).f0) ((rd_T70 l0_1 x3_1).f1) ((rd_T70 l0_1 x3_1).f2) ((rd_T70 l0_1 x3_1).f3) ((rd_T70 l0_1 x3_1).f4) = some r) ∧ Aside0 (kq ≤ kj8) ∧ Aside0 (w'.heap[gb324]? = some (.cells #[.int .i64 a0_0, (.slice (some ad325) l0_1.length c0_1), .int .i64 a0_2] 28 (0, 0))) ∧ Aside0 (w'.heap[gb326]? = some (.cells #[.int .i64 ((rd_T70 l0_1 x3_1).f0), .string ((rd_T70 l0_1 x3_1).f1), (.slice A325_2 ((rd_T70 l0_1 x3_1).f2).length c325_2), (.slice A325_3 ((rd_T70 l0_1 x3_1).f3).length c325_3), .int .i64 ((rd_T70 l0_1 x3_1).f4)] 70 (0, 0))) ∧ Aside0 (Below w.heap.size w w'))
         case atStart => exact ⟨(0), (by first | rfl | (simp; done) | (simp [*]; done)), H', ⟨Nat.le_refl _⟩, ⟨by (with_reducible repeat (first | refine blk_drewN ?_ _ | refine blk_drew ?_ | refine blk_alloc ?_ _)); exact BK324.out⟩, ⟨by (with_reducible repeat (first | refine blk_drewN ?_ _ | refine blk_drew ?_ | refine blk_alloc ?_ _)); exact BK326.out⟩, ⟨by repeat (first | (with_reducible first | exact HB.out | apply below_alloc | apply pw_below_drewN | apply below_drew1 | refine below_set ?_ GE324.out | refine below_set ?_ GE326.out) | exact HB.out)⟩⟩
         case round =>
          clear H'
          try clear c1
          try clear c2
          try clear c2b0
          try clear c2b1
          try clear p2
          try clear c3
          try clear p3
          try clear q3
          try clear hx3
          try clear c7
          try clear c7b0
          try clear c8
          try clear c8b0
          try clear c12
          try clear c14
          try clear c14b0
          try clear c14b1
          try clear c15
          try clear c17
          try clear c17b0
          try clear c17b1
          try clear c18
          try clear c20
          try clear c22
          try clear hcz10_0
          try clear hcz10_1
          try clear hcz10_2
          try clear hcz13_0
          try clear hcz13_1
          try clear hcz13_2
          try clear hcz13_3
          try clear hcz13_4
          try clear hcz16_0
          try clear hcz16_1
          try clear hcz16_2
          try clear hcz16_3
          try clear hcz16_4
          try clear hcz19_0
          try clear hcz19_1
          try clear hcz19_2
          try clear hcz19_3
          try clear hcz19_4
          try clear hcz21_0
          try clear hcz21_1
          try clear hcz21_2
          try clear hcz21_3
          try clear hcz21_4
          try clear hcz4_0
          try clear hcz4_1
          try clear hcz4_2
          try clear hcz6_0
          try clear hcz6_1
          try clear hcz6_2
          try clear hfz10_0
          try clear hfz10_1
          try clear hfz10_2
          try clear hfz13_0
          try clear hfz13_1
          try clear hfz13_2
          try clear hfz13_3
          try clear hfz13_4
          try clear hfz16_0
          try clear hfz16_1
          try clear hfz16_2
          try clear hfz16_3
          try clear hfz16_4
          try clear hfz19_0
          try clear hfz19_1
          try clear hfz19_2
          try clear hfz19_3
          try clear hfz19_4
          try clear hfz21_0
          try clear hfz21_1
          try clear hfz21_2
          try clear hfz21_3
          try clear hfz21_4
          try clear hfz4_0
          try clear hfz4_1
          try clear hfz4_2
          try clear hfz6_0
          try clear hfz6_1
          try clear hfz6_2
          try clear hx325_0
          try clear hx325_1
          try clear hx325_2
          try clear hx325_3
          try clear hx325_4
          try clear p2
          try clear p3
          try clear p325
          try clear q3
          try clear q325
          obtain ⟨x5_3, rfl, HA, HK3, BK324, BK326, HB⟩ := hrel
          cases gk with
          | zero => exact absurd HA.out (by simp [falseworklaw6_Great.l1])
          | succ k3 =>
           have H := HA.out
           clear HA
           simp only [falseworklaw6_Great.l1] at H
           by_cases c23 : x5_3 < (((rd_T70 l0_1 x3_1).f2).length : Int)
           ·rw [if_pos c23] at H
            have c23b0 : decide (x5_3 < (((rd_T70 l0_1 x3_1).f2).length : Int)) = true := decide_eq_true c23
            clear c23
            by_cases c24 : 0 ≤ x5_3
            ·rw [if_pos c24] at H
             have c24b0 : decide (0 ≤ x5_3) = true := decide_eq_true c24
             clear c24
             by_cases c25 : (((rd_T75 ((rd_T70 l0_1 x3_1).f2) x5_3).f1).size : Int) > 1000
             ·rw [if_pos c25] at H
              have c25b0 : decide (1000 < (((rd_T75 ((rd_T70 l0_1 x3_1).f2) x5_3).f1).size : Int)) = true := decide_eq_true c25
              have c25b1 : decide (1000 < ((rd_T75 ((rd_T70 l0_1 x3_1).f2) x5_3).f1).size) = true := decide_eq_true (by omega)
              clear c25
              obtain rfl := Option.some.inj H
              have hnb26 := NB326_324.out
              have hnc26 := NB324_326.out
              have hcz27_0 : wr.cell? ⟨gb326, 0, none⟩ = some (.int .i64 ((rd_T70 l0_1 x3_1).f0)) := (blk_cell BK326.out 0).trans rfl
              have hcz27_1 : wr.cell? ⟨gb326, 1, none⟩ = some (.string ((rd_T70 l0_1 x3_1).f1)) := (blk_cell BK326.out 1).trans rfl
              have hcz27_2 : wr.cell? ⟨gb326, 2, none⟩ = some (.slice A325_2 ((rd_T70 l0_1 x3_1).f2).length c325_2) := (blk_cell BK326.out 2).trans rfl
              have hcz27_3 : wr.cell? ⟨gb326, 3, none⟩ = some (.slice A325_3 ((rd_T70 l0_1 x3_1).f3).length c325_3) := (blk_cell BK326.out 3).trans rfl
              have hcz27_4 : wr.cell? ⟨gb326, 4, none⟩ = some (.int .i64 ((rd_T70 l0_1 x3_1).f4)) := (blk_cell BK326.out 4).trans rfl
              have hfz27_0 := blk_frozen BK326.out 0
              have hfz27_1 := blk_frozen BK326.out 1
              have hfz27_2 := blk_frozen BK326.out 2
              have hfz27_3 := blk_frozen BK326.out 3
              have hfz27_4 := blk_frozen BK326.out 4
              have p327 : 0 ≤ (x5_3 : Int) := of_decide_eq_true (by first | (with_reducible assumption) | assumption)
              have q327 : x5_3 < (((rd_T70 l0_1 x3_1).f2).length : Int) := of_decide_eq_true (by first | (with_reducible assumption) | assumption)
              obtain ⟨ad327, e327, hx327_0, hx327_1, hx327_2, hx327_3, hx327_4, hx327_5, hx327_6, hx327_7, hx327_8⟩ := at_T75 HR325_2.out x5_3 p327 q327
              cases e327
              replace hx327_0 := (HB.out.cell (World.block_lt_of_cell? w _ hx327_0)).trans hx327_0
              replace hx327_1 := (HB.out.cell (World.block_lt_of_cell? w _ hx327_1)).trans hx327_1
              replace hx327_2 := (HB.out.cell (World.block_lt_of_cell? w _ hx327_2)).trans hx327_2
              replace hx327_3 := (HB.out.cell (World.block_lt_of_cell? w _ hx327_3)).trans hx327_3
              replace hx327_4 := (HB.out.cell (World.block_lt_of_cell? w _ hx327_4)).trans hx327_4
              replace hx327_5 := (HB.out.cell (World.block_lt_of_cell? w _ hx327_5)).trans hx327_5
              replace hx327_6 := (HB.out.cell (World.block_lt_of_cell? w _ hx327_6)).trans hx327_6
              replace hx327_7 := (HB.out.cell (World.block_lt_of_cell? w _ hx327_7)).trans hx327_7
              replace hx327_8 := (HB.out.cell (World.block_lt_of_cell? w _ hx327_8)).trans hx327_8
              replace p327 := eq_true p327
              replace q327 := eq_true q327
              go_wp2
              go_ret
              exact ⟨by first | rfl | (simp [errW_none, errW_some] <;> rfl) | (simp [*, errW_none, errW_some] <;> rfl), by repeat (first | (with_reducible first | exact HB.out | apply below_alloc | apply pw_below_drewN | apply below_drew1 | refine below_set ?_ GE324.out | refine below_set ?_ GE326.out) | exact HB.out)⟩
             ·rw [if_neg c25] at H
              have c25b0 : decide (1000 < (((rd_T75 ((rd_T70 l0_1 x3_1).f2) x5_3).f1).size : Int)) = false := decide_eq_false c25
              have c25b1 : decide (1000 < ((rd_T75 ((rd_T70 l0_1 x3_1).f2) x5_3).f1).size) = false := decide_eq_false (by omega)
              clear c25
              by_cases c28 : (((rd_T75 ((rd_T70 l0_1 x3_1).f2) x5_3).f5.f3).size : Int) > 1000
              ·rw [if_pos c28] at H
               have c28b0 : decide (1000 < (((rd_T75 ((rd_T70 l0_1 x3_1).f2) x5_3).f5.f3).size : Int)) = true := decide_eq_true c28
               have c28b1 : decide (1000 < ((rd_T75 ((rd_T70 l0_1 x3_1).f2) x5_3).f5.f3).size) = true := decide_eq_true (by omega)
               clear c28
               obtain rfl := Option.some.inj H
               have hnb29 := NB326_324.out
               have hnc29 := NB324_326.out
               have hcz30_0 : wr.cell? ⟨gb326, 0, none⟩ = some (.int .i64 ((rd_T70 l0_1 x3_1).f0)) := (blk_cell BK326.out 0).trans rfl
               have hcz30_1 : wr.cell? ⟨gb326, 1, none⟩ = some (.string ((rd_T70 l0_1 x3_1).f1)) := (blk_cell BK326.out 1).trans rfl
               have hcz30_2 : wr.cell? ⟨gb326, 2, none⟩ = some (.slice A325_2 ((rd_T70 l0_1 x3_1).f2).length c325_2) := (blk_cell BK326.out 2).trans rfl
               have hcz30_3 : wr.cell? ⟨gb326, 3, none⟩ = some (.slice A325_3 ((rd_T70 l0_1 x3_1).f3).length c325_3) := (blk_cell BK326.out 3).trans rfl
               have hcz30_4 : wr.cell? ⟨gb326, 4, none⟩ = some (.int .i64 ((rd_T70 l0_1 x3_1).f4)) := (blk_cell BK326.out 4).trans rfl
               have hfz30_0 := blk_frozen BK326.out 0
               have hfz30_1 := blk_frozen BK326.out 1
               have hfz30_2 := blk_frozen BK326.out 2
               have hfz30_3 := blk_frozen BK326.out 3
               have hfz30_4 := blk_frozen BK326.out 4
               have p327 : 0 ≤ (x5_3 : Int) := of_decide_eq_true (by first | (with_reducible assumption) | assumption)
               have q327 : x5_3 < (((rd_T70 l0_1 x3_1).f2).length : Int) := of_decide_eq_true (by first | (with_reducible assumption) | assumption)
               obtain ⟨ad327, e327, hx327_0, hx327_1, hx327_2, hx327_3, hx327_4, hx327_5, hx327_6, hx327_7, hx327_8⟩ := at_T75 HR325_2.out x5_3 p327 q327
               cases e327
               replace hx327_0 := (HB.out.cell (World.block_lt_of_cell? w _ hx327_0)).trans hx327_0
               replace hx327_1 := (HB.out.cell (World.block_lt_of_cell? w _ hx327_1)).trans hx327_1
               replace hx327_2 := (HB.out.cell (World.block_lt_of_cell? w _ hx327_2)).trans hx327_2
               replace hx327_3 := (HB.out.cell (World.block_lt_of_cell? w _ hx327_3)).trans hx327_3
               replace hx327_4 := (HB.out.cell (World.block_lt_of_cell? w _ hx327_4)).trans hx327_4
               replace hx327_5 := (HB.out.cell (World.block_lt_of_cell? w _ hx327_5)).trans hx327_5
               replace hx327_6 := (HB.out.cell (World.block_lt_of_cell? w _ hx327_6)).trans hx327_6
               replace hx327_7 := (HB.out.cell (World.block_lt_of_cell? w _ hx327_7)).trans hx327_7
               replace hx327_8 := (HB.out.cell (World.block_lt_of_cell? w _ hx327_8)).trans hx327_8
               replace p327 := eq_true p327
               replace q327 := eq_true q327
               have p328 : 0 ≤ (x5_3 : Int) := of_decide_eq_true (by first | (with_reducible assumption) | assumption)
               have q328 : x5_3 < (((rd_T70 l0_1 x3_1).f2).length : Int) := of_decide_eq_true (by first | (with_reducible assumption) | assumption)
               obtain ⟨ad328, e328, hx328_0, hx328_1, hx328_2, hx328_3, hx328_4, hx328_5, hx328_6, hx328_7, hx328_8⟩ := at_T75 HR325_2.out x5_3 p328 q328
               obtain rfl : ad327 = ad328 := (by injection e328)
               replace hx328_0 := (HB.out.cell (World.block_lt_of_cell? w _ hx328_0)).trans hx328_0
               replace hx328_1 := (HB.out.cell (World.block_lt_of_cell? w _ hx328_1)).trans hx328_1
               replace hx328_2 := (HB.out.cell (World.block_lt_of_cell? w _ hx328_2)).trans hx328_2
               replace hx328_3 := (HB.out.cell (World.block_lt_of_cell? w _ hx328_3)).trans hx328_3
               replace hx328_4 := (HB.out.cell (World.block_lt_of_cell? w _ hx328_4)).trans hx328_4
               replace hx328_5 := (HB.out.cell (World.block_lt_of_cell? w _ hx328_5)).trans hx328_5
               replace hx328_6 := (HB.out.cell (World.block_lt_of_cell? w _ hx328_6)).trans hx328_6
               replace hx328_7 := (HB.out.cell (World.block_lt_of_cell? w _ hx328_7)).trans hx328_7
               replace hx328_8 := (HB.out.cell (World.block_lt_of_cell? w _ hx328_8)).trans hx328_8
               replace p328 := eq_true p328
               replace q328 := eq_true q328
               go_wp2
               go_ret
               exact ⟨by first | rfl | (simp [errW_none, errW_some] <;> rfl) | (simp [*, errW_none, errW_some] <;> rfl), by repeat (first | (with_reducible first | exact HB.out | apply below_alloc | apply pw_below_drewN | apply below_drew1 | refine below_set ?_ GE324.out | refine below_set ?_ GE326.out) | exact HB.out)⟩
              ·rw [if_neg c28] at H
               have c28b0 : decide (1000 < (((rd_T75 ((rd_T70 l0_1 x3_1).f2) x5_3).f5.f3).size : Int)) = false := decide_eq_false c28
               have c28b1 : decide (1000 < ((rd_T75 ((rd_T70 l0_1 x3_1).f2) x5_3).f5.f3).size) = false := decide_eq_false (by omega)
               clear c28
               have H' := Aside0.mk H
               clear H
               have hnb31 := NB326_324.out
               have hnc31 := NB324_326.out
               have hcz32_0 : wr.cell? ⟨gb326, 0, none⟩ = some (.int .i64 ((rd_T70 l0_1 x3_1).f0)) := (blk_cell BK326.out 0).trans rfl
               have hcz32_1 : wr.cell? ⟨gb326, 1, none⟩ = some (.string ((rd_T70 l0_1 x3_1).f1)) := (blk_cell BK326.out 1).trans rfl
               have hcz32_2 : wr.cell? ⟨gb326, 2, none⟩ = some (.slice A325_2 ((rd_T70 l0_1 x3_1).f2).length c325_2) := (blk_cell BK326.out 2).trans rfl
               have hcz32_3 : wr.cell? ⟨gb326, 3, none⟩ = some (.slice A325_3 ((rd_T70 l0_1 x3_1).f3).length c325_3) := (blk_cell BK326.out 3).trans rfl
               have hcz32_4 : wr.cell? ⟨gb326, 4, none⟩ = some (.int .i64 ((rd_T70 l0_1 x3_1).f4)) := (blk_cell BK326.out 4).trans rfl
               have hfz32_0 := blk_frozen BK326.out 0
               have hfz32_1 := blk_frozen BK326.out 1
               have hfz32_2 := blk_frozen BK326.out 2
               have hfz32_3 := blk_frozen BK326.out 3
               have hfz32_4 := blk_frozen BK326.out 4
               have p327 : 0 ≤ (x5_3 : Int) := of_decide_eq_true (by first | (with_reducible assumption) | assumption)
               have q327 : x5_3 < (((rd_T70 l0_1 x3_1).f2).length : Int) := of_decide_eq_true (by first | (with_reducible assumption) | assumption)
               obtain ⟨ad327, e327, hx327_0, hx327_1, hx327_2, hx327_3, hx327_4, hx327_5, hx327_6, hx327_7, hx327_8⟩ := at_T75 HR325_2.out x5_3 p327 q327
               cases e327
               replace hx327_0 := (HB.out.cell (World.block_lt_of_cell? w _ hx327_0)).trans hx327_0
               replace hx327_1 := (HB.out.cell (World.block_lt_of_cell? w _ hx327_1)).trans hx327_1
               replace hx327_2 := (HB.out.cell (World.block_lt_of_cell? w _ hx327_2)).trans hx327_2
               replace hx327_3 := (HB.out.cell (World.block_lt_of_cell? w _ hx327_3)).trans hx327_3
               replace hx327_4 := (HB.out.cell (World.block_lt_of_cell? w _ hx327_4)).trans hx327_4
               replace hx327_5 := (HB.out.cell (World.block_lt_of_cell? w _ hx327_5)).trans hx327_5
               replace hx327_6 := (HB.out.cell (World.block_lt_of_cell? w _ hx327_6)).trans hx327_6
               replace hx327_7 := (HB.out.cell (World.block_lt_of_cell? w _ hx327_7)).trans hx327_7
               replace hx327_8 := (HB.out.cell (World.block_lt_of_cell? w _ hx327_8)).trans hx327_8
               replace p327 := eq_true p327
               replace q327 := eq_true q327
               have p328 : 0 ≤ (x5_3 : Int) := of_decide_eq_true (by first | (with_reducible assumption) | assumption)
               have q328 : x5_3 < (((rd_T70 l0_1 x3_1).f2).length : Int) := of_decide_eq_true (by first | (with_reducible assumption) | assumption)
               obtain ⟨ad328, e328, hx328_0, hx328_1, hx328_2, hx328_3, hx328_4, hx328_5, hx328_6, hx328_7, hx328_8⟩ := at_T75 HR325_2.out x5_3 p328 q328
               obtain rfl : ad327 = ad328 := (by injection e328)
               replace hx328_0 := (HB.out.cell (World.block_lt_of_cell? w _ hx328_0)).trans hx328_0
               replace hx328_1 := (HB.out.cell (World.block_lt_of_cell? w _ hx328_1)).trans hx328_1
               replace hx328_2 := (HB.out.cell (World.block_lt_of_cell? w _ hx328_2)).trans hx328_2
               replace hx328_3 := (HB.out.cell (World.block_lt_of_cell? w _ hx328_3)).trans hx328_3
               replace hx328_4 := (HB.out.cell (World.block_lt_of_cell? w _ hx328_4)).trans hx328_4
               replace hx328_5 := (HB.out.cell (World.block_lt_of_cell? w _ hx328_5)).trans hx328_5
               replace hx328_6 := (HB.out.cell (World.block_lt_of_cell? w _ hx328_6)).trans hx328_6
               replace hx328_7 := (HB.out.cell (World.block_lt_of_cell? w _ hx328_7)).trans hx328_7
               replace hx328_8 := (HB.out.cell (World.block_lt_of_cell? w _ hx328_8)).trans hx328_8
               replace p328 := eq_true p328
               replace q328 := eq_true q328
               go_wp2
               go_roundg k3
               case measure => have := HK1.out; have := HJ8.out; have := HK3.out; omega
               case rel => exact ⟨(wrap64 (x5_3 + 1)), (by first | rfl | (simp; done) | (simp [*]; done)), H', ⟨by have := HK1.out; have := HJ8.out; have := HK3.out; omega⟩, ⟨by (with_reducible repeat (first | refine blk_drewN ?_ _ | refine blk_drew ?_ | refine blk_alloc ?_ _)); exact BK324.out⟩, ⟨by (with_reducible repeat (first | refine blk_drewN ?_ _ | refine blk_drew ?_ | refine blk_alloc ?_ _)); exact BK326.out⟩, ⟨by repeat (first | (with_reducible first | exact HB.out | apply below_alloc | apply pw_below_drewN | apply below_drew1 | refine below_set ?_ GE324.out | refine below_set ?_ GE326.out) | exact HB.out)⟩⟩
            ·rw [if_neg c24] at H
             exact absurd H (by simp)
           ·rw [if_neg c23] at H
            have c23b0 : decide (x5_3 < (((rd_T70 l0_1 x3_1).f2).length : Int)) = false := decide_eq_false c23
            clear c23
            have H' := Aside0.mk H
            clear H
            have hnb33 := NB326_324.out
            have hnc33 := NB324_326.out
            have hcz34_0 : wr.cell? ⟨gb326, 0, none⟩ = some (.int .i64 ((rd_T70 l0_1 x3_1).f0)) := (blk_cell BK326.out 0).trans rfl
            have hcz34_1 : wr.cell? ⟨gb326, 1, none⟩ = some (.string ((rd_T70 l0_1 x3_1).f1)) := (blk_cell BK326.out 1).trans rfl
            have hcz34_2 : wr.cell? ⟨gb326, 2, none⟩ = some (.slice A325_2 ((rd_T70 l0_1 x3_1).f2).length c325_2) := (blk_cell BK326.out 2).trans rfl
            have hcz34_3 : wr.cell? ⟨gb326, 3, none⟩ = some (.slice A325_3 ((rd_T70 l0_1 x3_1).f3).length c325_3) := (blk_cell BK326.out 3).trans rfl
            have hcz34_4 : wr.cell? ⟨gb326, 4, none⟩ = some (.int .i64 ((rd_T70 l0_1 x3_1).f4)) := (blk_cell BK326.out 4).trans rfl
            have hfz34_0 := blk_frozen BK326.out 0
            have hfz34_1 := blk_frozen BK326.out 1
            have hfz34_2 := blk_frozen BK326.out 2
            have hfz34_3 := blk_frozen BK326.out 3
            have hfz34_4 := blk_frozen BK326.out 4
            go_wp2
            go_loopg [6] k3 (fun kq v6 w' => ∃ (x6_4 : Int), v6 = .int .i64 x6_4 ∧ Aside0 (falseworklaw6_Great.l2 kq x3_1 x6_4 a0_0 l0_1 a0_2 ((rd_T70 l0_1 x3_1).f0) ((rd_T70 l0_1 x3_1).f1) ((rd_T70 l0_1 x3_1).f2) ((rd_T70 l0_1 x3_1).f3) ((rd_T70 l0_1 x3_1).f4) = some r) ∧ Aside0 (kq ≤ k3) ∧ Aside0 (w'.heap[gb324]? = some (.cells #[.int .i64 a0_0, (.slice (some ad325) l0_1.length c0_1), .int .i64 a0_2] 28 (0, 0))) ∧ Aside0 (w'.heap[gb326]? = some (.cells #[.int .i64 ((rd_T70 l0_1 x3_1).f0), .string ((rd_T70 l0_1 x3_1).f1), (.slice A325_2 ((rd_T70 l0_1 x3_1).f2).length c325_2), (.slice A325_3 ((rd_T70 l0_1 x3_1).f3).length c325_3), .int .i64 ((rd_T70 l0_1 x3_1).f4)] 70 (0, 0))) ∧ Aside0 (Below w.heap.size w w'))
            case atStart => exact ⟨(0), (by first | rfl | (simp; done) | (simp [*]; done)), H', ⟨Nat.le_refl _⟩, ⟨by (with_reducible repeat (first | refine blk_drewN ?_ _ | refine blk_drew ?_ | refine blk_alloc ?_ _)); exact BK324.out⟩, ⟨by (with_reducible repeat (first | refine blk_drewN ?_ _ | refine blk_drew ?_ | refine blk_alloc ?_ _)); exact BK326.out⟩, ⟨by repeat (first | (with_reducible first | exact HB.out | apply below_alloc | apply pw_below_drewN | apply below_drew1 | refine below_set ?_ GE324.out | refine below_set ?_ GE326.out) | exact HB.out)⟩⟩
            case round =>
             clear H'
             try clear c1
             try clear c2
             try clear c2b0
             try clear c2b1
             try clear p2
             try clear c3
             try clear p3
             try clear q3
             try clear hx3
             try clear p6
             try clear c7
             try clear c7b0
             try clear c8
             try clear c8b0
             try clear c12
             try clear c14
             try clear c14b0
             try clear c14b1
             try clear c15
             try clear c17
             try clear c17b0
             try clear c17b1
             try clear c18
             try clear c20
             try clear c22
             try clear c23
             try clear c23b0
             try clear c24
             try clear c24b0
             try clear c25
             try clear c25b0
             try clear c25b1
             try clear c26
             try clear c28
             try clear c28b0
             try clear c28b1
             try clear c29
             try clear c31
             try clear c32
             try clear p32
             try clear q32
             try clear hx32
             try clear c33
             try clear hcz10_0
             try clear hcz10_1
             try clear hcz10_2
             try clear hcz13_0
             try clear hcz13_1
             try clear hcz13_2
             try clear hcz13_3
             try clear hcz13_4
             try clear hcz16_0
             try clear hcz16_1
             try clear hcz16_2
             try clear hcz16_3
             try clear hcz16_4
             try clear hcz19_0
             try clear hcz19_1
             try clear hcz19_2
             try clear hcz19_3
             try clear hcz19_4
             try clear hcz21_0
             try clear hcz21_1
             try clear hcz21_2
             try clear hcz21_3
             try clear hcz21_4
             try clear hcz27_0
             try clear hcz27_1
             try clear hcz27_2
             try clear hcz27_3
             try clear hcz27_4
             try clear hcz30_0
             try clear hcz30_1
             try clear hcz30_2
             try clear hcz30_3
             try clear hcz30_4
             try clear hcz32_0
             try clear hcz32_1
             try clear hcz32_2
             try clear hcz32_3
             try clear hcz32_4
             try clear hcz34_0
             try clear hcz34_1
             try clear hcz34_2
             try clear hcz34_3
             try clear hcz34_4
             try clear hcz4_0
             try clear hcz4_1
             try clear hcz4_2
             try clear hcz6_0
             try clear hcz6_1
             try clear hcz6_2
             try clear hfz10_0
             try clear hfz10_1
             try clear hfz10_2
             try clear hfz13_0
             try clear hfz13_1
             try clear hfz13_2
             try clear hfz13_3
             try clear hfz13_4
             try clear hfz16_0
             try clear hfz16_1
             try clear hfz16_2
             try clear hfz16_3
             try clear hfz16_4
             try clear hfz19_0
             try clear hfz19_1
             try clear hfz19_2
             try clear hfz19_3
             try clear hfz19_4
             try clear hfz21_0
             try clear hfz21_1
             try clear hfz21_2
             try clear hfz21_3
             try clear hfz21_4
             try clear hfz27_0
             try clear hfz27_1
             try clear hfz27_2
             try clear hfz27_3
             try clear hfz27_4
             try clear hfz30_0
             try clear hfz30_1
             try clear hfz30_2
             try clear hfz30_3
             try clear hfz30_4
             try clear hfz32_0
             try clear hfz32_1
             try clear hfz32_2
             try clear hfz32_3
             try clear hfz32_4
             try clear hfz34_0
             try clear hfz34_1
             try clear hfz34_2
             try clear hfz34_3
             try clear hfz34_4
             try clear hfz4_0
             try clear hfz4_1
             try clear hfz4_2
             try clear hfz6_0
             try clear hfz6_1
             try clear hfz6_2
             try clear hx325_0
             try clear hx325_1
             try clear hx325_2
             try clear hx325_3
             try clear hx325_4
             try clear hx327_0
             try clear hx327_1
             try clear hx327_2
             try clear hx327_3
             try clear hx327_4
             try clear hx327_5
             try clear hx327_6
             try clear hx327_7
             try clear hx327_8
             try clear hx328_0
             try clear hx328_1
             try clear hx328_2
             try clear hx328_3
             try clear hx328_4
             try clear hx328_5
             try clear hx328_6
             try clear hx328_7
             try clear hx328_8
             try clear p2
             try clear p3
             try clear p325
             try clear p327
             try clear p328
             try clear q3
             try clear q325
             try clear q327
             try clear q328
             obtain ⟨x6_4, rfl, HA, HK4, BK324, BK326, HB⟩ := hrel
             cases gk with
             | zero => exact absurd HA.out (by simp [falseworklaw6_Great.l2])
             | succ k4 =>
              have H := HA.out
              clear HA
              simp only [falseworklaw6_Great.l2] at H
              by_cases c35 : x6_4 < (((rd_T70 l0_1 x3_1).f3).length : Int)
              ·rw [if_pos c35] at H
               have c35b0 : decide (x6_4 < (((rd_T70 l0_1 x3_1).f3).length : Int)) = true := decide_eq_true c35
               clear c35
               by_cases c36 : 0 ≤ x6_4
               ·rw [if_pos c36] at H
                have c36b0 : decide (0 ≤ x6_4) = true := decide_eq_true c36
                clear c36
                by_cases c37 : (((rd_T98 ((rd_T70 l0_1 x3_1).f3) x6_4).f1).size : Int) > 1000
                ·rw [if_pos c37] at H
                 have c37b0 : decide (1000 < (((rd_T98 ((rd_T70 l0_1 x3_1).f3) x6_4).f1).size : Int)) = true := decide_eq_true c37
                 have c37b1 : decide (1000 < ((rd_T98 ((rd_T70 l0_1 x3_1).f3) x6_4).f1).size) = true := decide_eq_true (by omega)
                 clear c37
                 obtain rfl := Option.some.inj H
                 have hnb38 := NB326_324.out
                 have hnc38 := NB324_326.out
                 have hcz39_0 : wr.cell? ⟨gb326, 0, none⟩ = some (.int .i64 ((rd_T70 l0_1 x3_1).f0)) := (blk_cell BK326.out 0).trans rfl
                 have hcz39_1 : wr.cell? ⟨gb326, 1, none⟩ = some (.string ((rd_T70 l0_1 x3_1).f1)) := (blk_cell BK326.out 1).trans rfl
                 have hcz39_2 : wr.cell? ⟨gb326, 2, none⟩ = some (.slice A325_2 ((rd_T70 l0_1 x3_1).f2).length c325_2) := (blk_cell BK326.out 2).trans rfl
                 have hcz39_3 : wr.cell? ⟨gb326, 3, none⟩ = some (.slice A325_3 ((rd_T70 l0_1 x3_1).f3).length c325_3) := (blk_cell BK326.out 3).trans rfl
                 have hcz39_4 : wr.cell? ⟨gb326, 4, none⟩ = some (.int .i64 ((rd_T70 l0_1 x3_1).f4)) := (blk_cell BK326.out 4).trans rfl
                 have hfz39_0 := blk_frozen BK326.out 0
                 have hfz39_1 := blk_frozen BK326.out 1
                 have hfz39_2 := blk_frozen BK326.out 2
                 have hfz39_3 := blk_frozen BK326.out 3
                 have hfz39_4 := blk_frozen BK326.out 4
                 have p329 : 0 ≤ (x6_4 : Int) := of_decide_eq_true (by first | (with_reducible assumption) | assumption)
                 have q329 : x6_4 < (((rd_T70 l0_1 x3_1).f3).length : Int) := of_decide_eq_true (by first | (with_reducible assumption) | assumption)
                 obtain ⟨ad329, A329_2, c329_2, e329, hx329_0, hx329_1, hx329_2, hx329_3, hx329_4, hl329_2, hi329_2⟩ := at_T98 HR325_3.out x6_4 p329 q329
                 cases e329
                 replace hx329_0 := (HB.out.cell (World.block_lt_of_cell? w _ hx329_0)).trans hx329_0
                 replace hx329_1 := (HB.out.cell (World.block_lt_of_cell? w _ hx329_1)).trans hx329_1
                 replace hx329_2 := (HB.out.cell (World.block_lt_of_cell? w _ hx329_2)).trans hx329_2
                 replace hx329_3 := (HB.out.cell (World.block_lt_of_cell? w _ hx329_3)).trans hx329_3
                 replace hx329_4 := (HB.out.cell (World.block_lt_of_cell? w _ hx329_4)).trans hx329_4
                 have HR329_2 := Aside0.mk hi329_2
                 have HC329_2 := Aside0.mk hl329_2
                 clear hi329_2 hl329_2
                 replace p329 := eq_true p329
                 replace q329 := eq_true q329
                 go_wp2
                 go_ret
                 exact ⟨by first | rfl | (simp [errW_none, errW_some] <;> rfl) | (simp [*, errW_none, errW_some] <;> rfl), by repeat (first | (with_reducible first | exact HB.out | apply below_alloc | apply pw_below_drewN | apply below_drew1 | refine below_set ?_ GE324.out | refine below_set ?_ GE326.out) | exact HB.out)⟩
                ·rw [if_neg c37] at H
                 have c37b0 : decide (1000 < (((rd_T98 ((rd_T70 l0_1 x3_1).f3) x6_4).f1).size : Int)) = false := decide_eq_false c37
                 have c37b1 : decide (1000 < ((rd_T98 ((rd_T70 l0_1 x3_1).f3) x6_4).f1).size) = false := decide_eq_false (by omega)
                 clear c37
                 by_cases c40 : (((rd_T98 ((rd_T70 l0_1 x3_1).f3) x6_4).f2).length : Int) > 50
                 ·rw [if_pos c40] at H
                  have c40b0 : decide (50 < (((rd_T98 ((rd_T70 l0_1 x3_1).f3) x6_4).f2).length : Int)) = true := decide_eq_true c40
                  have c40b1 : decide (50 < ((rd_T98 ((rd_T70 l0_1 x3_1).f3) x6_4).f2).length) = true := decide_eq_true (by omega)
                  clear c40
                  obtain rfl := Option.some.inj H
                  have hnb41 := NB326_324.out
                  have hnc41 := NB324_326.out
                  have hcz42_0 : wr.cell? ⟨gb326, 0, none⟩ = some (.int .i64 ((rd_T70 l0_1 x3_1).f0)) := (blk_cell BK326.out 0).trans rfl
                  have hcz42_1 : wr.cell? ⟨gb326, 1, none⟩ = some (.string ((rd_T70 l0_1 x3_1).f1)) := (blk_cell BK326.out 1).trans rfl
                  have hcz42_2 : wr.cell? ⟨gb326, 2, none⟩ = some (.slice A325_2 ((rd_T70 l0_1 x3_1).f2).length c325_2) := (blk_cell BK326.out 2).trans rfl
                  have hcz42_3 : wr.cell? ⟨gb326, 3, none⟩ = some (.slice A325_3 ((rd_T70 l0_1 x3_1).f3).length c325_3) := (blk_cell BK326.out 3).trans rfl
                  have hcz42_4 : wr.cell? ⟨gb326, 4, none⟩ = some (.int .i64 ((rd_T70 l0_1 x3_1).f4)) := (blk_cell BK326.out 4).trans rfl
                  have hfz42_0 := blk_frozen BK326.out 0
                  have hfz42_1 := blk_frozen BK326.out 1
                  have hfz42_2 := blk_frozen BK326.out 2
                  have hfz42_3 := blk_frozen BK326.out 3
                  have hfz42_4 := blk_frozen BK326.out 4
                  have p329 : 0 ≤ (x6_4 : Int) := of_decide_eq_true (by first | (with_reducible assumption) | assumption)
                  have q329 : x6_4 < (((rd_T70 l0_1 x3_1).f3).length : Int) := of_decide_eq_true (by first | (with_reducible assumption) | assumption)
                  obtain ⟨ad329, A329_2, c329_2, e329, hx329_0, hx329_1, hx329_2, hx329_3, hx329_4, hl329_2, hi329_2⟩ := at_T98 HR325_3.out x6_4 p329 q329
                  cases e329
                  replace hx329_0 := (HB.out.cell (World.block_lt_of_cell? w _ hx329_0)).trans hx329_0
                  replace hx329_1 := (HB.out.cell (World.block_lt_of_cell? w _ hx329_1)).trans hx329_1
                  replace hx329_2 := (HB.out.cell (World.block_lt_of_cell? w _ hx329_2)).trans hx329_2
                  replace hx329_3 := (HB.out.cell (World.block_lt_of_cell? w _ hx329_3)).trans hx329_3
                  replace hx329_4 := (HB.out.cell (World.block_lt_of_cell? w _ hx329_4)).trans hx329_4
                  have HR329_2 := Aside0.mk hi329_2
                  have HC329_2 := Aside0.mk hl329_2
                  clear hi329_2 hl329_2
                  replace p329 := eq_true p329
                  replace q329 := eq_true q329
                  have p330 : 0 ≤ (x6_4 : Int) := of_decide_eq_true (by first | (with_reducible assumption) | assumption)
                  have q330 : x6_4 < (((rd_T70 l0_1 x3_1).f3).length : Int) := of_decide_eq_true (by first | (with_reducible assumption) | assumption)
                  obtain ⟨ad330, A330_2, c330_2, e330, hx330_0, hx330_1, hx330_2, hx330_3, hx330_4, hl330_2, hi330_2⟩ := at_T98 HR325_3.out x6_4 p330 q330
                  obtain rfl : ad329 = ad330 := (by injection e330)
                  replace hx330_0 := (HB.out.cell (World.block_lt_of_cell? w _ hx330_0)).trans hx330_0
                  replace hx330_1 := (HB.out.cell (World.block_lt_of_cell? w _ hx330_1)).trans hx330_1
                  replace hx330_2 := (HB.out.cell (World.block_lt_of_cell? w _ hx330_2)).trans hx330_2
                  replace hx330_3 := (HB.out.cell (World.block_lt_of_cell? w _ hx330_3)).trans hx330_3
                  replace hx330_4 := (HB.out.cell (World.block_lt_of_cell? w _ hx330_4)).trans hx330_4
                  have HR330_2 := Aside0.mk hi330_2
                  have HC330_2 := Aside0.mk hl330_2
                  clear hi330_2 hl330_2
                  replace p330 := eq_true p330
                  replace q330 := eq_true q330
                  have ea_ := Option.some.inj (hx329_2.symm.trans hx330_2)
                  injection ea_ with ea_ en_ ec_
                  subst ea_
                  subst ec_
                  clear en_
                  go_wp2
                  go_ret
                  exact ⟨by first | rfl | (simp [errW_none, errW_some] <;> rfl) | (simp [*, errW_none, errW_some] <;> rfl), by repeat (first | (with_reducible first | exact HB.out | apply below_alloc | apply pw_below_drewN | apply below_drew1 | refine below_set ?_ GE324.out | refine below_set ?_ GE326.out) | exact HB.out)⟩
                 ·rw [if_neg c40] at H
                  have c40b0 : decide (50 < (((rd_T98 ((rd_T70 l0_1 x3_1).f3) x6_4).f2).length : Int)) = false := decide_eq_false c40
                  have c40b1 : decide (50 < ((rd_T98 ((rd_T70 l0_1 x3_1).f3) x6_4).f2).length) = false := decide_eq_false (by omega)
                  clear c40
                  have H' := Aside0.mk H
                  clear H
                  have hnb43 := NB326_324.out
                  have hnc43 := NB324_326.out
                  have hcz44_0 : wr.cell? ⟨gb326, 0, none⟩ = some (.int .i64 ((rd_T70 l0_1 x3_1).f0)) := (blk_cell BK326.out 0).trans rfl
                  have hcz44_1 : wr.cell? ⟨gb326, 1, none⟩ = some (.string ((rd_T70 l0_1 x3_1).f1)) := (blk_cell BK326.out 1).trans rfl
                  have hcz44_2 : wr.cell? ⟨gb326, 2, none⟩ = some (.slice A325_2 ((rd_T70 l0_1 x3_1).f2).length c325_2) := (blk_cell BK326.out 2).trans rfl
                  have hcz44_3 : wr.cell? ⟨gb326, 3, none⟩ = some (.slice A325_3 ((rd_T70 l0_1 x3_1).f3).length c325_3) := (blk_cell BK326.out 3).trans rfl
                  have hcz44_4 : wr.cell? ⟨gb326, 4, none⟩ = some (.int .i64 ((rd_T70 l0_1 x3_1).f4)) := (blk_cell BK326.out 4).trans rfl
                  have hfz44_0 := blk_frozen BK326.out 0
                  have hfz44_1 := blk_frozen BK326.out 1
                  have hfz44_2 := blk_frozen BK326.out 2
                  have hfz44_3 := blk_frozen BK326.out 3
                  have hfz44_4 := blk_frozen BK326.out 4
                  have p329 : 0 ≤ (x6_4 : Int) := of_decide_eq_true (by first | (with_reducible assumption) | assumption)
                  have q329 : x6_4 < (((rd_T70 l0_1 x3_1).f3).length : Int) := of_decide_eq_true (by first | (with_reducible assumption) | assumption)
                  obtain ⟨ad329, A329_2, c329_2, e329, hx329_0, hx329_1, hx329_2, hx329_3, hx329_4, hl329_2, hi329_2⟩ := at_T98 HR325_3.out x6_4 p329 q329
                  cases e329
                  replace hx329_0 := (HB.out.cell (World.block_lt_of_cell? w _ hx329_0)).trans hx329_0
                  replace hx329_1 := (HB.out.cell (World.block_lt_of_cell? w _ hx329_1)).trans hx329_1
                  replace hx329_2 := (HB.out.cell (World.block_lt_of_cell? w _ hx329_2)).trans hx329_2
                  replace hx329_3 := (HB.out.cell (World.block_lt_of_cell? w _ hx329_3)).trans hx329_3
                  replace hx329_4 := (HB.out.cell (World.block_lt_of_cell? w _ hx329_4)).trans hx329_4
                  have HR329_2 := Aside0.mk hi329_2
                  have HC329_2 := Aside0.mk hl329_2
                  clear hi329_2 hl329_2
                  replace p329 := eq_true p329
                  replace q329 := eq_true q329
                  have p330 : 0 ≤ (x6_4 : Int) := of_decide_eq_true (by first | (with_reducible assumption) | assumption)
                  have q330 : x6_4 < (((rd_T70 l0_1 x3_1).f3).length : Int) := of_decide_eq_true (by first | (with_reducible assumption) | assumption)
                  obtain ⟨ad330, A330_2, c330_2, e330, hx330_0, hx330_1, hx330_2, hx330_3, hx330_4, hl330_2, hi330_2⟩ := at_T98 HR325_3.out x6_4 p330 q330
                  obtain rfl : ad329 = ad330 := (by injection e330)
                  replace hx330_0 := (HB.out.cell (World.block_lt_of_cell? w _ hx330_0)).trans hx330_0
                  replace hx330_1 := (HB.out.cell (World.block_lt_of_cell? w _ hx330_1)).trans hx330_1
                  replace hx330_2 := (HB.out.cell (World.block_lt_of_cell? w _ hx330_2)).trans hx330_2
                  replace hx330_3 := (HB.out.cell (World.block_lt_of_cell? w _ hx330_3)).trans hx330_3
                  replace hx330_4 := (HB.out.cell (World.block_lt_of_cell? w _ hx330_4)).trans hx330_4
                  have HR330_2 := Aside0.mk hi330_2
                  have HC330_2 := Aside0.mk hl330_2
                  clear hi330_2 hl330_2
                  replace p330 := eq_true p330
                  replace q330 := eq_true q330
                  have ea_ := Option.some.inj (hx329_2.symm.trans hx330_2)
                  injection ea_ with ea_ en_ ec_
                  subst ea_
                  subst ec_
                  clear en_
                  go_wp2
                  go_roundg k4
                  case measure => have := HK1.out; have := HJ8.out; have := HK3.out; have := HK4.out; omega
                  case rel => exact ⟨(wrap64 (x6_4 + 1)), (by first | rfl | (simp; done) | (simp [*]; done)), H', ⟨by have := HK1.out; have := HJ8.out; have := HK3.out; have := HK4.out; omega⟩, ⟨by (with_reducible repeat (first | refine blk_drewN ?_ _ | refine blk_drew ?_ | refine blk_alloc ?_ _)); exact BK324.out⟩, ⟨by (with_reducible repeat (first | refine blk_drewN ?_ _ | refine blk_drew ?_ | refine blk_alloc ?_ _)); exact BK326.out⟩, ⟨by repeat (first | (with_reducible first | exact HB.out | apply below_alloc | apply pw_below_drewN | apply below_drew1 | refine below_set ?_ GE324.out | refine below_set ?_ GE326.out) | exact HB.out)⟩⟩
               ·rw [if_neg c36] at H
                exact absurd H (by simp)
              ·rw [if_neg c35] at H
               have c35b0 : decide (x6_4 < (((rd_T70 l0_1 x3_1).f3).length : Int)) = false := decide_eq_false c35
               clear c35
               have H' := Aside0.mk H
               clear H
               have hnb45 := NB326_324.out
               have hnc45 := NB324_326.out
               have hcz46_0 : wr.cell? ⟨gb326, 0, none⟩ = some (.int .i64 ((rd_T70 l0_1 x3_1).f0)) := (blk_cell BK326.out 0).trans rfl
               have hcz46_1 : wr.cell? ⟨gb326, 1, none⟩ = some (.string ((rd_T70 l0_1 x3_1).f1)) := (blk_cell BK326.out 1).trans rfl
               have hcz46_2 : wr.cell? ⟨gb326, 2, none⟩ = some (.slice A325_2 ((rd_T70 l0_1 x3_1).f2).length c325_2) := (blk_cell BK326.out 2).trans rfl
               have hcz46_3 : wr.cell? ⟨gb326, 3, none⟩ = some (.slice A325_3 ((rd_T70 l0_1 x3_1).f3).length c325_3) := (blk_cell BK326.out 3).trans rfl
               have hcz46_4 : wr.cell? ⟨gb326, 4, none⟩ = some (.int .i64 ((rd_T70 l0_1 x3_1).f4)) := (blk_cell BK326.out 4).trans rfl
               have hfz46_0 := blk_frozen BK326.out 0
               have hfz46_1 := blk_frozen BK326.out 1
               have hfz46_2 := blk_frozen BK326.out 2
               have hfz46_3 := blk_frozen BK326.out 3
               have hfz46_4 := blk_frozen BK326.out 4
               go_wp2
               go_roundg k4
               case measure => have := HK1.out; have := HJ8.out; have := HK3.out; have := HK4.out; omega
               case rel => exact ⟨(wrap64 (x3_1 + 1)), (by first | rfl | (simp; done) | (simp [*]; done)), H', ⟨by have := HK1.out; have := HJ8.out; have := HK3.out; have := HK4.out; omega⟩, ⟨by (with_reducible repeat (first | refine blk_drewN ?_ _ | refine blk_drew ?_ | refine blk_alloc ?_ _)); exact BK324.out⟩, ⟨by repeat (first | (with_reducible first | exact HB.out | apply below_alloc | apply pw_below_drewN | apply below_drew1 | refine below_set ?_ GE324.out | refine below_set ?_ GE326.out) | exact HB.out)⟩⟩
     ·rw [if_neg c8] at H
      exact absurd H (by simp)
    ·rw [if_neg c7] at H
     have c7b0 : decide (x3_1 < (l0_1.length : Int)) = false := decide_eq_false c7
     clear c7
     obtain rfl := Option.some.inj H
     have hcz47_0 : wr.cell? ⟨gb324, 0, none⟩ = some (.int .i64 a0_0) := (blk_cell BK324.out 0).trans rfl
     have hcz47_1 : wr.cell? ⟨gb324, 1, none⟩ = some (.slice A0_1 l0_1.length c0_1) := (blk_cell BK324.out 1).trans rfl
     have hcz47_2 : wr.cell? ⟨gb324, 2, none⟩ = some (.int .i64 a0_2) := (blk_cell BK324.out 2).trans rfl
     have hfz47_0 := blk_frozen BK324.out 0
     have hfz47_1 := blk_frozen BK324.out 1
     have hfz47_2 := blk_frozen BK324.out 2
     go_wp2
     go_ret
     exact ⟨by first | rfl | (simp [errW_none, errW_some] <;> rfl) | (simp [*, errW_none, errW_some] <;> rfl), by repeat (first | (with_reducible first | exact HB.out | apply below_alloc | apply pw_below_drewN | apply below_drew1 | refine below_set ?_ GE324.out) | exact HB.out)⟩
end Go.Proofs.YtjgomlcdmpcoaaaDoor.D
namespace Go.Proofs.YtjgomlcdmpcoaaaDoor.H
open Go.RowKit Go.Proofs.YtjgomlcdmpcoaaaDoorW.PrintWords Go.Proofs.YtjgomlcdmpcoaaaDoorW.PrintLast Go.Proofs.YtjgomlcdmpcoaaaDoorW.PrintMore
open Go.Proofs.YtjgomlcdmpcoaaaDoor.D Go.Proofs.YtjgomlcdmpcoaaaDoor
set_option linter.unusedVariables false
section
variable (v : Int) (ts : List S70) (nx : Int)
abbrev gL0 (k : Nat) (i : Int) := falseworklaw6_Great.l0 k i v ts nx
abbrev gL1 (k : Nat) (i j : Int) (t : S70) := falseworklaw6_Great.l1 k i j v ts nx t.f0 t.f1 t.f2 t.f3 t.f4
abbrev gL2 (k : Nat) (i j : Int) (t : S70) := falseworklaw6_Great.l2 k i j v ts nx t.f0 t.f1 t.f2 t.f3 t.f4
theorem gL2_tells (t : S70) (ht : t.f3.length ≤ 50) (i : Nat) (hi : i < 20) (K : Nat) (hR : ∀ k, K ≤ k → ∃ r, gL0 v ts nx k ((i + 1 : Nat) : Int) = some r) : ∀ (m j k : Nat), j + m = t.f3.length → K + m + 1 ≤ k → ∃ r, gL2 v ts nx k i j t = some r
  | 0, j, k, h, hk => by
    obtain ⟨k, rfl⟩ : ∃ k', k = k' + 1 := ⟨k - 1, by omega⟩
    obtain ⟨r, hr⟩ := hR k (by omega)
    refine ⟨r, ?_⟩
    show falseworklaw6_Great.l2 (k + 1) _ _ _ _ _ _ _ _ _ _ = _
    rw [falseworklaw6_Great.l2, if_neg (by omega), wrap_nat i (by omega)]
    exact hr
  | m + 1, j, k, h, hk => by
    obtain ⟨k, rfl⟩ : ∃ k', k = k' + 1 := ⟨k - 1, by omega⟩
    obtain ⟨r, hr⟩ := gL2_tells t ht i hi K hR m (j + 1) k (by omega) (by omega)
    show ∃ r, falseworklaw6_Great.l2 (k + 1) _ _ _ _ _ _ _ _ _ _ = some r
    rw [falseworklaw6_Great.l2, if_pos (by omega), if_pos (by omega), wrap_nat j (by omega)]
    split
    · exact ⟨_, rfl⟩
    split
    · exact ⟨_, rfl⟩
    · exact ⟨r, hr⟩
theorem gL1_tells (t : S70) (hc : t.f2.length ≤ 50) (ht : t.f3.length ≤ 50) (i : Nat) (hi : i < 20) (K : Nat) (hR : ∀ k, K ≤ k → ∃ r, gL0 v ts nx k ((i + 1 : Nat) : Int) = some r) : ∀ (m j k : Nat), j + m = t.f2.length → K + m + 52 ≤ k → ∃ r, gL1 v ts nx k i j t = some r
  | 0, j, k, h, hk => by
    obtain ⟨k, rfl⟩ : ∃ k', k = k' + 1 := ⟨k - 1, by omega⟩
    obtain ⟨r, hr⟩ := gL2_tells v ts nx t ht i hi K hR t.f3.length 0 k (by omega) (by omega)
    refine ⟨r, ?_⟩
    show falseworklaw6_Great.l1 (k + 1) _ _ _ _ _ _ _ _ _ _ = _
    rw [falseworklaw6_Great.l1, if_neg (by omega)]
    exact hr
  | m + 1, j, k, h, hk => by
    obtain ⟨k, rfl⟩ : ∃ k', k = k' + 1 := ⟨k - 1, by omega⟩
    obtain ⟨r, hr⟩ := gL1_tells t hc ht i hi K hR m (j + 1) k (by omega) (by omega)
    show ∃ r, falseworklaw6_Great.l1 (k + 1) _ _ _ _ _ _ _ _ _ _ = some r
    rw [falseworklaw6_Great.l1, if_pos (by omega), if_pos (by omega), wrap_nat j (by omega)]
    split
    · exact ⟨_, rfl⟩
    split
    · exact ⟨_, rfl⟩
    · exact ⟨r, hr⟩
theorem gL0_tells (hn : ts.length ≤ 20) : ∀ (m i k : Nat), i + m = ts.length → 200 * (m + 1) ≤ k → ∃ r, gL0 v ts nx k i = some r
  | 0, i, k, h, hk => by
    obtain ⟨k, rfl⟩ : ∃ k', k = k' + 1 := ⟨k - 1, by omega⟩
    refine ⟨false, ?_⟩
    show falseworklaw6_Great.l0 (k + 1) _ _ _ _ = _
    rw [falseworklaw6_Great.l0, if_neg (by omega)]
  | m + 1, i, k, h, hk => by
    obtain ⟨k, rfl⟩ : ∃ k', k = k' + 1 + 1 := ⟨k - 2, by omega⟩
    have hi : i < ts.length := by omega
    have hj : ∀ b, falseworklaw6_Great.j1 (k + 1) i b v ts nx ts[i].f0 ts[i].f1 ts[i].f2 ts[i].f3 ts[i].f4 = if b = true then some true else gL1 v ts nx k i 0 ts[i] := fun b => by rw [falseworklaw6_Great.j1]
    show ∃ r, falseworklaw6_Great.l0 (k + 1 + 1) _ _ _ _ = some r
    rw [falseworklaw6_Great.l0, if_pos (by omega), if_pos (by omega), rd70 _ _ hi, hj, hj]
    split
    · exact ⟨_, if_pos rfl⟩
    split
    · exact ⟨_, if_pos rfl⟩
    rename_i h1 h2
    by_cases h3 : (ts[i].f3.length : Int) > 50
    · rw [decide_eq_true h3]
      exact ⟨_, if_pos rfl⟩
    · rw [decide_eq_false h3, if_neg (by simp)]
      exact gL1_tells v ts nx ts[i] (by omega) (by omega) i (by omega) (200 * (m + 1)) (fun k hk => gL0_tells hn m (i + 1) k (by omega) hk) ts[i].f2.length 0 k (by omega) (by omega)
theorem great_tells : ∃ r, falseworklaw6_Great.f 5000 v ts nx = some r := by
  unfold falseworklaw6_Great.f
  split
  · exact ⟨_, rfl⟩
  · exact gL0_tells v ts nx (by omega) ts.length 0 5000 (by omega) (by omega)
end
theorem great_calls (v : Int) (ts : List S70) (nx : Int) : ∃ g : Bool, ∀ (A : Option Addr) (c : Nat) (w : World), ts.length ≤ c → k70.C w A ts.length ts →
    Calls Tryd.prog 25 #[.agg #[.int .i64 v, .slice A ts.length c, .int .i64 nx]] w fun e w' => e = .returned (.bool g) ∧ Below w.heap.size w w' := by
  obtain ⟨g, hg⟩ := great_tells v ts nx
  exact ⟨g, fun A c w hc h => falseworklaw6_Great.calls 5000 v A c ts nx g w h hc hg⟩
end Go.Proofs.YtjgomlcdmpcoaaaDoor.H
namespace Go.Proofs.YtjgomlcdmpcoaaaDoor.H
open Go.RowKit Go.Proofs.YtjgomlcdmpcoaaaDoorW.PrintWords Go.Proofs.YtjgomlcdmpcoaaaDoorW.PrintLast Go.Proofs.YtjgomlcdmpcoaaaDoorW.PrintMore
set_option linter.unusedVariables false
theorem xor_cancel {a b c : Nat} (h : a ^^^ c = b ^^^ c) : a = b := by
  have := congrArg (· ^^^ c) h
  simpa [Nat.xor_assoc] using this
theorem xor32 {a b c : Int} (ha : 0 ≤ a ∧ a < 4294967296) (hb : 0 ≤ b ∧ b < 4294967296) (hc : 0 ≤ c ∧ c < 4294967296) (h : bits .xor .u32 a c = bits .xor .u32 b c) : a = b := by
  rw [Go.u32_xor a c ha.1 ha.2 hc.1 hc.2, Go.u32_xor b c hb.1 hb.2 hc.1 hc.2] at h
  have := xor_cancel (Int.ofNat.inj h)
  omega
theorem xor32' {a b c : Int} (ha : 0 ≤ a ∧ a < 4294967296) (hb : 0 ≤ b ∧ b < 4294967296) (hc : 0 ≤ c ∧ c < 4294967296) (h : bits .xor .u32 c a = bits .xor .u32 c b) : a = b := by
  rw [Go.u32_xor c a hc.1 hc.2 ha.1 ha.2, Go.u32_xor c b hc.1 hc.2 hb.1 hb.2] at h
  have h := Int.ofNat.inj h
  rw [Nat.xor_comm _ a.toNat, Nat.xor_comm _ b.toNat] at h
  have := xor_cancel h
  omega
theorem poly_top {x y : Nat} (hx : x < 2147483648) (hy : y < 2147483648) : x ^^^ 2197175160 ≠ y := by
  intro h
  have h1 := congrArg (Nat.testBit · 31) h
  have hx' : x.testBit 31 = false := Nat.testBit_lt_two_pow (by omega)
  have hy' : y.testBit 31 = false := Nat.testBit_lt_two_pow (by omega)
  have hp : (2197175160 : Nat).testBit 31 = true := by decide +kernel
  simp only [Nat.testBit_xor, hx', hy', hp] at h1
  cases h1
theorem odd_and (n : Int) (h0 : 0 ≤ n) (h1 : n < 4294967296) : bits .and .u32 n 1 = n % 2 := by
  rw [Go.u32_and n 1 h0 h1 (by omega) (by omega)]
  rw [show (1 : Int).toNat = 1 from rfl, Go.nat_mask1]
  omega
theorem cr1_inj {a b : Int} (ha : 0 ≤ a ∧ a < 4294967296) (hb : 0 ≤ b ∧ b < 4294967296) (h : cr1 a = cr1 b) : a = b := by
  unfold cr1 at h
  rw [odd_and a ha.1 ha.2, odd_and b hb.1 hb.2] at h
  have da : 0 ≤ a / 2 ∧ a / 2 < 4294967296 := by omega
  have db : 0 ≤ b / 2 ∧ b / 2 < 4294967296 := by omega
  rcases (by omega : a % 2 = 1 ∨ a % 2 = 0) with xa | xa <;> rcases (by omega : b % 2 = 1 ∨ b % 2 = 0) with xb | xb <;> simp only [xa, xb, BEq.rfl, if_true, (by decide : ((0 : Int) == 1) = false), Bool.false_eq_true, if_false] at h
  · have := xor32 da db (by omega) h
    omega
  · rw [Go.u32_xor _ _ da.1 da.2 (by omega) (by omega), show (2197175160 : Int).toNat = 2197175160 from rfl] at h
    exact absurd (by omega) (poly_top (x := (a / 2).toNat) (y := (b / 2).toNat) (by omega) (by omega))
  · rw [Go.u32_xor _ _ db.1 db.2 (by omega) (by omega), show (2197175160 : Int).toNat = 2197175160 from rfl] at h
    exact absurd (by omega) (poly_top (x := (b / 2).toNat) (y := (a / 2).toNat) (by omega) (by omega))
  · omega
theorem crN_bd (n : Nat) : ∀ c : Int, 0 ≤ c ∧ c < 4294967296 → 0 ≤ crN n c ∧ crN n c < 4294967296 := by
  induction n with
  | zero => exact fun c h => h
  | succ n ih => exact fun c h => ih _ (cr1_bd c h.1 h.2)
theorem crN_inj (n : Nat) : ∀ a b : Int, 0 ≤ a ∧ a < 4294967296 → 0 ≤ b ∧ b < 4294967296 → crN n a = crN n b → a = b := by
  induction n with
  | zero => exact fun a b _ _ h => h
  | succ n ih => exact fun a b ha hb h => cr1_inj ha hb (ih _ _ (cr1_bd a ha.1 ha.2) (cr1_bd b hb.1 hb.2) h)
theorem crB_bd (c b : Int) : 0 ≤ crB c b ∧ crB c b < 4294967296 := crN_bd 8 _ (bits_u32 _ _ _)
theorem crB_inj {c d b : Int} (hc : 0 ≤ c ∧ c < 4294967296) (hd : 0 ≤ d ∧ d < 4294967296) (h : crB c b = crB d b) : c = d :=
  xor32 hc hd (by omega) (crN_inj 8 _ _ (bits_u32 _ _ _) (bits_u32 _ _ _) h)
theorem crB_inj' {c a b : Int} (hc : 0 ≤ c ∧ c < 4294967296) (ha : 0 ≤ a ∧ a < 256) (hb : 0 ≤ b ∧ b < 256) (h : crB c a = crB c b) : a = b := by
  have := xor32' (by omega) (by omega) hc (crN_inj 8 _ _ (bits_u32 _ _ _) (bits_u32 _ _ _) h)
  omega
theorem crL_bd : ∀ (l : List UInt8) (c : Int), 0 ≤ c ∧ c < 4294967296 → 0 ≤ crL c l ∧ crL c l < 4294967296
  | [], c, h => h
  | x :: l, c, h => crL_bd l _ (crB_bd _ _)
theorem crL_inj : ∀ (l : List UInt8) (c d : Int), 0 ≤ c ∧ c < 4294967296 → 0 ≤ d ∧ d < 4294967296 → crL c l = crL d l → c = d
  | [], c, d, _, _, h => h
  | x :: l, c, d, hc, hd, h => crB_inj hc hd (crL_inj l _ _ (crB_bd _ _) (crB_bd _ _) h)
theorem crL_append (c : Int) (l m : List UInt8) : crL c (l ++ m) = crL (crL c l) m := List.foldl_append ..
theorem crL_turned (l m : List UInt8) (a b : UInt8) (h : crL 4294967295 (l ++ a :: m) = crL 4294967295 (l ++ b :: m)) : a = b := by
  rw [crL_append, crL_append] at h
  have hl := crL_bd l 4294967295 (by omega)
  have h1 := crL_inj m _ _ (crB_bd _ _) (crB_bd _ _) h
  have := crB_inj' hl ⟨by omega, by have := a.toNat_lt; omega⟩ ⟨by omega, by have := b.toNat_lt; omega⟩ h1
  exact UInt8.toNat_inj.mp (by omega)
theorem sum_turned {s t : ByteArray} {l m : List UInt8} {a b : UInt8} (hs : s.data.toList = l ++ a :: m) (ht : t.data.toList = l ++ b :: m) (h : sumI s = sumI t) : a = b := by
  unfold sumI at h
  rw [hs, ht] at h
  exact crL_turned l m a b (xor32' (crL_bd _ _ (by omega)) (crL_bd _ _ (by omega)) (by decide) h)
theorem four_inj {a b : Int} (ha : 0 ≤ a ∧ a < 4294967296) (hb : 0 ≤ b ∧ b < 4294967296) (h : four a = four b) : a = b := by
  unfold four at h
  simp only [List.cons.injEq, and_true] at h
  omega
end Go.Proofs.YtjgomlcdmpcoaaaDoor.H
namespace Go.Proofs.YtjgomlcdmpcoaaaDoor.H
open Go.RowKit Go.Proofs.YtjgomlcdmpcoaaaDoorW.PrintWords Go.Proofs.YtjgomlcdmpcoaaaDoorW.PrintLast Go.Proofs.YtjgomlcdmpcoaaaDoorW.PrintMore
set_option linter.unusedVariables false
def fb (c : Int) : List UInt8 := (four c).map fun n => UInt8.ofNat n.toNat
theorem u8_ofNat_inj {a b : Int} (ha : 0 ≤ a ∧ a < 256) (hb : 0 ≤ b ∧ b < 256) (h : UInt8.ofNat a.toNat = UInt8.ofNat b.toNat) : a = b := by
  have := congrArg UInt8.toNat h
  rw [UInt8.toNat_ofNat', UInt8.toNat_ofNat'] at this
  omega
theorem fb_inj {a b : Int} (ha : 0 ≤ a ∧ a < 4294967296) (hb : 0 ≤ b ∧ b < 4294967296) (h : fb a = fb b) : a = b := by
  unfold fb four at h
  simp only [List.map_cons, List.map_nil, List.cons.injEq, and_true] at h
  have h1 := u8_ofNat_inj (by omega) (by omega) h.1
  have h2 := u8_ofNat_inj (by omega) (by omega) h.2.1
  have h3 := u8_ofNat_inj (by omega) (by omega) h.2.2.1
  have h4 := u8_ofNat_inj (by omega) (by omega) h.2.2.2
  omega
theorem seal_list (p : ByteArray) : (sealB p).data.toList = p.data.toList ++ fb (sumI p) := by
  unfold sealB fb
  rw [ByteArray.data_append, Array.toList_append, strOfNums_data]
theorem fb_len (c : Int) : (fb c).length = 4 := rfl
theorem seal_size (p : ByteArray) : (sealB p).size = p.size + 4 := by
  have := congrArg List.length (seal_list p)
  rw [List.length_append, fb_len, Array.length_toList, Array.length_toList] at this
  exact this
theorem turned_list (p q : ByteArray) (k : Nat) (y : UInt8) (hk : k < p.size + 4) (hq : q.data.toList = ((sealB p).data.toList.set k y).take p.size)
    (h : (sealB q).data.toList = (sealB p).data.toList.set k y) : (sealB p).data.toList[k]? = some y := by
  have hP : p.data.toList.length = p.size := by rw [Array.length_toList]; rfl
  by_cases hkp : k < p.size
  · rw [seal_list, seal_list, List.set_append_left _ _ (by omega)] at h
    rw [seal_list, List.set_append_left _ _ (by omega), List.take_left' (by rw [List.length_set]; exact hP)] at hq
    rw [hq] at h
    have hs := fb_inj (sumI_bd q) (sumI_bd p) (List.append_cancel_left h)
    have h1 : p.data.toList = p.data.toList.take k ++ p.data.toList[k]'(by omega) :: p.data.toList.drop (k + 1) := by
      rw [← List.drop_eq_getElem_cons, List.take_append_drop]
    rw [List.set_eq_take_append_cons_drop, if_pos (by omega)] at hq
    have h2 := sum_turned h1 hq hs.symm
    rw [seal_list, List.getElem?_append_left (by omega), List.getElem?_eq_getElem (by omega), h2]
  · have h1 : q = p := by
      refine ByteArray.ext (Array.toList_inj.mp ?_)
      rw [hq, seal_list, List.set_append_right _ _ (by omega), List.take_left' hP]
    subst h1
    rw [h, List.getElem?_set_self (by have := seal_size q; rw [Array.length_toList]; exact Nat.lt_of_lt_of_eq hk this.symm)]
theorem xor_u8_ne (a d : Nat) (ha : a < 256) (hd : 0 < d) (hd' : d < 256) : a ^^^ d < 256 ∧ a ^^^ d ≠ a := by
  refine ⟨Nat.xor_lt_two_pow (n := 8) ha hd', fun h => ?_⟩
  have : d ^^^ a = 0 ^^^ a := by rw [Nat.xor_comm, h, Nat.zero_xor]
  have := xor_cancel this
  omega
def bl (s : ByteArray) : List Int := s.data.toList.map fun x => (x.toNat : Int)
theorem bl_len (s : ByteArray) : (bl s).length = s.size := by unfold bl; rw [List.length_map, Array.length_toList]; rfl
theorem bl_at (s : ByteArray) (k : Nat) (hk : k < s.size) : ∃ b : UInt8, s.data.toList[k]? = some b ∧ (bl s).getD k 0 = (b.toNat : Int) := by
  have hk' : k < s.data.toList.length := by rw [Array.length_toList]; exact hk
  refine ⟨s.data.toList[k], List.getElem?_eq_getElem hk', ?_⟩
  unfold bl
  rw [List.getD_eq_getElem?_getD, List.getElem?_map, List.getElem?_eq_getElem hk']
  rfl
def turnT (s : ByteArray) (k : Nat) (d : Int) : ByteArray := strOfNums ((bl s).set k (bits .xor .u8 ((bl s).getD k 0) d))
theorem turnT_size (s : ByteArray) (k : Nat) (d : Int) : (turnT s k d).size = s.size := by unfold turnT; rw [strOfNums_size, List.length_set, bl_len]
theorem turned (p : ByteArray) (k : Nat) (d : Int) (hk : k < p.size + 4) (hd : 1 ≤ d) (hd' : d < 256) :
    sealB ((turnT (sealB p) k d).extract 0 ((turnT (sealB p) k d).size - 4)) ≠ turnT (sealB p) k d := by
  intro h
  obtain ⟨b, hb, hb'⟩ := bl_at (sealB p) k (by rw [seal_size]; exact hk)
  have hlt := b.toNat_lt
  obtain ⟨hx, hne⟩ := xor_u8_ne b.toNat d.toNat hlt (by omega) (by omega)
  have hbx : bits .xor .u8 ((bl (sealB p)).getD k 0) d = ((b.toNat ^^^ d.toNat : Nat) : Int) := by
    rw [hb', Go.u8_xor _ _ (by omega) (by omega) (by omega) hd']
    rfl
  have hT : (turnT (sealB p) k d).data.toList = (sealB p).data.toList.set k (UInt8.ofNat (b.toNat ^^^ d.toNat)) := by
    unfold turnT
    rw [strOfNums_data, List.map_set, hbx]
    congr 1
    unfold bl
    rw [List.map_map]
    refine (List.map_congr_left (g := id) fun x _ => ?_).trans (List.map_id _)
    simp
  have hsz : (turnT (sealB p) k d).size - 4 = p.size := by rw [turnT_size, seal_size]; omega
  have hq : ((turnT (sealB p) k d).extract 0 ((turnT (sealB p) k d).size - 4)).data.toList = ((sealB p).data.toList.set k (UInt8.ofNat (b.toNat ^^^ d.toNat))).take p.size := by
    rw [hsz, ByteArray.data_extract, Array.toList_extract, hT]
    rfl
  have h1 := turned_list p _ k _ hk hq (by rw [h, hT])
  rw [hb] at h1
  have h2 := congrArg UInt8.toNat (Option.some.inj h1)
  rw [UInt8.toNat_ofNat', Nat.mod_eq_of_lt hx] at h2
  exact hne h2.symm
end Go.Proofs.YtjgomlcdmpcoaaaDoor.H
namespace Go.Proofs.YtjgomlcdmpcoaaaDoor.H
open Go.RowKit Go.Proofs.YtjgomlcdmpcoaaaDoorW.PrintWords Go.Proofs.YtjgomlcdmpcoaaaDoorW.PrintLast Go.Proofs.YtjgomlcdmpcoaaaDoorW.PrintMore
set_option linter.unusedVariables false
set_option maxRecDepth 100000 in
set_option maxHeartbeats 1000000 in
theorem sget_bad (t : ByteArray) (w : World) (hs : t.size ≤ maxLen) (h4 : 4 ≤ t.size) (hb : sealB (t.extract 0 (t.size - 4)) ≠ t) :
    Calls Tryd.prog 86 #[.string t] w fun e w' => e = .returned (.tuple #[.string ⟨#[]⟩, .int .i64 3]) ∧ Below w.heap.size w w' := by
  have hc := Lib.hid (seal_calls (t.extract 0 (t.size - 4)) w (by unfold maxLen at hs ⊢; rw [ByteArray.size_extract]; omega))
  unfold maxLen at hs
  go_enter Tryd.func86, Tryd.ntmps86
  go_wp2_with fail
  refine hc.out.mono ?_
  rintro e w' ⟨rfl, hb1⟩
  have hne : ((sealB (t.extract 0 (t.size - 4))).toList == t.toList) = false := by
    rw [beq_eq_false_iff_ne]
    intro h
    rw [ByteArray.toList_eq, ByteArray.toList_eq] at h
    exact hb (ByteArray.ext (Array.toList_inj.mp h))
  go_wp2
  go_ret2
  exact ⟨rfl, hb1⟩
end Go.Proofs.YtjgomlcdmpcoaaaDoor.H
namespace Go.Proofs.YtjgomlcdmpcoaaaDoor.H
open Go.RowKit Go.Proofs.YtjgomlcdmpcoaaaDoorW.PrintWords Go.Proofs.YtjgomlcdmpcoaaaDoorW.PrintLast Go.Proofs.YtjgomlcdmpcoaaaDoorW.PrintMore
set_option linter.unusedVariables false
theorem heap_alloc_old' (w : World) (o : Obj) {k : Nat} {x : Obj} (h : w.heap[k]? = some x) : (w.alloc o).heap[k]? = some x :=
  (heap_alloc_old w o (blk_lt h)).trans h
set_option maxRecDepth 100000 in
set_option maxHeartbeats 1000000 in
theorem dget_bad (t : ByteArray) (w : World) (hs : t.size ≤ maxLen) (h4 : 4 ≤ t.size) (hb : sealB (t.extract 0 (t.size - 4)) ≠ t) :
    Calls Tryd.prog 44 #[.string t] w fun e w' => e = .returned (.tuple #[.agg #[.int .i64 0, .slice none 0 0, .int .i64 0], .int .i64 3]) ∧ Below w.heap.size w w' := by
  have hc := Lib.hid (fun w => sget_bad t w hs h4 hb)
  clear hb
  go_enter_defers Tryd.func44, Tryd.ntmps44
  go_wp2_with fail
  refine (hc.out _).mono ?_
  rintro e w1 ⟨rfl, hb1⟩
  have hx0 := blk_below (heap_alloc_old' _ (Obj.cells #[.int .i64 0] 30) (heap_alloc_new w (Obj.cells #[.int .i64 0, .slice none 0 0, .int .i64 0] 28))) hb1
  have hx1 := blk_below (heap_alloc_new (w.alloc (Obj.cells #[.int .i64 0, .slice none 0 0, .int .i64 0] 28)) (Obj.cells #[.int .i64 0] 30)) hb1
  have hB : Below w.heap.size w w1 := below_then (below_alloc (below_alloc (Below.refl _ _) _) _) (by simp; omega) hb1
  have hz : w.heap.size + 2 ≤ w1.heap.size := by have := hb1.size; simpa using this
  rw [show (w.alloc (Obj.cells #[.int .i64 0, .slice none 0 0, .int .i64 0] 28)).heap.size = w.heap.size + 1 by simp] at hx1
  obtain ⟨g, hg⟩ : ∃ g, w.heap.size = g := ⟨_, rfl⟩
  rw [hg] at hx0 hx1 hz ⊢
  have a0 : w1.cell? ⟨g, 0, none⟩ = some (.int .i64 0) := Go.Proofs.YtjgomlcdmpcoaaaDoorW.PrintWords.blk_cell hx0 0
  have a1 : w1.cell? ⟨g, 1, none⟩ = some (.slice none 0 0) := Go.Proofs.YtjgomlcdmpcoaaaDoorW.PrintWords.blk_cell hx0 1
  have a2 : w1.cell? ⟨g, 2, none⟩ = some (.int .i64 0) := Go.Proofs.YtjgomlcdmpcoaaaDoorW.PrintWords.blk_cell hx0 2
  have f0 : w1.frozen? ⟨g, 0, none⟩ = false := blk_frozen hx0 0
  have f1 : w1.frozen? ⟨g, 1, none⟩ = false := blk_frozen hx0 1
  have f2 : w1.frozen? ⟨g, 2, none⟩ = false := blk_frozen hx0 2
  have f3 : w1.frozen? ⟨g + 1, 0, none⟩ = false := blk_frozen hx1 0
  have a3 : w1.cell? ⟨g + 1, 0, none⟩ = some (.int .i64 0) := Go.Proofs.YtjgomlcdmpcoaaaDoorW.PrintWords.blk_cell hx1 0
  go_wp2_with fail
  have hy1 := blk_put hx1 0 (.int .i64 3) rfl
  have hy0 := blk_far hx0 (p := ⟨g + 1, 0, none⟩) (by simp) (.int .i64 3)
  have hz2 : g + 2 ≤ (w1.setCell ⟨g + 1, 0, none⟩ (.int .i64 3)).heap.size := by simpa [World.setCell] using hz
  have hB2 : Below w.heap.size w (w1.setCell ⟨g + 1, 0, none⟩ (.int .i64 3)) := below_set hB (by omega)
  clear a0 a1 a2 a3 f0 f1 f2 f3 hx0 hx1 hb1 hB hz
  generalize w1.setCell ⟨g + 1, 0, none⟩ (.int .i64 3) = w2 at hy0 hy1 hz2 hB2 ⊢
  have a0 : w2.cell? ⟨g, 0, none⟩ = some (.int .i64 0) := Go.Proofs.YtjgomlcdmpcoaaaDoorW.PrintWords.blk_cell hy0 0
  have a1 : w2.cell? ⟨g, 1, none⟩ = some (.slice none 0 0) := Go.Proofs.YtjgomlcdmpcoaaaDoorW.PrintWords.blk_cell hy0 1
  have a2 : w2.cell? ⟨g, 2, none⟩ = some (.int .i64 0) := Go.Proofs.YtjgomlcdmpcoaaaDoorW.PrintWords.blk_cell hy0 2
  have f0 : w2.frozen? ⟨g, 0, none⟩ = false := blk_frozen hy0 0
  have f1 : w2.frozen? ⟨g, 1, none⟩ = false := blk_frozen hy0 1
  have f2 : w2.frozen? ⟨g, 2, none⟩ = false := blk_frozen hy0 2
  have f3 : w2.frozen? ⟨g + 1, 0, none⟩ = false := blk_frozen hy1 0
  have a3 : w2.cell? ⟨g + 1, 0, none⟩ = some (.int .i64 3) := Go.Proofs.YtjgomlcdmpcoaaaDoorW.PrintWords.blk_cell hy1 0
  have hu0 := blk_far (blk_put (blk_put (blk_put hy0 0 (.int .i64 0) rfl) 1 (.slice none 0 0) rfl) 2 (.int .i64 0) rfl) (p := ⟨g + 1, 0, none⟩) (by simp) (.int .i64 3)
  have hu1 := blk_put (blk_far (blk_far (blk_far hy1 (p := ⟨g, 0, none⟩) (by simp) (.int .i64 0)) (p := ⟨g, 1, none⟩) (by simp) (.slice none 0 0)) (p := ⟨g, 2, none⟩) (by simp) (.int .i64 0)) 0 (.int .i64 3) rfl
  have hB3 : Below w.heap.size w ((((w2.setCell ⟨g, 0, none⟩ (.int .i64 0)).setCell ⟨g, 1, none⟩ (.slice none 0 0)).setCell ⟨g, 2, none⟩ (.int .i64 0)).setCell ⟨g + 1, 0, none⟩ (.int .i64 3)) :=
    below_set (below_set (below_set (below_set hB2 (by omega)) (by omega)) (by omega)) (by omega)
  have HB3 := Aside0.mk hB3
  clear hB2 hB3
  go_region
  clear a0 a1 a2 a3 f0 f1 f2 f3 hy0 hy1 hz2
  generalize ((((w2.setCell ⟨g, 0, none⟩ (.int .i64 0)).setCell ⟨g, 1, none⟩ (.slice none 0 0)).setCell ⟨g, 2, none⟩ (.int .i64 0)).setCell ⟨g + 1, 0, none⟩ (.int .i64 3)) = w3 at hu0 hu1 HB3 ⊢
  have a0 : w3.cell? ⟨g, 0, none⟩ = some (.int .i64 0) := Go.Proofs.YtjgomlcdmpcoaaaDoorW.PrintWords.blk_cell hu0 0
  have a1 : w3.cell? ⟨g, 1, none⟩ = some (.slice none 0 0) := Go.Proofs.YtjgomlcdmpcoaaaDoorW.PrintWords.blk_cell hu0 1
  have a2 : w3.cell? ⟨g, 2, none⟩ = some (.int .i64 0) := Go.Proofs.YtjgomlcdmpcoaaaDoorW.PrintWords.blk_cell hu0 2
  have a3 : w3.cell? ⟨g + 1, 0, none⟩ = some (.int .i64 3) := Go.Proofs.YtjgomlcdmpcoaaaDoorW.PrintWords.blk_cell hu1 0
  go_wp2
  refine ⟨.tuple #[.agg #[.int .i64 0, .slice none 0 0, .int .i64 0], .int .i64 3], ?_, rfl, HB3.out.drew⟩
  simp [results, Tryd.results44, a0, a1, a2, a3, go_sem]
end Go.Proofs.YtjgomlcdmpcoaaaDoor.H
namespace Go.Proofs.YtjgomlcdmpcoaaaDoor.H
open Go.RowKit Go.Proofs.YtjgomlcdmpcoaaaDoorW.PrintWords Go.Proofs.YtjgomlcdmpcoaaaDoorW.PrintLast Go.Proofs.YtjgomlcdmpcoaaaDoorW.PrintMore
open Go.Proofs.YtjgomlcdmpcoaaaDoor.D Go.Proofs.YtjgomlcdmpcoaaaDoor
set_option linter.unusedVariables false
theorem place (a : Int) (n : Nat) (h0 : 0 < n) (h1 : n ≤ 10004) : ∃ k : Nat, wrap64 ((IntKind.u64.wrap a).tmod (n : Int)) = (k : Int) ∧ k < n := by
  have hw : 0 ≤ IntKind.u64.wrap a := by simp [IntKind.wrap, IntKind.bits, IntKind.signed]; omega
  have e : (IntKind.u64.wrap a).tmod (n : Int) = (IntKind.u64.wrap a) % (n : Int) := Int.tmod_eq_emod_of_nonneg hw
  have b0 := Int.emod_nonneg (IntKind.u64.wrap a) (show (n : Int) ≠ 0 by omega)
  have b1 := Int.emod_lt_of_pos (IntKind.u64.wrap a) (show (0 : Int) < n by omega)
  rw [e]
  generalize IntKind.u64.wrap a % (n : Int) = x at b0 b1
  refine ⟨x.toNat, ?_, by omega⟩
  unfold wrap64
  omega
theorem turn_cells (w : World) (g k n : Nat) (x : Int) (l : List Int) (hl : l.length = n) (h : ∀ i, i < n → w.cell? ⟨g, i, none⟩ = some (.int .u8 (l.getD i 0))) (hk : k < n) :
    ∀ i, i < n → (w.setCell ⟨g, k, none⟩ (.int .u8 x)).cell? ⟨g, 0 + i, none⟩ = some (.int .u8 ((l.set k x).getD i 0)) := by
  intro i hi
  rw [Nat.zero_add]
  by_cases e : i = k
  · subst e
    rw [World.cell?_setCell_same' w _ _ (by rw [h i hi]; rfl), List.getD_eq_getElem?_getD, List.getElem?_set_self (by omega)]
    rfl
  · rw [World.cell?_setCell_other (h := (by intro hh; injection hh; omega : (⟨g, k, none⟩ : Addr) ≠ ⟨g, i, none⟩)), h i hi, List.getD_eq_getElem?_getD, List.getD_eq_getElem?_getD, List.getElem?_set_ne (by omega)]
theorem bytes_facts (w : World) (s : ByteArray) : w.heap.size < (Lib.bytesWorld w 5 s).heap.size ∧ (∀ i, i < s.size → (Lib.bytesWorld w 5 s).cell? ⟨w.heap.size, i, none⟩ = some (.int .u8 ((bl s).getD i 0))) ∧ (∀ i, i < s.size → (Lib.bytesWorld w 5 s).frozen? ⟨w.heap.size, i, none⟩ = false) := by
  refine ⟨by rw [Lib.bytesWorld_size]; omega, fun i hi => ?_, fun i hi => ?_⟩
  · rw [Lib.bytesWorld_cell w 5 s i hi]
    obtain ⟨b, hb, hb'⟩ := bl_at s i hi
    rw [hb', List.getD_eq_getElem?_getD, hb]
    rfl
  · have hc : s.size ≤ (Lib.bytesCells w 5 s).size := by unfold Lib.bytesCells; rw [Array.size_append, Array.size_map]; exact Nat.le_add_right _ _
    have := Lib.bytesWorld_at_new w 5 s
    simp [World.frozen?, this]
    omega
set_option maxRecDepth 100000 in
set_option maxHeartbeats 4000000 in
theorem descTurned_calls (v : Int) (ts : List S70) (nx : Int) (hwf : ∀ t ∈ ts, TabWf t) (A : Option Addr) (c : Nat) (at_ with_ : Int) (ha : -9223372036854775808 ≤ at_ ∧ at_ < 9223372036854775808) (hw : 0 ≤ with_ ∧ with_ < 256) (w : World) (hG : GL w) (hc : ts.length ≤ c) (g2 : k70.C w A ts.length ts) :
    Calls Tryd.prog 14 #[.agg #[.int .i64 v, .slice A ts.length c, .int .i64 nx], .int .i64 at_, .int .u8 with_] w fun e w' => e = .returned (.bool true) ∧ Below w.heap.size w w' := by
  obtain ⟨gb, hgb⟩ := great_calls v ts nx
  have H1 := Lib.hid (fun w' h => hgb A c w' hc h)
  have H2 := Lib.hid (fun w' h1 h2 => dput_calls v ts nx hwf A c w' h1 h2)
  have H3 := Lib.hid (fun w' (h1 : GL w') h2 => rmay_calls v ts nx (fun t ht c hc => ((hwf t ht).2.1 c hc).2.2.2) A c w' hc h2)
  have H4 := Lib.hid awake6_calls
  have HG := Aside0.mk hG
  have HC := Aside0.mk g2
  clear hgb hG g2 hwf
  cases gb with
  | true =>
    go_enter Tryd.func14, Tryd.ntmps14
    go_wp2_with fail
    refine (H1.out _ (Kd.C_below HC.out (below_alloc (Below.refl _ _) _))).mono ?_
    rintro e w1 ⟨rfl, hb1⟩
    have HB1 := Aside0.mk (below_then (below_alloc (Below.refl _ _) _) (by simp) hb1 : Below w.heap.size w w1)
    clear hb1
    go_wp2_with fail
    refine (H4.out _ (HG.out.of_below HB1.out)).mono ?_
    rintro e w2 ⟨rfl, hb2⟩
    have HB2 := Aside0.mk (below_then HB1.out HB1.out.size hb2)
    clear hb2
    go_wp2
    go_ret
    exact ⟨rfl, HB2.out⟩
  | false =>
    cases hs : schB v ts nx with
    | false =>
      rw [hs] at H3
      clear hs H2
      go_enter Tryd.func14, Tryd.ntmps14
      go_wp2_with fail
      refine (H1.out _ (Kd.C_below HC.out (below_alloc (Below.refl _ _) _))).mono ?_
      rintro e w1 ⟨rfl, hb1⟩
      have HB1 := Aside0.mk (below_then (below_alloc (Below.refl _ _) _) (by simp) hb1 : Below w.heap.size w w1)
      have hx1 := blk_below (heap_alloc_new w (.cells #[.int .i64 v, .slice A ts.length c, .int .i64 nx] 28)) hb1
      have a0 := H.blk_cell (j := 0) (v := .int .i64 v) hx1 rfl
      have a1 := H.blk_cell (j := 1) (v := .slice A ts.length c) hx1 rfl
      have a2 := H.blk_cell (j := 2) (v := .int .i64 nx) hx1 rfl
      clear hb1 hx1
      go_wp2_with fail
      refine (H3.out _ (HG.out.of_below HB1.out) (Kd.C_below HC.out HB1.out)).mono ?_
      rintro e w2 ⟨rfl, hb2⟩
      have HB2 := Aside0.mk (below_then HB1.out HB1.out.size hb2)
      clear hb2 a0 a1 a2
      go_wp2_with fail
      refine (H4.out _ (HG.out.of_below HB2.out)).mono ?_
      rintro e w3 ⟨rfl, hb3⟩
      have HB3 := Aside0.mk (below_then HB2.out HB2.out.size hb3)
      clear hb3
      go_wp2
      go_ret
      exact ⟨rfl, HB3.out⟩
    | true =>
      obtain ⟨hl, _⟩ := schB_len hs
      have h1 : putS v ts nx = sealB (strOfNums (putL v ts nx)) := by unfold putS; rw [hs]; rfl
      have h2 : putE v ts nx = 0 := by unfold putE; rw [hs]; rfl
      rw [h1, h2] at H2
      rw [hs] at H3
      have hps : (strOfNums (putL v ts nx)).size ≤ 10000 := by rw [strOfNums_size]; exact hl
      clear h1 h2 hs hl
      obtain ⟨p, hp⟩ : ∃ p, strOfNums (putL v ts nx) = p := ⟨_, rfl⟩
      rw [hp] at H2 hps
      have HT := Lib.hid (fun k d => turned p k d)
      have hsz := seal_size p
      obtain ⟨s, hs⟩ : ∃ s, sealB p = s := ⟨_, rfl⟩
      rw [hs] at H2 HT hsz
      clear hs hp
      go_enter Tryd.func14, Tryd.ntmps14
      go_wp2_with fail
      refine (H1.out _ (Kd.C_below HC.out (below_alloc (Below.refl _ _) _))).mono ?_
      rintro e w1 ⟨rfl, hb1⟩
      have HB1 := Aside0.mk (below_then (below_alloc (Below.refl _ _) _) (by simp) hb1 : Below w.heap.size w w1)
      have hx1 := blk_below (heap_alloc_new w (.cells #[.int .i64 v, .slice A ts.length c, .int .i64 nx] 28)) hb1
      have HX1 := Aside0.mk hx1
      have a0 := H.blk_cell (j := 0) (v := .int .i64 v) hx1 rfl
      have a1 := H.blk_cell (j := 1) (v := .slice A ts.length c) hx1 rfl
      have a2 := H.blk_cell (j := 2) (v := .int .i64 nx) hx1 rfl
      clear hb1 hx1
      go_wp2_with fail
      refine (H3.out _ (HG.out.of_below HB1.out) (Kd.C_below HC.out HB1.out)).mono ?_
      rintro e w2 ⟨rfl, hb2⟩
      have HB2 := Aside0.mk (below_then HB1.out HB1.out.size hb2)
      have hx2 := blk_below HX1.out hb2
      have b0 := H.blk_cell (j := 0) (v := .int .i64 v) hx2 rfl
      have b1 := H.blk_cell (j := 1) (v := .slice A ts.length c) hx2 rfl
      have b2 := H.blk_cell (j := 2) (v := .int .i64 nx) hx2 rfl
      clear hb2 hx2 a0 a1 a2
      go_wp2_with fail
      refine (H2.out _ (HG.out.of_below HB2.out) (Kd.C_below HC.out HB2.out)).mono ?_
      rintro e w3 ⟨rfl, hb3⟩
      have HB3 := Aside0.mk (below_then HB2.out HB2.out.size hb3)
      clear hb3 b0 b1 b2
      have hz : ¬ s.size = 0 := by omega
      have hm : s.size ≤ 10004 := by omega
      have HZ := Aside0.mk hsz
      clear hsz
      have hcv := Lib.run_convert_string_bytes (P := Tryd.prog) w3 9 61 5 s Tryd.underlying9 Tryd.underlying61 Tryd.underlying5
      have hBb := bytes_below HB3.out HB3.out.size 5 s
      obtain ⟨gc, hgc⟩ : ∃ gc, grownCap w3 s.size 0 5 = gc := ⟨_, rfl⟩
      obtain ⟨g, hg⟩ : ∃ g, w3.heap.size = g := ⟨_, rfl⟩
      have hgw : w.heap.size ≤ g := hg ▸ HB3.out.size
      obtain ⟨f0, f1, f2⟩ := bytes_facts w3 s
      rw [hg] at f0 f1 f2 hcv
      rw [hgc] at hcv
      obtain ⟨wb, hwb⟩ : ∃ wb, Lib.bytesWorld w3 5 s = wb := ⟨_, rfl⟩
      rw [hwb] at f0 f1 f2 hcv hBb
      clear hwb hgc hg
      have HB4 := Aside0.mk hBb
      obtain ⟨k, hk, hks⟩ := place at_ s.size (by omega) (by omega)
      have c1 := f1 k hks
      have c2 := f2 k hks
      have F1 := Aside0.mk f1
      clear f1 f2 hBb
      have hd : 1 ≤ 1 + with_ % 255 ∧ 1 + with_ % 255 < 256 := by omega
      obtain ⟨x, hx⟩ : ∃ x, bits .xor .u8 ((bl s)[k]?.getD 0) (1 + with_ % 255) = x := ⟨_, rfl⟩
      have hcs := run_convert_bytes_arg (P := Tryd.prog) (wb.setCell ⟨g, k, none⟩ (.int .u8 x)) 61 5 Tryd.underlying61 Tryd.underlying5 g 0 s.size gc ((bl s).set k x) (by rw [List.length_set, bl_len])
        (turn_cells wb g k s.size x (bl s) (bl_len s) F1.out hks) 9 Tryd.underlying9
      have hT : strOfNums ((bl s).set k x) = turnT s k (1 + with_ % 255) := by unfold turnT; rw [List.getD_eq_getElem?_getD, hx]
      rw [hT] at hcs
      have hTs := turnT_size s k (1 + with_ % 255)
      have HD := Lib.hid (fun W => dget_bad (turnT s k (1 + with_ % 255)) W (by unfold maxLen; omega) (by rw [hTs]; have := HZ.out; omega) (HT.out k _ (by have := HZ.out; omega) hd.1 hd.2))
      obtain ⟨t, ht⟩ : ∃ t, turnT s k (1 + with_ % 255) = t := ⟨_, rfl⟩
      rw [ht] at HD hcs
      have HB5 := Aside0.mk (below_set HB4.out hgw : Below w.heap.size w (wb.setCell ⟨g, k, none⟩ (.int .u8 x)))
      clear hT hTs ht hd HT F1 HZ
      go_wp2_with (go_at_call 40; refine (num6_calls _ _).mono ?_; rintro e w' ⟨rfl, rfl⟩)
      refine (HD.out _).mono ?_
      rintro e w5 ⟨rfl, hb5⟩
      have HB6 := Aside0.mk (below_then HB5.out HB5.out.size hb5)
      clear hb5
      go_wp2_with (go_at_call 40; refine (num6_calls _ _).mono ?_; rintro e w' ⟨rfl, rfl⟩)
      refine (H4.out _ (HG.out.of_below (below_alloc HB6.out _))).mono ?_
      rintro e w6 ⟨rfl, hb6⟩
      have HB7 := Aside0.mk (below_then (below_alloc HB6.out _) (by have := HB6.out.size; simp; omega) hb6)
      clear hb6
      go_wp2
      go_ret
      exact ⟨rfl, HB7.out⟩
end Go.Proofs.YtjgomlcdmpcoaaaDoor.H
