/- Own texts of this session, packed by its program wip/pp/pack.py: lemmas and walks of functions. -/
import Derived.Test.YtjgomlcdmpcoaaaDoorKCC3
namespace Go.Proofs.YtjgomlcdmpcoaaaDoor.D
open Go.RowKit Go.Proofs.YtjgomlcdmpcoaaaDoorW.PrintWords Go.Proofs.YtjgomlcdmpcoaaaDoorW.PrintLast Go.Proofs.YtjgomlcdmpcoaaaDoorW.PrintMore
attribute [local go_sem] max2_int min2_int max_two min_two max_three min_three max_four min_four
set_option linter.unusedVariables false
set_option linter.unusedSimpArgs false
mutual
def falseworklaw6_Great.l0 : Nat → Int → Int → List (S70) → Int → Option (Bool)
 | 0, _, _, _, _ => none
 | k + 1, x3, x325000, x325001, x325002 => if x3 < (x325001.length : Int) then (if 0 ≤ x3 then (if (((rd_T70 x325001 x3).f1).size : Int) > 1000 then (falseworklaw6_Great.j1 k x3 true x325000 x325001 x325002 ((rd_T70 x325001 x3).f0) ((rd_T70 x325001 x3).f1) ((rd_T70 x325001 x3).f2) ((rd_T70 x325001 x3).f3) ((rd_T70 x325001 x3).f4)) else (if (((rd_T70 x325001 x3).f2).length : Int) > 50 then (falseworklaw6_Great.j1 k x3 true x325000 x325001 x325002 ((rd_T70 x325001 x3).f0) ((rd_T70 x325001 x3).f1) ((rd_T70 x325001 x3).f2) ((rd_T70 x325001 x3).f3) ((rd_T70 x325001 x3).f4)) else (falseworklaw6_Great.j1 k x3 (decide ((((rd_T70 x325001 x3).f3).length : Int) > 50)) x325000 x325001 x325002 ((rd_T70 x325001 x3).f0) ((rd_T70 x325001 x3).f1) ((rd_T70 x325001 x3).f2) ((rd_T70 x325001 x3).f3) ((rd_T70 x325001 x3).f4)))) else (none)) else (some false)
def falseworklaw6_Great.j1 : Nat → Int → Bool → Int → List (S70) → Int → Int → ByteArray → List (S75) → List (S98) → Int → Option (Bool)
 | 0, _, _, _, _, _, _, _, _, _, _ => none
 | k + 1, x3, x38, x325000, x325001, x325002, x327000, x327001, x327002, x327003, x327004 => if x38 = true then (some true) else (falseworklaw6_Great.l1 k x3 0 x325000 x325001 x325002 x327000 x327001 x327002 x327003 x327004)
def falseworklaw6_Great.l1 : Nat → Int → Int → Int → List (S70) → Int → Int → ByteArray → List (S75) → List (S98) → Int → Option (Bool)
 | 0, _, _, _, _, _, _, _, _, _, _ => none
 | k + 1, x3, x5, x325000, x325001, x325002, x327000, x327001, x327002, x327003, x327004 => if x5 < (x327002.length : Int) then (if 0 ≤ x5 then (if (((rd_T75 x327002 x5).f1).size : Int) > 1000 then (some true) else (if (((rd_T75 x327002 x5).f5.f3).size : Int) > 1000 then (some true) else (falseworklaw6_Great.l1 k x3 (wrap64 (x5 + 1)) x325000 x325001 x325002 x327000 x327001 x327002 x327003 x327004))) else (none)) else (falseworklaw6_Great.l2 k x3 0 x325000 x325001 x325002 x327000 x327001 x327002 x327003 x327004)
def falseworklaw6_Great.l2 : Nat → Int → Int → Int → List (S70) → Int → Int → ByteArray → List (S75) → List (S98) → Int → Option (Bool)
 | 0, _, _, _, _, _, _, _, _, _, _ => none
 | k + 1, x3, x6, x325000, x325001, x325002, x327000, x327001, x327002, x327003, x327004 => if x6 < (x327003.length : Int) then (if 0 ≤ x6 then (if (((rd_T98 x327003 x6).f1).size : Int) > 1000 then (some true) else (if (((rd_T98 x327003 x6).f2).length : Int) > 50 then (some true) else (falseworklaw6_Great.l2 k x3 (wrap64 (x6 + 1)) x325000 x325001 x325002 x327000 x327001 x327002 x327003 x327004))) else (none)) else (falseworklaw6_Great.l0 k (wrap64 (x3 + 1)) x325000 x325001 x325002)
end
def falseworklaw6_Great.f (k : Nat) (a0_0 : Int) (l0_1 : List (S70)) (a0_2 : Int) : Option (Bool) := if (l0_1.length : Int) > 20 then (some true) else (falseworklaw6_Great.l0 k 0 a0_0 l0_1 a0_2)
theorem falseworklaw6_Great.mono_l : ∀ k, (∀ y0 y1 y2 y3, LeO (falseworklaw6_Great.l0 k y0 y1 y2 y3) (falseworklaw6_Great.l0 (k + 1) y0 y1 y2 y3)) ∧ (∀ y0 y1 y2 y3 y4 y5 y6 y7 y8 y9, LeO (falseworklaw6_Great.j1 k y0 y1 y2 y3 y4 y5 y6 y7 y8 y9) (falseworklaw6_Great.j1 (k + 1) y0 y1 y2 y3 y4 y5 y6 y7 y8 y9)) ∧ (∀ y0 y1 y2 y3 y4 y5 y6 y7 y8 y9, LeO (falseworklaw6_Great.l1 k y0 y1 y2 y3 y4 y5 y6 y7 y8 y9) (falseworklaw6_Great.l1 (k + 1) y0 y1 y2 y3 y4 y5 y6 y7 y8 y9)) ∧ (∀ y0 y1 y2 y3 y4 y5 y6 y7 y8 y9, LeO (falseworklaw6_Great.l2 k y0 y1 y2 y3 y4 y5 y6 y7 y8 y9) (falseworklaw6_Great.l2 (k + 1) y0 y1 y2 y3 y4 y5 y6 y7 y8 y9))
 | 0 => ⟨fun _ _ _ _ r h => by simp [falseworklaw6_Great.l0] at h, fun _ _ _ _ _ _ _ _ _ _ r h => by simp [falseworklaw6_Great.j1] at h, fun _ _ _ _ _ _ _ _ _ _ r h => by simp [falseworklaw6_Great.l1] at h, fun _ _ _ _ _ _ _ _ _ _ r h => by simp [falseworklaw6_Great.l2] at h⟩
 | k + 1 => by
  obtain ⟨ih0, ih1, ih2, ih3⟩ := falseworklaw6_Great.mono_l k
  refine ⟨?_, ?_, ?_, ?_⟩
  ·intro y0 y1 y2 y3
   unfold falseworklaw6_Great.l0
   repeat' first
   | (with_reducible exact ih0 _ _ _ _)
   | (with_reducible exact ih1 _ _ _ _ _ _ _ _ _ _)
   | (with_reducible exact ih2 _ _ _ _ _ _ _ _ _ _)
   | (with_reducible exact ih3 _ _ _ _ _ _ _ _ _ _)
   | (with_reducible exact LeO.refl _)
   | (with_reducible exact LeO.none _)
   | (with_reducible refine LeO.ite ?_ ?_)
   | (with_reducible refine LeO.bind ?_ (fun _ => ?_))
   | exact ih0 _ _ _ _
   | exact ih1 _ _ _ _ _ _ _ _ _ _
   | exact ih2 _ _ _ _ _ _ _ _ _ _
   | exact ih3 _ _ _ _ _ _ _ _ _ _
   | exact LeO.none _
   | refine LeO.ite ?_ ?_
   | refine LeO.bind ?_ (fun _ => ?_)
  ·intro y0 y1 y2 y3 y4 y5 y6 y7 y8 y9
   unfold falseworklaw6_Great.j1
   repeat' first
   | (with_reducible exact ih0 _ _ _ _)
   | (with_reducible exact ih1 _ _ _ _ _ _ _ _ _ _)
   | (with_reducible exact ih2 _ _ _ _ _ _ _ _ _ _)
   | (with_reducible exact ih3 _ _ _ _ _ _ _ _ _ _)
   | (with_reducible exact LeO.refl _)
   | (with_reducible exact LeO.none _)
   | (with_reducible refine LeO.ite ?_ ?_)
   | (with_reducible refine LeO.bind ?_ (fun _ => ?_))
   | exact ih0 _ _ _ _
   | exact ih1 _ _ _ _ _ _ _ _ _ _
   | exact ih2 _ _ _ _ _ _ _ _ _ _
   | exact ih3 _ _ _ _ _ _ _ _ _ _
   | exact LeO.none _
   | refine LeO.ite ?_ ?_
   | refine LeO.bind ?_ (fun _ => ?_)
  ·intro y0 y1 y2 y3 y4 y5 y6 y7 y8 y9
   unfold falseworklaw6_Great.l1
   repeat' first
   | (with_reducible exact ih0 _ _ _ _)
   | (with_reducible exact ih1 _ _ _ _ _ _ _ _ _ _)
   | (with_reducible exact ih2 _ _ _ _ _ _ _ _ _ _)
   | (with_reducible exact ih3 _ _ _ _ _ _ _ _ _ _)
   | (with_reducible exact LeO.refl _)
   | (with_reducible exact LeO.none _)
   | (with_reducible refine LeO.ite ?_ ?_)
   | (with_reducible refine LeO.bind ?_ (fun _ => ?_))
   | exact ih0 _ _ _ _
   | exact ih1 _ _ _ _ _ _ _ _ _ _
   | exact ih2 _ _ _ _ _ _ _ _ _ _
   | exact ih3 _ _ _ _ _ _ _ _ _ _
   | exact LeO.none _
   | refine LeO.ite ?_ ?_
   | refine LeO.bind ?_ (fun _ => ?_)
  ·intro y0 y1 y2 y3 y4 y5 y6 y7 y8 y9
   unfold falseworklaw6_Great.l2
   repeat' first
   | (with_reducible exact ih0 _ _ _ _)
   | (with_reducible exact ih1 _ _ _ _ _ _ _ _ _ _)
   | (with_reducible exact ih2 _ _ _ _ _ _ _ _ _ _)
   | (with_reducible exact ih3 _ _ _ _ _ _ _ _ _ _)
   | (with_reducible exact LeO.refl _)
   | (with_reducible exact LeO.none _)
   | (with_reducible refine LeO.ite ?_ ?_)
   | (with_reducible refine LeO.bind ?_ (fun _ => ?_))
   | exact ih0 _ _ _ _
   | exact ih1 _ _ _ _ _ _ _ _ _ _
   | exact ih2 _ _ _ _ _ _ _ _ _ _
   | exact ih3 _ _ _ _ _ _ _ _ _ _
   | exact LeO.none _
   | refine LeO.ite ?_ ?_
   | refine LeO.bind ?_ (fun _ => ?_)
theorem falseworklaw6_Great.mono : ∀ a0 a1 a2 k, LeO (falseworklaw6_Great.f k a0 a1 a2) (falseworklaw6_Great.f (k + 1) a0 a1 a2) := by
 intro a0 a1 a2 k
 obtain ⟨ih0, ih1, ih2, ih3⟩ := falseworklaw6_Great.mono_l k
 unfold falseworklaw6_Great.f
 repeat' first
   | (with_reducible exact ih0 _ _ _ _)
   | (with_reducible exact ih1 _ _ _ _ _ _ _ _ _ _)
   | (with_reducible exact ih2 _ _ _ _ _ _ _ _ _ _)
   | (with_reducible exact ih3 _ _ _ _ _ _ _ _ _ _)
   | (with_reducible exact LeO.refl _)
   | (with_reducible exact LeO.none _)
   | (with_reducible refine LeO.ite ?_ ?_)
   | (with_reducible refine LeO.bind ?_ (fun _ => ?_))
   | exact ih0 _ _ _ _
   | exact ih1 _ _ _ _ _ _ _ _ _ _
   | exact ih2 _ _ _ _ _ _ _ _ _ _
   | exact ih3 _ _ _ _ _ _ _ _ _ _
   | exact LeO.none _
   | refine LeO.ite ?_ ?_
   | refine LeO.bind ?_ (fun _ => ?_)
set_option maxHeartbeats 8000000 in
set_option maxRecDepth 100000 in
theorem falseworklaw6_Great.calls (k : Nat) (a0_0 : Int) (A0_1 : Option Addr) (c0_1 : Nat) (l0_1 : List (S70)) (a0_2 : Int) (r : Bool) (w : World) (hr0_1 : Kd.C k70 w A0_1 l0_1.length l0_1) (hc0_1 : l0_1.length ≤ c0_1) (h : falseworklaw6_Great.f k a0_0 l0_1 a0_2 = some r) :
  Calls Tryd.prog 25 #[.agg #[.int .i64 a0_0, .slice A0_1 l0_1.length c0_1, .int .i64 a0_2]] w fun e w' => e = .returned (.bool r) ∧ Below w.heap.size w w' := by
 have hu28 := Tryd.underlying28
 have hu70 := Tryd.underlying70
 have HR0_1 := Aside0.mk hr0_1; have HC0_1 := Aside0.mk hc0_1; clear hr0_1 hc0_1; have HB := Aside0.mk (Below.refl w.heap.size w)
 have H : (if (l0_1.length : Int) > 20 then (some true) else (falseworklaw6_Great.l0 k 0 a0_0 l0_1 a0_2)) = some r := h
 clear h; by_cases c2 : (l0_1.length : Int) > 20
 ·rw [if_pos c2] at H
  have c2b0 : decide (20 < (l0_1.length : Int)) = true := decide_eq_true c2
  have c2b1 : decide (20 < l0_1.length) = true := decide_eq_true (by omega)
  clear c2; obtain rfl := Option.some.inj H; go_enter Tryd.func25, Tryd.ntmps25
  go_wp2; go_ret; exact ⟨by first | rfl | (simp [*] <;> rfl), by repeat (first | exact HB.out | exact Below.refl _ _ | apply below_alloc | apply pw_below_drewN | apply below_drew1)⟩
 ·rw [if_neg c2] at H
  have c2b0 : decide (20 < (l0_1.length : Int)) = false := decide_eq_false c2
  have c2b1 : decide (20 < l0_1.length) = false := decide_eq_false (by omega)
  clear c2; have H' := Aside0.mk H; clear H; go_enter Tryd.func25, Tryd.ntmps25
  go_wp2_with (first | ((with_reducible refine gate_dst (N := 1) rfl ?_); (try (refine gate_guard (by rfl) ?_; dsimp only)); refine box_event ?hg (N := 1) ?hd (cs := #[.int .i64 a0_0, .slice A0_1 l0_1.length c0_1, .int .i64 a0_2]) (t := 28) ?hr ?_; (case hd => rfl); (case hg => rfl); (case hr => first | (go_simp; done) | (go_simp; rfl)); intro gb324 hg w5 hbox hb; have n0_ := Aside0.mk (below_step (by repeat (first | (with_reducible first | exact HB.out | apply below_alloc | apply pw_below_drewN | apply below_drew1) | exact HB.out)) hb); have n1_ := Aside0.mk (hbox); have n2_ := Aside0.mk ((by rw [hg]; exact (below_size (by repeat (first | (with_reducible first | exact HB.out | apply below_alloc | apply pw_below_drewN | apply below_drew1) | exact HB.out))) : w.heap.size ≤ gb324)); have n3_ := Aside0.mk ((by rw [hg]; exact (below_size (by repeat (first | (with_reducible first | exact HB.out | apply below_alloc | apply pw_below_drewN | apply below_drew1) | exact HB.out))) : w.heap.size ≤ gb324)); clear HB; have HB := n0_; have BK324 := n1_; have GW324 := n2_; have GE324 := n3_; clear n0_ n1_ n2_ n3_; clear hb hbox hg; have hcz6_0 : w5.cell? ⟨gb324, 0, none⟩ = some (.int .i64 a0_0) := (pwC BK324.out 0).trans rfl; have hcz6_1 : w5.cell? ⟨gb324, 1, none⟩ = some (.slice A0_1 l0_1.length c0_1) := (pwC BK324.out 1).trans rfl; have hcz6_2 : w5.cell? ⟨gb324, 2, none⟩ = some (.int .i64 a0_2) := (pwC BK324.out 2).trans rfl; have hfz6_0 := blk_frozen BK324.out 0; have hfz6_1 := blk_frozen BK324.out 1; have hfz6_2 := blk_frozen BK324.out 2))
  go_loopg [3] k (fun kq v3 w' => ∃ (x3_1 : Int), v3 = .int .i64 x3_1 ∧ Aside0 (falseworklaw6_Great.l0 kq x3_1 a0_0 l0_1 a0_2 = some r) ∧ Aside0 (kq ≤ k) ∧ Aside0 (w'.heap[gb324]? = some (.cells #[.int .i64 a0_0, (.slice A0_1 l0_1.length c0_1), .int .i64 a0_2] 28 (0, 0))) ∧ Aside0 (Below w.heap.size w w'))
  case atStart => exact ⟨(0), (by first | rfl | (simp; done) | (simp [*]; done)), H', ⟨Nat.le_refl _⟩, ⟨by (with_reducible repeat (first | refine blk_drewN ?_ _ | refine blk_drew ?_ | refine blk_alloc ?_ _)); exact BK324.out⟩, ⟨by repeat (first | (with_reducible first | exact HB.out | apply below_alloc | apply pw_below_drewN | apply below_drew1 | refine below_set ?_ GE324.out) | exact HB.out)⟩⟩
  case round =>
   clear H'; obtain ⟨x3_1, rfl, HA, HK1, BK324, HB⟩ := hrel
   cases gk with
   | zero => exact absurd HA.out (by simp [falseworklaw6_Great.l0])
   | succ k1 =>
    have H := HA.out; clear HA; simp only [falseworklaw6_Great.l0] at H
    by_cases c7 : x3_1 < (l0_1.length : Int)
    ·rw [if_pos c7] at H
     have c7b0 : decide (x3_1 < (l0_1.length : Int)) = true := decide_eq_true c7
     clear c7; by_cases c8 : 0 ≤ x3_1
     ·rw [if_pos c8] at H
      have c8b0 : decide (0 ≤ x3_1) = true := decide_eq_true c8
      clear c8; have HC9 := Aside0.mk H; clear H; have hcz10_0 : wr.cell? ⟨gb324, 0, none⟩ = some (.int .i64 a0_0) := (pwC BK324.out 0).trans rfl
      have hcz10_1 : wr.cell? ⟨gb324, 1, none⟩ = some (.slice A0_1 l0_1.length c0_1) := (pwC BK324.out 1).trans rfl
      have hcz10_2 : wr.cell? ⟨gb324, 2, none⟩ = some (.int .i64 a0_2) := (pwC BK324.out 2).trans rfl
      have hfz10_0 := blk_frozen BK324.out 0
      have hfz10_1 := blk_frozen BK324.out 1
      have hfz10_2 := blk_frozen BK324.out 2
      have p325 : 0 ≤ (x3_1 : Int) := of_decide_eq_true (by first | (with_reducible assumption) | assumption)
      have q325 : x3_1 < (l0_1.length : Int) := of_decide_eq_true (by first | (with_reducible assumption) | assumption)
      obtain ⟨ad325, A325_2, c325_2, A325_3, c325_3, e325, hx325_0, hx325_1, hx325_2, hx325_3, hx325_4, hl325_2, hi325_2, hl325_3, hi325_3⟩ := at_T70 HR0_1.out x3_1 p325 q325
      cases e325
      replace hx325_0 := (HB.out.cell (World.block_lt_of_cell? w _ hx325_0)).trans hx325_0
      replace hx325_1 := (HB.out.cell (World.block_lt_of_cell? w _ hx325_1)).trans hx325_1
      replace hx325_2 := (HB.out.cell (World.block_lt_of_cell? w _ hx325_2)).trans hx325_2
      replace hx325_3 := (HB.out.cell (World.block_lt_of_cell? w _ hx325_3)).trans hx325_3
      replace hx325_4 := (HB.out.cell (World.block_lt_of_cell? w _ hx325_4)).trans hx325_4
      have HR325_2 := Aside0.mk hi325_2; have HC325_2 := Aside0.mk hl325_2; clear hi325_2 hl325_2; have HR325_3 := Aside0.mk hi325_3; have HC325_3 := Aside0.mk hl325_3; clear hi325_3 hl325_3; replace p325 := eq_true p325
      replace q325 := eq_true q325
      go_upto_region 7 with (first | ((with_reducible refine gate_dst (N := 4) rfl ?_); (try (refine gate_guard (by rfl) ?_; dsimp only)); refine box_event ?hg (N := 4) ?hd (cs := #[.int .i64 0, .string (⟨#[]⟩ : ByteArray), .slice none 0 0, .slice none 0 0, .int .i64 0]) (t := 70) ?hr ?_; (case hd => rfl); (case hg => rfl); (case hr => first | (go_simp; done) | (go_simp; rfl)); intro gb326 hg w11 hbox hb; have n0_ := Aside0.mk (blk_below (g := gb324) (o := .cells #[.int .i64 a0_0, .slice (some ad325) l0_1.length c0_1, .int .i64 a0_2] 28 (0, 0)) (by (with_reducible repeat (first | refine blk_drewN ?_ _ | refine blk_drew ?_ | refine blk_alloc ?_ _)); exact BK324.out) hb); have n1_ := Aside0.mk (below_step (by repeat (first | (with_reducible first | exact HB.out | apply below_alloc | apply pw_below_drewN | apply below_drew1 | refine below_set ?_ GE324.out) | exact HB.out)) hb); have n2_ := Aside0.mk (hbox); have n3_ := Aside0.mk ((by rw [hg]; exact (below_size (by repeat (first | (with_reducible first | exact HB.out | apply below_alloc | apply pw_below_drewN | apply below_drew1 | refine below_set ?_ GE324.out) | exact HB.out))) : w.heap.size ≤ gb326)); have n4_ := Aside0.mk ((by rw [hg]; exact (below_size (by repeat (first | (with_reducible first | exact HB.out | apply below_alloc | apply pw_below_drewN | apply below_drew1 | refine below_set ?_ GE324.out) | exact HB.out))) : w.heap.size ≤ gb326)); have n5_ := Aside0.mk ((by rw [hg]; exact Nat.ne_of_lt (blk_lt (g := gb324) (o := .cells #[.int .i64 a0_0, .slice (some ad325) l0_1.length c0_1, .int .i64 a0_2] 28 (0, 0)) (by (with_reducible repeat (first | refine blk_drewN ?_ _ | refine blk_drew ?_ | refine blk_alloc ?_ _)); exact BK324.out)) : gb324 ≠ gb326)); have n6_ := Aside0.mk ((by rw [hg]; exact Nat.ne_of_gt (blk_lt (g := gb324) (o := .cells #[.int .i64 a0_0, .slice (some ad325) l0_1.length c0_1, .int .i64 a0_2] 28 (0, 0)) (by (with_reducible repeat (first | refine blk_drewN ?_ _ | refine blk_drew ?_ | refine blk_alloc ?_ _)); exact BK324.out)) : gb326 ≠ gb324)); clear BK324; clear HB; have BK324 := n0_; have HB := n1_; have BK326 := n2_; have GW326 := n3_; have GE326 := n4_; have NB324_326 := n5_; have NB326_324 := n6_; clear n0_ n1_ n2_ n3_ n4_ n5_ n6_; clear hb hbox hg; have hnb12 := NB326_324.out; have hnc12 := NB324_326.out; have hcz13_0 : w11.cell? ⟨gb326, 0, none⟩ = some (.int .i64 0) := (pwC BK326.out 0).trans rfl; have hcz13_1 : w11.cell? ⟨gb326, 1, none⟩ = some (.string (⟨#[]⟩ : ByteArray)) := (pwC BK326.out 1).trans rfl; have hcz13_2 : w11.cell? ⟨gb326, 2, none⟩ = some (.slice none 0 0) := (pwC BK326.out 2).trans rfl; have hcz13_3 : w11.cell? ⟨gb326, 3, none⟩ = some (.slice none 0 0) := (pwC BK326.out 3).trans rfl; have hcz13_4 : w11.cell? ⟨gb326, 4, none⟩ = some (.int .i64 0) := (pwC BK326.out 4).trans rfl; have hfz13_0 := blk_frozen BK326.out 0; have hfz13_1 := blk_frozen BK326.out 1; have hfz13_2 := blk_frozen BK326.out 2; have hfz13_3 := blk_frozen BK326.out 3; have hfz13_4 := blk_frozen BK326.out 4))
      (try simp only [Act.put, List.setIfInBounds_toArray, List.set_cons_zero, List.set_cons_succ])
      go_cut [38] (fun v38 wc => ∃ (kq : Nat) (x38_8 : Bool), v38 = .bool x38_8 ∧ Aside0 (falseworklaw6_Great.j1 kq x3_1 x38_8 a0_0 l0_1 a0_2 ((rd_T70 l0_1 x3_1).f0) ((rd_T70 l0_1 x3_1).f1) ((rd_T70 l0_1 x3_1).f2) ((rd_T70 l0_1 x3_1).f3) ((rd_T70 l0_1 x3_1).f4) = some r) ∧ Aside0 (kq ≤ k1) ∧ Aside0 (wc.heap[gb324]? = some (.cells #[.int .i64 a0_0, (.slice (some ad325) l0_1.length c0_1), .int .i64 a0_2] 28 (0, 0))) ∧ Aside0 (wc.heap[gb326]? = some (.cells #[.int .i64 ((rd_T70 l0_1 x3_1).f0), .string ((rd_T70 l0_1 x3_1).f1), (.slice A325_2 ((rd_T70 l0_1 x3_1).f2).length c325_2), (.slice A325_3 ((rd_T70 l0_1 x3_1).f3).length c325_3), .int .i64 ((rd_T70 l0_1 x3_1).f4)] 70 (0, 0))) ∧ Aside0 (Below w.heap.size w wc))
      case first =>
       have H := HC9.out; clear HC9; by_cases c14 : (((rd_T70 l0_1 x3_1).f1).size : Int) > 1000
       ·rw [if_pos c14] at H
        have c14b0 : decide (1000 < (((rd_T70 l0_1 x3_1).f1).size : Int)) = true := decide_eq_true c14
        have c14b1 : decide (1000 < ((rd_T70 l0_1 x3_1).f1).size) = true := decide_eq_true (by omega)
        clear c14
        (first | rw [c14b0] | (simp only [i64_w, i32_w]; rw [c14b0]) | skip)
        have H' := Aside0.mk H; clear H; have hnb15 := NB326_324.out; have hnc15 := NB324_326.out; have hcz16_0 : w11.cell? ⟨gb326, 0, none⟩ = some (.int .i64 0) := (pwC BK326.out 0).trans rfl
        have hcz16_1 : w11.cell? ⟨gb326, 1, none⟩ = some (.string (⟨#[]⟩ : ByteArray)) := (pwC BK326.out 1).trans rfl
        have hcz16_2 : w11.cell? ⟨gb326, 2, none⟩ = some (.slice none 0 0) := (pwC BK326.out 2).trans rfl
        have hcz16_3 : w11.cell? ⟨gb326, 3, none⟩ = some (.slice none 0 0) := (pwC BK326.out 3).trans rfl
        have hcz16_4 : w11.cell? ⟨gb326, 4, none⟩ = some (.int .i64 0) := (pwC BK326.out 4).trans rfl
        have hfz16_0 := blk_frozen BK326.out 0
        have hfz16_1 := blk_frozen BK326.out 1
        have hfz16_2 := blk_frozen BK326.out 2
        have hfz16_3 := blk_frozen BK326.out 3
        have hfz16_4 := blk_frozen BK326.out 4
        go_wp2; go_meet
        case rel => exact ⟨_, (true), (by first | rfl | (simp; done) | (simp [*]; done)), H', ⟨by have := HK1.out; first | omega | exact Nat.le_refl _⟩, ⟨by (with_reducible repeat (first | refine blk_drewN ?_ _ | refine blk_drew ?_ | refine blk_alloc ?_ _)); refine blk_far ?_ NB324_326.out _; (with_reducible repeat (first | refine blk_drewN ?_ _ | refine blk_drew ?_ | refine blk_alloc ?_ _)); refine blk_far ?_ NB324_326.out _; (with_reducible repeat (first | refine blk_drewN ?_ _ | refine blk_drew ?_ | refine blk_alloc ?_ _)); refine blk_far ?_ NB324_326.out _; (with_reducible repeat (first | refine blk_drewN ?_ _ | refine blk_drew ?_ | refine blk_alloc ?_ _)); refine blk_far ?_ NB324_326.out _; (with_reducible repeat (first | refine blk_drewN ?_ _ | refine blk_drew ?_ | refine blk_alloc ?_ _)); refine blk_far ?_ NB324_326.out _; (with_reducible repeat (first | refine blk_drewN ?_ _ | refine blk_drew ?_ | refine blk_alloc ?_ _)); exact BK324.out⟩, ⟨by (with_reducible repeat (first | refine blk_drewN ?_ _ | refine blk_drew ?_ | refine blk_alloc ?_ _)); refine blk_put (cs := #[.int .i64 ((rd_T70 l0_1 x3_1).f0), .string ((rd_T70 l0_1 x3_1).f1), .slice A325_2 ((rd_T70 l0_1 x3_1).f2).length c325_2, .slice A325_3 ((rd_T70 l0_1 x3_1).f3).length c325_3, .int .i64 0]) ?_ 4 _ rfl; (with_reducible repeat (first | refine blk_drewN ?_ _ | refine blk_drew ?_ | refine blk_alloc ?_ _)); refine blk_put (cs := #[.int .i64 ((rd_T70 l0_1 x3_1).f0), .string ((rd_T70 l0_1 x3_1).f1), .slice A325_2 ((rd_T70 l0_1 x3_1).f2).length c325_2, .slice none 0 0, .int .i64 0]) ?_ 3 _ rfl; (with_reducible repeat (first | refine blk_drewN ?_ _ | refine blk_drew ?_ | refine blk_alloc ?_ _)); refine blk_put (cs := #[.int .i64 ((rd_T70 l0_1 x3_1).f0), .string ((rd_T70 l0_1 x3_1).f1), .slice none 0 0, .slice none 0 0, .int .i64 0]) ?_ 2 _ rfl; (with_reducible repeat (first | refine blk_drewN ?_ _ | refine blk_drew ?_ | refine blk_alloc ?_ _)); refine blk_put (cs := #[.int .i64 ((rd_T70 l0_1 x3_1).f0), .string (⟨#[]⟩ : ByteArray), .slice none 0 0, .slice none 0 0, .int .i64 0]) ?_ 1 _ rfl; (with_reducible repeat (first | refine blk_drewN ?_ _ | refine blk_drew ?_ | refine blk_alloc ?_ _)); refine blk_put (cs := #[.int .i64 0, .string (⟨#[]⟩ : ByteArray), .slice none 0 0, .slice none 0 0, .int .i64 0]) ?_ 0 _ rfl; (with_reducible repeat (first | refine blk_drewN ?_ _ | refine blk_drew ?_ | refine blk_alloc ?_ _)); exact BK326.out⟩, ⟨by repeat (first | (with_reducible first | exact HB.out | apply below_alloc | apply pw_below_drewN | apply below_drew1 | refine below_set ?_ GE324.out | refine below_set ?_ GE326.out) | exact HB.out)⟩⟩
       ·rw [if_neg c14] at H
        have c14b0 : decide (1000 < (((rd_T70 l0_1 x3_1).f1).size : Int)) = false := decide_eq_false c14
        have c14b1 : decide (1000 < ((rd_T70 l0_1 x3_1).f1).size) = false := decide_eq_false (by omega)
        clear c14
        (first | rw [c14b0] | (simp only [i64_w, i32_w]; rw [c14b0]) | skip)
        by_cases c17 : (((rd_T70 l0_1 x3_1).f2).length : Int) > 50
        ·rw [if_pos c17] at H
         have c17b0 : decide (50 < (((rd_T70 l0_1 x3_1).f2).length : Int)) = true := decide_eq_true c17
         have c17b1 : decide (50 < ((rd_T70 l0_1 x3_1).f2).length) = true := decide_eq_true (by omega)
         clear c17; have H' := Aside0.mk H; clear H; have hnb18 := NB326_324.out; have hnc18 := NB324_326.out; have hcz19_0 : w11.cell? ⟨gb326, 0, none⟩ = some (.int .i64 0) := (pwC BK326.out 0).trans rfl
         have hcz19_1 : w11.cell? ⟨gb326, 1, none⟩ = some (.string (⟨#[]⟩ : ByteArray)) := (pwC BK326.out 1).trans rfl
         have hcz19_2 : w11.cell? ⟨gb326, 2, none⟩ = some (.slice none 0 0) := (pwC BK326.out 2).trans rfl
         have hcz19_3 : w11.cell? ⟨gb326, 3, none⟩ = some (.slice none 0 0) := (pwC BK326.out 3).trans rfl
         have hcz19_4 : w11.cell? ⟨gb326, 4, none⟩ = some (.int .i64 0) := (pwC BK326.out 4).trans rfl
         have hfz19_0 := blk_frozen BK326.out 0
         have hfz19_1 := blk_frozen BK326.out 1
         have hfz19_2 := blk_frozen BK326.out 2
         have hfz19_3 := blk_frozen BK326.out 3
         have hfz19_4 := blk_frozen BK326.out 4
         go_wp2; go_meet
         case rel => exact ⟨_, (true), (by first | rfl | (simp; done) | (simp [*]; done)), H', ⟨by have := HK1.out; first | omega | exact Nat.le_refl _⟩, ⟨by (with_reducible repeat (first | refine blk_drewN ?_ _ | refine blk_drew ?_ | refine blk_alloc ?_ _)); refine blk_far ?_ NB324_326.out _; (with_reducible repeat (first | refine blk_drewN ?_ _ | refine blk_drew ?_ | refine blk_alloc ?_ _)); refine blk_far ?_ NB324_326.out _; (with_reducible repeat (first | refine blk_drewN ?_ _ | refine blk_drew ?_ | refine blk_alloc ?_ _)); refine blk_far ?_ NB324_326.out _; (with_reducible repeat (first | refine blk_drewN ?_ _ | refine blk_drew ?_ | refine blk_alloc ?_ _)); refine blk_far ?_ NB324_326.out _; (with_reducible repeat (first | refine blk_drewN ?_ _ | refine blk_drew ?_ | refine blk_alloc ?_ _)); refine blk_far ?_ NB324_326.out _; (with_reducible repeat (first | refine blk_drewN ?_ _ | refine blk_drew ?_ | refine blk_alloc ?_ _)); exact BK324.out⟩, ⟨by (with_reducible repeat (first | refine blk_drewN ?_ _ | refine blk_drew ?_ | refine blk_alloc ?_ _)); refine blk_put (cs := #[.int .i64 ((rd_T70 l0_1 x3_1).f0), .string ((rd_T70 l0_1 x3_1).f1), .slice A325_2 ((rd_T70 l0_1 x3_1).f2).length c325_2, .slice A325_3 ((rd_T70 l0_1 x3_1).f3).length c325_3, .int .i64 0]) ?_ 4 _ rfl; (with_reducible repeat (first | refine blk_drewN ?_ _ | refine blk_drew ?_ | refine blk_alloc ?_ _)); refine blk_put (cs := #[.int .i64 ((rd_T70 l0_1 x3_1).f0), .string ((rd_T70 l0_1 x3_1).f1), .slice A325_2 ((rd_T70 l0_1 x3_1).f2).length c325_2, .slice none 0 0, .int .i64 0]) ?_ 3 _ rfl; (with_reducible repeat (first | refine blk_drewN ?_ _ | refine blk_drew ?_ | refine blk_alloc ?_ _)); refine blk_put (cs := #[.int .i64 ((rd_T70 l0_1 x3_1).f0), .string ((rd_T70 l0_1 x3_1).f1), .slice none 0 0, .slice none 0 0, .int .i64 0]) ?_ 2 _ rfl; (with_reducible repeat (first | refine blk_drewN ?_ _ | refine blk_drew ?_ | refine blk_alloc ?_ _)); refine blk_put (cs := #[.int .i64 ((rd_T70 l0_1 x3_1).f0), .string (⟨#[]⟩ : ByteArray), .slice none 0 0, .slice none 0 0, .int .i64 0]) ?_ 1 _ rfl; (with_reducible repeat (first | refine blk_drewN ?_ _ | refine blk_drew ?_ | refine blk_alloc ?_ _)); refine blk_put (cs := #[.int .i64 0, .string (⟨#[]⟩ : ByteArray), .slice none 0 0, .slice none 0 0, .int .i64 0]) ?_ 0 _ rfl; (with_reducible repeat (first | refine blk_drewN ?_ _ | refine blk_drew ?_ | refine blk_alloc ?_ _)); exact BK326.out⟩, ⟨by repeat (first | (with_reducible first | exact HB.out | apply below_alloc | apply pw_below_drewN | apply below_drew1 | refine below_set ?_ GE324.out | refine below_set ?_ GE326.out) | exact HB.out)⟩⟩
        ·rw [if_neg c17] at H
         have c17b0 : decide (50 < (((rd_T70 l0_1 x3_1).f2).length : Int)) = false := decide_eq_false c17
         have c17b1 : decide (50 < ((rd_T70 l0_1 x3_1).f2).length) = false := decide_eq_false (by omega)
         clear c17; have H' := Aside0.mk H; clear H; have hnb20 := NB326_324.out; have hnc20 := NB324_326.out; have hcz21_0 : w11.cell? ⟨gb326, 0, none⟩ = some (.int .i64 0) := (pwC BK326.out 0).trans rfl
         have hcz21_1 : w11.cell? ⟨gb326, 1, none⟩ = some (.string (⟨#[]⟩ : ByteArray)) := (pwC BK326.out 1).trans rfl
         have hcz21_2 : w11.cell? ⟨gb326, 2, none⟩ = some (.slice none 0 0) := (pwC BK326.out 2).trans rfl
         have hcz21_3 : w11.cell? ⟨gb326, 3, none⟩ = some (.slice none 0 0) := (pwC BK326.out 3).trans rfl
         have hcz21_4 : w11.cell? ⟨gb326, 4, none⟩ = some (.int .i64 0) := (pwC BK326.out 4).trans rfl
         have hfz21_0 := blk_frozen BK326.out 0
         have hfz21_1 := blk_frozen BK326.out 1
         have hfz21_2 := blk_frozen BK326.out 2
         have hfz21_3 := blk_frozen BK326.out 3
         have hfz21_4 := blk_frozen BK326.out 4
         go_wp2; go_meet
         case rel => exact ⟨_, (decide ((((rd_T70 l0_1 x3_1).f3).length : Int) > 50)), (by first | rfl | (simp; done) | (simp [*]; done)), H', ⟨by have := HK1.out; first | omega | exact Nat.le_refl _⟩, ⟨by (with_reducible repeat (first | refine blk_drewN ?_ _ | refine blk_drew ?_ | refine blk_alloc ?_ _)); refine blk_far ?_ NB324_326.out _; (with_reducible repeat (first | refine blk_drewN ?_ _ | refine blk_drew ?_ | refine blk_alloc ?_ _)); refine blk_far ?_ NB324_326.out _; (with_reducible repeat (first | refine blk_drewN ?_ _ | refine blk_drew ?_ | refine blk_alloc ?_ _)); refine blk_far ?_ NB324_326.out _; (with_reducible repeat (first | refine blk_drewN ?_ _ | refine blk_drew ?_ | refine blk_alloc ?_ _)); refine blk_far ?_ NB324_326.out _; (with_reducible repeat (first | refine blk_drewN ?_ _ | refine blk_drew ?_ | refine blk_alloc ?_ _)); refine blk_far ?_ NB324_326.out _; (with_reducible repeat (first | refine blk_drewN ?_ _ | refine blk_drew ?_ | refine blk_alloc ?_ _)); exact BK324.out⟩, ⟨by (with_reducible repeat (first | refine blk_drewN ?_ _ | refine blk_drew ?_ | refine blk_alloc ?_ _)); refine blk_put (cs := #[.int .i64 ((rd_T70 l0_1 x3_1).f0), .string ((rd_T70 l0_1 x3_1).f1), .slice A325_2 ((rd_T70 l0_1 x3_1).f2).length c325_2, .slice A325_3 ((rd_T70 l0_1 x3_1).f3).length c325_3, .int .i64 0]) ?_ 4 _ rfl; (with_reducible repeat (first | refine blk_drewN ?_ _ | refine blk_drew ?_ | refine blk_alloc ?_ _)); refine blk_put (cs := #[.int .i64 ((rd_T70 l0_1 x3_1).f0), .string ((rd_T70 l0_1 x3_1).f1), .slice A325_2 ((rd_T70 l0_1 x3_1).f2).length c325_2, .slice none 0 0, .int .i64 0]) ?_ 3 _ rfl; (with_reducible repeat (first | refine blk_drewN ?_ _ | refine blk_drew ?_ | refine blk_alloc ?_ _)); refine blk_put (cs := #[.int .i64 ((rd_T70 l0_1 x3_1).f0), .string ((rd_T70 l0_1 x3_1).f1), .slice none 0 0, .slice none 0 0, .int .i64 0]) ?_ 2 _ rfl; (with_reducible repeat (first | refine blk_drewN ?_ _ | refine blk_drew ?_ | refine blk_alloc ?_ _)); refine blk_put (cs := #[.int .i64 ((rd_T70 l0_1 x3_1).f0), .string (⟨#[]⟩ : ByteArray), .slice none 0 0, .slice none 0 0, .int .i64 0]) ?_ 1 _ rfl; (with_reducible repeat (first | refine blk_drewN ?_ _ | refine blk_drew ?_ | refine blk_alloc ?_ _)); refine blk_put (cs := #[.int .i64 0, .string (⟨#[]⟩ : ByteArray), .slice none 0 0, .slice none 0 0, .int .i64 0]) ?_ 0 _ rfl; (with_reducible repeat (first | refine blk_drewN ?_ _ | refine blk_drew ?_ | refine blk_alloc ?_ _)); exact BK326.out⟩, ⟨by repeat (first | (with_reducible first | exact HB.out | apply below_alloc | apply pw_below_drewN | apply below_drew1 | refine below_set ?_ GE324.out | refine below_set ?_ GE326.out) | exact HB.out)⟩⟩
      case rest =>
       clear HC9; obtain ⟨kq, x38_8, rfl, HA, HJ8, BK324, BK326, HB⟩ := hcut
       cases kq with
       | zero => exact absurd HA.out (by simp [falseworklaw6_Great.j1])
       | succ kj8 =>
        have H := HA.out; clear HA; simp only [falseworklaw6_Great.j1] at H
        by_cases c22 : x38_8 = true
        ·subst c22
         have H1 : (some true) = some r := by rw [if_pos rfl] at H; exact H
         clear H; have H := H1; clear H1; obtain rfl := Option.some.inj H; go_wp2; go_ret; exact ⟨by first | rfl | (simp [*] <;> rfl), by repeat (first | exact HB.out | exact Below.refl _ _ | apply below_alloc | apply pw_below_drewN | apply below_drew1)⟩
        ·replace c22 := Bool.eq_false_iff.mpr c22
         subst c22; have H1 : (falseworklaw6_Great.l1 kj8 x3_1 0 a0_0 l0_1 a0_2 ((rd_T70 l0_1 x3_1).f0) ((rd_T70 l0_1 x3_1).f1) ((rd_T70 l0_1 x3_1).f2) ((rd_T70 l0_1 x3_1).f3) ((rd_T70 l0_1 x3_1).f4)) = some r := by rw [if_neg (show ¬ (false = true) by decide)] at H; exact H
         clear H; have H := H1; clear H1; have H' := Aside0.mk H; clear H; go_wp2; go_loopg [5] kj8 (fun kq v5 w' => ∃ (x5_3 : Int), v5 = .int .i64 x5_3 ∧ Aside0 (falseworklaw6_Great.l1 kq x3_1 x5_3 a0_0 l0_1 a0_2 ((rd_T70 l0_1 x3_1).f0) ((rd_T70 l0_1 x3_1).f1) ((rd_T70 l0_1 x3_1).f2) ((rd_T70 l0_1 x3_1).f3) ((rd_T70 l0_1 x3_1).f4) = some r) ∧ Aside0 (kq ≤ kj8) ∧ Aside0 (w'.heap[gb324]? = some (.cells #[.int .i64 a0_0, (.slice (some ad325) l0_1.length c0_1), .int .i64 a0_2] 28 (0, 0))) ∧ Aside0 (w'.heap[gb326]? = some (.cells #[.int .i64 ((rd_T70 l0_1 x3_1).f0), .string ((rd_T70 l0_1 x3_1).f1), (.slice A325_2 ((rd_T70 l0_1 x3_1).f2).length c325_2), (.slice A325_3 ((rd_T70 l0_1 x3_1).f3).length c325_3), .int .i64 ((rd_T70 l0_1 x3_1).f4)] 70 (0, 0))) ∧ Aside0 (Below w.heap.size w w'))
         case atStart => exact ⟨(0), (by first | rfl | (simp; done) | (simp [*]; done)), H', ⟨Nat.le_refl _⟩, ⟨by (with_reducible repeat (first | refine blk_drewN ?_ _ | refine blk_drew ?_ | refine blk_alloc ?_ _)); exact BK324.out⟩, ⟨by (with_reducible repeat (first | refine blk_drewN ?_ _ | refine blk_drew ?_ | refine blk_alloc ?_ _)); exact BK326.out⟩, ⟨by repeat (first | (with_reducible first | exact HB.out | apply below_alloc | apply pw_below_drewN | apply below_drew1 | refine below_set ?_ GE324.out | refine below_set ?_ GE326.out) | exact HB.out)⟩⟩
         case round =>
          clear H'; obtain ⟨x5_3, rfl, HA, HK3, BK324, BK326, HB⟩ := hrel
          cases gk with
          | zero => exact absurd HA.out (by simp [falseworklaw6_Great.l1])
          | succ k3 =>
           have H := HA.out; clear HA; simp only [falseworklaw6_Great.l1] at H
           by_cases c23 : x5_3 < (((rd_T70 l0_1 x3_1).f2).length : Int)
           ·rw [if_pos c23] at H
            have c23b0 : decide (x5_3 < (((rd_T70 l0_1 x3_1).f2).length : Int)) = true := decide_eq_true c23
            clear c23; by_cases c24 : 0 ≤ x5_3
            ·rw [if_pos c24] at H
             have c24b0 : decide (0 ≤ x5_3) = true := decide_eq_true c24
             clear c24; by_cases c25 : (((rd_T75 ((rd_T70 l0_1 x3_1).f2) x5_3).f1).size : Int) > 1000
             ·rw [if_pos c25] at H
              have c25b0 : decide (1000 < (((rd_T75 ((rd_T70 l0_1 x3_1).f2) x5_3).f1).size : Int)) = true := decide_eq_true c25
              have c25b1 : decide (1000 < ((rd_T75 ((rd_T70 l0_1 x3_1).f2) x5_3).f1).size) = true := decide_eq_true (by omega)
              clear c25; obtain rfl := Option.some.inj H; have hnb26 := NB326_324.out; have hnc26 := NB324_326.out; have hcz27_0 : wr.cell? ⟨gb326, 0, none⟩ = some (.int .i64 ((rd_T70 l0_1 x3_1).f0)) := (pwC BK326.out 0).trans rfl
              have hcz27_1 : wr.cell? ⟨gb326, 1, none⟩ = some (.string ((rd_T70 l0_1 x3_1).f1)) := (pwC BK326.out 1).trans rfl
              have hcz27_2 : wr.cell? ⟨gb326, 2, none⟩ = some (.slice A325_2 ((rd_T70 l0_1 x3_1).f2).length c325_2) := (pwC BK326.out 2).trans rfl
              have hcz27_3 : wr.cell? ⟨gb326, 3, none⟩ = some (.slice A325_3 ((rd_T70 l0_1 x3_1).f3).length c325_3) := (pwC BK326.out 3).trans rfl
              have hcz27_4 : wr.cell? ⟨gb326, 4, none⟩ = some (.int .i64 ((rd_T70 l0_1 x3_1).f4)) := (pwC BK326.out 4).trans rfl
              have hfz27_0 := blk_frozen BK326.out 0
              have hfz27_1 := blk_frozen BK326.out 1
              have hfz27_2 := blk_frozen BK326.out 2
              have hfz27_3 := blk_frozen BK326.out 3
              have hfz27_4 := blk_frozen BK326.out 4
              have p327 : 0 ≤ (x5_3 : Int) := of_decide_eq_true (by first | (with_reducible assumption) | assumption)
              have q327 : x5_3 < (((rd_T70 l0_1 x3_1).f2).length : Int) := of_decide_eq_true (by first | (with_reducible assumption) | assumption)
              obtain ⟨ad327, e327, hx327_0, hx327_1, hx327_2, hx327_3, hx327_4, hx327_5, hx327_6, hx327_7, hx327_8⟩ := at_T75 HR325_2.out x5_3 p327 q327
              cases e327
              replace hx327_0 := (HB.out.cell (World.block_lt_of_cell? w _ hx327_0)).trans hx327_0
              replace hx327_1 := (HB.out.cell (World.block_lt_of_cell? w _ hx327_1)).trans hx327_1
              replace hx327_2 := (HB.out.cell (World.block_lt_of_cell? w _ hx327_2)).trans hx327_2
              replace hx327_3 := (HB.out.cell (World.block_lt_of_cell? w _ hx327_3)).trans hx327_3
              replace hx327_4 := (HB.out.cell (World.block_lt_of_cell? w _ hx327_4)).trans hx327_4
              replace hx327_5 := (HB.out.cell (World.block_lt_of_cell? w _ hx327_5)).trans hx327_5
              replace hx327_6 := (HB.out.cell (World.block_lt_of_cell? w _ hx327_6)).trans hx327_6
              replace hx327_7 := (HB.out.cell (World.block_lt_of_cell? w _ hx327_7)).trans hx327_7
              replace hx327_8 := (HB.out.cell (World.block_lt_of_cell? w _ hx327_8)).trans hx327_8
              replace p327 := eq_true p327
              replace q327 := eq_true q327
              go_wp2; go_ret; exact ⟨by first | rfl | (simp [*] <;> rfl), by repeat (first | exact HB.out | exact Below.refl _ _ | apply below_alloc | apply pw_below_drewN | apply below_drew1)⟩
             ·rw [if_neg c25] at H
              have c25b0 : decide (1000 < (((rd_T75 ((rd_T70 l0_1 x3_1).f2) x5_3).f1).size : Int)) = false := decide_eq_false c25
              have c25b1 : decide (1000 < ((rd_T75 ((rd_T70 l0_1 x3_1).f2) x5_3).f1).size) = false := decide_eq_false (by omega)
              clear c25; by_cases c28 : (((rd_T75 ((rd_T70 l0_1 x3_1).f2) x5_3).f5.f3).size : Int) > 1000
              ·rw [if_pos c28] at H
               have c28b0 : decide (1000 < (((rd_T75 ((rd_T70 l0_1 x3_1).f2) x5_3).f5.f3).size : Int)) = true := decide_eq_true c28
               have c28b1 : decide (1000 < ((rd_T75 ((rd_T70 l0_1 x3_1).f2) x5_3).f5.f3).size) = true := decide_eq_true (by omega)
               clear c28; obtain rfl := Option.some.inj H; have hnb29 := NB326_324.out; have hnc29 := NB324_326.out; have hcz30_0 : wr.cell? ⟨gb326, 0, none⟩ = some (.int .i64 ((rd_T70 l0_1 x3_1).f0)) := (pwC BK326.out 0).trans rfl
               have hcz30_1 : wr.cell? ⟨gb326, 1, none⟩ = some (.string ((rd_T70 l0_1 x3_1).f1)) := (pwC BK326.out 1).trans rfl
               have hcz30_2 : wr.cell? ⟨gb326, 2, none⟩ = some (.slice A325_2 ((rd_T70 l0_1 x3_1).f2).length c325_2) := (pwC BK326.out 2).trans rfl
               have hcz30_3 : wr.cell? ⟨gb326, 3, none⟩ = some (.slice A325_3 ((rd_T70 l0_1 x3_1).f3).length c325_3) := (pwC BK326.out 3).trans rfl
               have hcz30_4 : wr.cell? ⟨gb326, 4, none⟩ = some (.int .i64 ((rd_T70 l0_1 x3_1).f4)) := (pwC BK326.out 4).trans rfl
               have hfz30_0 := blk_frozen BK326.out 0
               have hfz30_1 := blk_frozen BK326.out 1
               have hfz30_2 := blk_frozen BK326.out 2
               have hfz30_3 := blk_frozen BK326.out 3
               have hfz30_4 := blk_frozen BK326.out 4
               have p327 : 0 ≤ (x5_3 : Int) := of_decide_eq_true (by first | (with_reducible assumption) | assumption)
               have q327 : x5_3 < (((rd_T70 l0_1 x3_1).f2).length : Int) := of_decide_eq_true (by first | (with_reducible assumption) | assumption)
               obtain ⟨ad327, e327, hx327_0, hx327_1, hx327_2, hx327_3, hx327_4, hx327_5, hx327_6, hx327_7, hx327_8⟩ := at_T75 HR325_2.out x5_3 p327 q327
               cases e327
               replace hx327_0 := (HB.out.cell (World.block_lt_of_cell? w _ hx327_0)).trans hx327_0
               replace hx327_1 := (HB.out.cell (World.block_lt_of_cell? w _ hx327_1)).trans hx327_1
               replace hx327_2 := (HB.out.cell (World.block_lt_of_cell? w _ hx327_2)).trans hx327_2
               replace hx327_3 := (HB.out.cell (World.block_lt_of_cell? w _ hx327_3)).trans hx327_3
               replace hx327_4 := (HB.out.cell (World.block_lt_of_cell? w _ hx327_4)).trans hx327_4
               replace hx327_5 := (HB.out.cell (World.block_lt_of_cell? w _ hx327_5)).trans hx327_5
               replace hx327_6 := (HB.out.cell (World.block_lt_of_cell? w _ hx327_6)).trans hx327_6
               replace hx327_7 := (HB.out.cell (World.block_lt_of_cell? w _ hx327_7)).trans hx327_7
               replace hx327_8 := (HB.out.cell (World.block_lt_of_cell? w _ hx327_8)).trans hx327_8
               replace p327 := eq_true p327
               replace q327 := eq_true q327
               have p328 : 0 ≤ (x5_3 : Int) := of_decide_eq_true (by first | (with_reducible assumption) | assumption)
               have q328 : x5_3 < (((rd_T70 l0_1 x3_1).f2).length : Int) := of_decide_eq_true (by first | (with_reducible assumption) | assumption)
               obtain ⟨ad328, e328, hx328_0, hx328_1, hx328_2, hx328_3, hx328_4, hx328_5, hx328_6, hx328_7, hx328_8⟩ := at_T75 HR325_2.out x5_3 p328 q328
               obtain rfl : ad327 = ad328 := (by injection e328)
               replace hx328_0 := (HB.out.cell (World.block_lt_of_cell? w _ hx328_0)).trans hx328_0
               replace hx328_1 := (HB.out.cell (World.block_lt_of_cell? w _ hx328_1)).trans hx328_1
               replace hx328_2 := (HB.out.cell (World.block_lt_of_cell? w _ hx328_2)).trans hx328_2
               replace hx328_3 := (HB.out.cell (World.block_lt_of_cell? w _ hx328_3)).trans hx328_3
               replace hx328_4 := (HB.out.cell (World.block_lt_of_cell? w _ hx328_4)).trans hx328_4
               replace hx328_5 := (HB.out.cell (World.block_lt_of_cell? w _ hx328_5)).trans hx328_5
               replace hx328_6 := (HB.out.cell (World.block_lt_of_cell? w _ hx328_6)).trans hx328_6
               replace hx328_7 := (HB.out.cell (World.block_lt_of_cell? w _ hx328_7)).trans hx328_7
               replace hx328_8 := (HB.out.cell (World.block_lt_of_cell? w _ hx328_8)).trans hx328_8
               replace p328 := eq_true p328
               replace q328 := eq_true q328
               go_wp2; go_ret; exact ⟨by first | rfl | (simp [*] <;> rfl), by repeat (first | exact HB.out | exact Below.refl _ _ | apply below_alloc | apply pw_below_drewN | apply below_drew1)⟩
              ·rw [if_neg c28] at H
               have c28b0 : decide (1000 < (((rd_T75 ((rd_T70 l0_1 x3_1).f2) x5_3).f5.f3).size : Int)) = false := decide_eq_false c28
               have c28b1 : decide (1000 < ((rd_T75 ((rd_T70 l0_1 x3_1).f2) x5_3).f5.f3).size) = false := decide_eq_false (by omega)
               clear c28; have H' := Aside0.mk H; clear H; have hnb31 := NB326_324.out; have hnc31 := NB324_326.out; have hcz32_0 : wr.cell? ⟨gb326, 0, none⟩ = some (.int .i64 ((rd_T70 l0_1 x3_1).f0)) := (pwC BK326.out 0).trans rfl
               have hcz32_1 : wr.cell? ⟨gb326, 1, none⟩ = some (.string ((rd_T70 l0_1 x3_1).f1)) := (pwC BK326.out 1).trans rfl
               have hcz32_2 : wr.cell? ⟨gb326, 2, none⟩ = some (.slice A325_2 ((rd_T70 l0_1 x3_1).f2).length c325_2) := (pwC BK326.out 2).trans rfl
               have hcz32_3 : wr.cell? ⟨gb326, 3, none⟩ = some (.slice A325_3 ((rd_T70 l0_1 x3_1).f3).length c325_3) := (pwC BK326.out 3).trans rfl
               have hcz32_4 : wr.cell? ⟨gb326, 4, none⟩ = some (.int .i64 ((rd_T70 l0_1 x3_1).f4)) := (pwC BK326.out 4).trans rfl
               have hfz32_0 := blk_frozen BK326.out 0
               have hfz32_1 := blk_frozen BK326.out 1
               have hfz32_2 := blk_frozen BK326.out 2
               have hfz32_3 := blk_frozen BK326.out 3
               have hfz32_4 := blk_frozen BK326.out 4
               have p327 : 0 ≤ (x5_3 : Int) := of_decide_eq_true (by first | (with_reducible assumption) | assumption)
               have q327 : x5_3 < (((rd_T70 l0_1 x3_1).f2).length : Int) := of_decide_eq_true (by first | (with_reducible assumption) | assumption)
               obtain ⟨ad327, e327, hx327_0, hx327_1, hx327_2, hx327_3, hx327_4, hx327_5, hx327_6, hx327_7, hx327_8⟩ := at_T75 HR325_2.out x5_3 p327 q327
               cases e327
               replace hx327_0 := (HB.out.cell (World.block_lt_of_cell? w _ hx327_0)).trans hx327_0
               replace hx327_1 := (HB.out.cell (World.block_lt_of_cell? w _ hx327_1)).trans hx327_1
               replace hx327_2 := (HB.out.cell (World.block_lt_of_cell? w _ hx327_2)).trans hx327_2
               replace hx327_3 := (HB.out.cell (World.block_lt_of_cell? w _ hx327_3)).trans hx327_3
               replace hx327_4 := (HB.out.cell (World.block_lt_of_cell? w _ hx327_4)).trans hx327_4
               replace hx327_5 := (HB.out.cell (World.block_lt_of_cell? w _ hx327_5)).trans hx327_5
               replace hx327_6 := (HB.out.cell (World.block_lt_of_cell? w _ hx327_6)).trans hx327_6
               replace hx327_7 := (HB.out.cell (World.block_lt_of_cell? w _ hx327_7)).trans hx327_7
               replace hx327_8 := (HB.out.cell (World.block_lt_of_cell? w _ hx327_8)).trans hx327_8
               replace p327 := eq_true p327
               replace q327 := eq_true q327
               have p328 : 0 ≤ (x5_3 : Int) := of_decide_eq_true (by first | (with_reducible assumption) | assumption)
               have q328 : x5_3 < (((rd_T70 l0_1 x3_1).f2).length : Int) := of_decide_eq_true (by first | (with_reducible assumption) | assumption)
               obtain ⟨ad328, e328, hx328_0, hx328_1, hx328_2, hx328_3, hx328_4, hx328_5, hx328_6, hx328_7, hx328_8⟩ := at_T75 HR325_2.out x5_3 p328 q328
               obtain rfl : ad327 = ad328 := (by injection e328)
               replace hx328_0 := (HB.out.cell (World.block_lt_of_cell? w _ hx328_0)).trans hx328_0
               replace hx328_1 := (HB.out.cell (World.block_lt_of_cell? w _ hx328_1)).trans hx328_1
               replace hx328_2 := (HB.out.cell (World.block_lt_of_cell? w _ hx328_2)).trans hx328_2
               replace hx328_3 := (HB.out.cell (World.block_lt_of_cell? w _ hx328_3)).trans hx328_3
               replace hx328_4 := (HB.out.cell (World.block_lt_of_cell? w _ hx328_4)).trans hx328_4
               replace hx328_5 := (HB.out.cell (World.block_lt_of_cell? w _ hx328_5)).trans hx328_5
               replace hx328_6 := (HB.out.cell (World.block_lt_of_cell? w _ hx328_6)).trans hx328_6
               replace hx328_7 := (HB.out.cell (World.block_lt_of_cell? w _ hx328_7)).trans hx328_7
               replace hx328_8 := (HB.out.cell (World.block_lt_of_cell? w _ hx328_8)).trans hx328_8
               replace p328 := eq_true p328
               replace q328 := eq_true q328
               go_wp2; go_roundg k3
               case measure => have := HK1.out; have := HJ8.out; have := HK3.out; omega
               case rel => exact ⟨(wrap64 (x5_3 + 1)), (by first | rfl | (simp; done) | (simp [*]; done)), H', ⟨by have := HK1.out; have := HJ8.out; have := HK3.out; omega⟩, ⟨by (with_reducible repeat (first | refine blk_drewN ?_ _ | refine blk_drew ?_ | refine blk_alloc ?_ _)); exact BK324.out⟩, ⟨by (with_reducible repeat (first | refine blk_drewN ?_ _ | refine blk_drew ?_ | refine blk_alloc ?_ _)); exact BK326.out⟩, ⟨by repeat (first | (with_reducible first | exact HB.out | apply below_alloc | apply pw_below_drewN | apply below_drew1 | refine below_set ?_ GE324.out | refine below_set ?_ GE326.out) | exact HB.out)⟩⟩
            ·rw [if_neg c24] at H
             exact absurd H (by simp)
           ·rw [if_neg c23] at H
            have c23b0 : decide (x5_3 < (((rd_T70 l0_1 x3_1).f2).length : Int)) = false := decide_eq_false c23
            clear c23; have H' := Aside0.mk H; clear H; have hnb33 := NB326_324.out; have hnc33 := NB324_326.out; have hcz34_0 : wr.cell? ⟨gb326, 0, none⟩ = some (.int .i64 ((rd_T70 l0_1 x3_1).f0)) := (pwC BK326.out 0).trans rfl
            have hcz34_1 : wr.cell? ⟨gb326, 1, none⟩ = some (.string ((rd_T70 l0_1 x3_1).f1)) := (pwC BK326.out 1).trans rfl
            have hcz34_2 : wr.cell? ⟨gb326, 2, none⟩ = some (.slice A325_2 ((rd_T70 l0_1 x3_1).f2).length c325_2) := (pwC BK326.out 2).trans rfl
            have hcz34_3 : wr.cell? ⟨gb326, 3, none⟩ = some (.slice A325_3 ((rd_T70 l0_1 x3_1).f3).length c325_3) := (pwC BK326.out 3).trans rfl
            have hcz34_4 : wr.cell? ⟨gb326, 4, none⟩ = some (.int .i64 ((rd_T70 l0_1 x3_1).f4)) := (pwC BK326.out 4).trans rfl
            have hfz34_0 := blk_frozen BK326.out 0
            have hfz34_1 := blk_frozen BK326.out 1
            have hfz34_2 := blk_frozen BK326.out 2
            have hfz34_3 := blk_frozen BK326.out 3
            have hfz34_4 := blk_frozen BK326.out 4
            go_wp2; go_loopg [6] k3 (fun kq v6 w' => ∃ (x6_4 : Int), v6 = .int .i64 x6_4 ∧ Aside0 (falseworklaw6_Great.l2 kq x3_1 x6_4 a0_0 l0_1 a0_2 ((rd_T70 l0_1 x3_1).f0) ((rd_T70 l0_1 x3_1).f1) ((rd_T70 l0_1 x3_1).f2) ((rd_T70 l0_1 x3_1).f3) ((rd_T70 l0_1 x3_1).f4) = some r) ∧ Aside0 (kq ≤ k3) ∧ Aside0 (w'.heap[gb324]? = some (.cells #[.int .i64 a0_0, (.slice (some ad325) l0_1.length c0_1), .int .i64 a0_2] 28 (0, 0))) ∧ Aside0 (w'.heap[gb326]? = some (.cells #[.int .i64 ((rd_T70 l0_1 x3_1).f0), .string ((rd_T70 l0_1 x3_1).f1), (.slice A325_2 ((rd_T70 l0_1 x3_1).f2).length c325_2), (.slice A325_3 ((rd_T70 l0_1 x3_1).f3).length c325_3), .int .i64 ((rd_T70 l0_1 x3_1).f4)] 70 (0, 0))) ∧ Aside0 (Below w.heap.size w w'))
            case atStart => exact ⟨(0), (by first | rfl | (simp; done) | (simp [*]; done)), H', ⟨Nat.le_refl _⟩, ⟨by (with_reducible repeat (first | refine blk_drewN ?_ _ | refine blk_drew ?_ | refine blk_alloc ?_ _)); exact BK324.out⟩, ⟨by (with_reducible repeat (first | refine blk_drewN ?_ _ | refine blk_drew ?_ | refine blk_alloc ?_ _)); exact BK326.out⟩, ⟨by repeat (first | (with_reducible first | exact HB.out | apply below_alloc | apply pw_below_drewN | apply below_drew1 | refine below_set ?_ GE324.out | refine below_set ?_ GE326.out) | exact HB.out)⟩⟩
            case round =>
             clear H'; obtain ⟨x6_4, rfl, HA, HK4, BK324, BK326, HB⟩ := hrel
             cases gk with
             | zero => exact absurd HA.out (by simp [falseworklaw6_Great.l2])
             | succ k4 =>
              have H := HA.out; clear HA; simp only [falseworklaw6_Great.l2] at H
              by_cases c35 : x6_4 < (((rd_T70 l0_1 x3_1).f3).length : Int)
              ·rw [if_pos c35] at H
               have c35b0 : decide (x6_4 < (((rd_T70 l0_1 x3_1).f3).length : Int)) = true := decide_eq_true c35
               clear c35; by_cases c36 : 0 ≤ x6_4
               ·rw [if_pos c36] at H
                have c36b0 : decide (0 ≤ x6_4) = true := decide_eq_true c36
                clear c36; by_cases c37 : (((rd_T98 ((rd_T70 l0_1 x3_1).f3) x6_4).f1).size : Int) > 1000
                ·rw [if_pos c37] at H
                 have c37b0 : decide (1000 < (((rd_T98 ((rd_T70 l0_1 x3_1).f3) x6_4).f1).size : Int)) = true := decide_eq_true c37
                 have c37b1 : decide (1000 < ((rd_T98 ((rd_T70 l0_1 x3_1).f3) x6_4).f1).size) = true := decide_eq_true (by omega)
                 clear c37; obtain rfl := Option.some.inj H; have hnb38 := NB326_324.out; have hnc38 := NB324_326.out; have hcz39_0 : wr.cell? ⟨gb326, 0, none⟩ = some (.int .i64 ((rd_T70 l0_1 x3_1).f0)) := (pwC BK326.out 0).trans rfl
                 have hcz39_1 : wr.cell? ⟨gb326, 1, none⟩ = some (.string ((rd_T70 l0_1 x3_1).f1)) := (pwC BK326.out 1).trans rfl
                 have hcz39_2 : wr.cell? ⟨gb326, 2, none⟩ = some (.slice A325_2 ((rd_T70 l0_1 x3_1).f2).length c325_2) := (pwC BK326.out 2).trans rfl
                 have hcz39_3 : wr.cell? ⟨gb326, 3, none⟩ = some (.slice A325_3 ((rd_T70 l0_1 x3_1).f3).length c325_3) := (pwC BK326.out 3).trans rfl
                 have hcz39_4 : wr.cell? ⟨gb326, 4, none⟩ = some (.int .i64 ((rd_T70 l0_1 x3_1).f4)) := (pwC BK326.out 4).trans rfl
                 have hfz39_0 := blk_frozen BK326.out 0
                 have hfz39_1 := blk_frozen BK326.out 1
                 have hfz39_2 := blk_frozen BK326.out 2
                 have hfz39_3 := blk_frozen BK326.out 3
                 have hfz39_4 := blk_frozen BK326.out 4
                 have p329 : 0 ≤ (x6_4 : Int) := of_decide_eq_true (by first | (with_reducible assumption) | assumption)
                 have q329 : x6_4 < (((rd_T70 l0_1 x3_1).f3).length : Int) := of_decide_eq_true (by first | (with_reducible assumption) | assumption)
                 obtain ⟨ad329, A329_2, c329_2, e329, hx329_0, hx329_1, hx329_2, hx329_3, hx329_4, hl329_2, hi329_2⟩ := at_T98 HR325_3.out x6_4 p329 q329
                 cases e329
                 replace hx329_0 := (HB.out.cell (World.block_lt_of_cell? w _ hx329_0)).trans hx329_0
                 replace hx329_1 := (HB.out.cell (World.block_lt_of_cell? w _ hx329_1)).trans hx329_1
                 replace hx329_2 := (HB.out.cell (World.block_lt_of_cell? w _ hx329_2)).trans hx329_2
                 replace hx329_3 := (HB.out.cell (World.block_lt_of_cell? w _ hx329_3)).trans hx329_3
                 replace hx329_4 := (HB.out.cell (World.block_lt_of_cell? w _ hx329_4)).trans hx329_4
                 have HR329_2 := Aside0.mk hi329_2; have HC329_2 := Aside0.mk hl329_2; clear hi329_2 hl329_2; replace p329 := eq_true p329
                 replace q329 := eq_true q329
                 go_wp2; go_ret; exact ⟨by first | rfl | (simp [*] <;> rfl), by repeat (first | exact HB.out | exact Below.refl _ _ | apply below_alloc | apply pw_below_drewN | apply below_drew1)⟩
                ·rw [if_neg c37] at H
                 have c37b0 : decide (1000 < (((rd_T98 ((rd_T70 l0_1 x3_1).f3) x6_4).f1).size : Int)) = false := decide_eq_false c37
                 have c37b1 : decide (1000 < ((rd_T98 ((rd_T70 l0_1 x3_1).f3) x6_4).f1).size) = false := decide_eq_false (by omega)
                 clear c37; by_cases c40 : (((rd_T98 ((rd_T70 l0_1 x3_1).f3) x6_4).f2).length : Int) > 50
                 ·rw [if_pos c40] at H
                  have c40b0 : decide (50 < (((rd_T98 ((rd_T70 l0_1 x3_1).f3) x6_4).f2).length : Int)) = true := decide_eq_true c40
                  have c40b1 : decide (50 < ((rd_T98 ((rd_T70 l0_1 x3_1).f3) x6_4).f2).length) = true := decide_eq_true (by omega)
                  clear c40; obtain rfl := Option.some.inj H; have hnb41 := NB326_324.out; have hnc41 := NB324_326.out; have hcz42_0 : wr.cell? ⟨gb326, 0, none⟩ = some (.int .i64 ((rd_T70 l0_1 x3_1).f0)) := (pwC BK326.out 0).trans rfl
                  have hcz42_1 : wr.cell? ⟨gb326, 1, none⟩ = some (.string ((rd_T70 l0_1 x3_1).f1)) := (pwC BK326.out 1).trans rfl
                  have hcz42_2 : wr.cell? ⟨gb326, 2, none⟩ = some (.slice A325_2 ((rd_T70 l0_1 x3_1).f2).length c325_2) := (pwC BK326.out 2).trans rfl
                  have hcz42_3 : wr.cell? ⟨gb326, 3, none⟩ = some (.slice A325_3 ((rd_T70 l0_1 x3_1).f3).length c325_3) := (pwC BK326.out 3).trans rfl
                  have hcz42_4 : wr.cell? ⟨gb326, 4, none⟩ = some (.int .i64 ((rd_T70 l0_1 x3_1).f4)) := (pwC BK326.out 4).trans rfl
                  have hfz42_0 := blk_frozen BK326.out 0
                  have hfz42_1 := blk_frozen BK326.out 1
                  have hfz42_2 := blk_frozen BK326.out 2
                  have hfz42_3 := blk_frozen BK326.out 3
                  have hfz42_4 := blk_frozen BK326.out 4
                  have p329 : 0 ≤ (x6_4 : Int) := of_decide_eq_true (by first | (with_reducible assumption) | assumption)
                  have q329 : x6_4 < (((rd_T70 l0_1 x3_1).f3).length : Int) := of_decide_eq_true (by first | (with_reducible assumption) | assumption)
                  obtain ⟨ad329, A329_2, c329_2, e329, hx329_0, hx329_1, hx329_2, hx329_3, hx329_4, hl329_2, hi329_2⟩ := at_T98 HR325_3.out x6_4 p329 q329
                  cases e329
                  replace hx329_0 := (HB.out.cell (World.block_lt_of_cell? w _ hx329_0)).trans hx329_0
                  replace hx329_1 := (HB.out.cell (World.block_lt_of_cell? w _ hx329_1)).trans hx329_1
                  replace hx329_2 := (HB.out.cell (World.block_lt_of_cell? w _ hx329_2)).trans hx329_2
                  replace hx329_3 := (HB.out.cell (World.block_lt_of_cell? w _ hx329_3)).trans hx329_3
                  replace hx329_4 := (HB.out.cell (World.block_lt_of_cell? w _ hx329_4)).trans hx329_4
                  have HR329_2 := Aside0.mk hi329_2; have HC329_2 := Aside0.mk hl329_2; clear hi329_2 hl329_2; replace p329 := eq_true p329
                  replace q329 := eq_true q329
                  have p330 : 0 ≤ (x6_4 : Int) := of_decide_eq_true (by first | (with_reducible assumption) | assumption)
                  have q330 : x6_4 < (((rd_T70 l0_1 x3_1).f3).length : Int) := of_decide_eq_true (by first | (with_reducible assumption) | assumption)
                  obtain ⟨ad330, A330_2, c330_2, e330, hx330_0, hx330_1, hx330_2, hx330_3, hx330_4, hl330_2, hi330_2⟩ := at_T98 HR325_3.out x6_4 p330 q330
                  obtain rfl : ad329 = ad330 := (by injection e330)
                  replace hx330_0 := (HB.out.cell (World.block_lt_of_cell? w _ hx330_0)).trans hx330_0
                  replace hx330_1 := (HB.out.cell (World.block_lt_of_cell? w _ hx330_1)).trans hx330_1
                  replace hx330_2 := (HB.out.cell (World.block_lt_of_cell? w _ hx330_2)).trans hx330_2
                  replace hx330_3 := (HB.out.cell (World.block_lt_of_cell? w _ hx330_3)).trans hx330_3
                  replace hx330_4 := (HB.out.cell (World.block_lt_of_cell? w _ hx330_4)).trans hx330_4
                  have HR330_2 := Aside0.mk hi330_2; have HC330_2 := Aside0.mk hl330_2; clear hi330_2 hl330_2; replace p330 := eq_true p330
                  replace q330 := eq_true q330
                  have ea_ := Option.some.inj (hx329_2.symm.trans hx330_2)
                  injection ea_ with ea_ en_ ec_
                  subst ea_; subst ec_; clear en_; go_wp2; go_ret; exact ⟨by first | rfl | (simp [*] <;> rfl), by repeat (first | exact HB.out | exact Below.refl _ _ | apply below_alloc | apply pw_below_drewN | apply below_drew1)⟩
                 ·rw [if_neg c40] at H
                  have c40b0 : decide (50 < (((rd_T98 ((rd_T70 l0_1 x3_1).f3) x6_4).f2).length : Int)) = false := decide_eq_false c40
                  have c40b1 : decide (50 < ((rd_T98 ((rd_T70 l0_1 x3_1).f3) x6_4).f2).length) = false := decide_eq_false (by omega)
                  clear c40; have H' := Aside0.mk H; clear H; have hnb43 := NB326_324.out; have hnc43 := NB324_326.out; have hcz44_0 : wr.cell? ⟨gb326, 0, none⟩ = some (.int .i64 ((rd_T70 l0_1 x3_1).f0)) := (pwC BK326.out 0).trans rfl
                  have hcz44_1 : wr.cell? ⟨gb326, 1, none⟩ = some (.string ((rd_T70 l0_1 x3_1).f1)) := (pwC BK326.out 1).trans rfl
                  have hcz44_2 : wr.cell? ⟨gb326, 2, none⟩ = some (.slice A325_2 ((rd_T70 l0_1 x3_1).f2).length c325_2) := (pwC BK326.out 2).trans rfl
                  have hcz44_3 : wr.cell? ⟨gb326, 3, none⟩ = some (.slice A325_3 ((rd_T70 l0_1 x3_1).f3).length c325_3) := (pwC BK326.out 3).trans rfl
                  have hcz44_4 : wr.cell? ⟨gb326, 4, none⟩ = some (.int .i64 ((rd_T70 l0_1 x3_1).f4)) := (pwC BK326.out 4).trans rfl
                  have hfz44_0 := blk_frozen BK326.out 0
                  have hfz44_1 := blk_frozen BK326.out 1
                  have hfz44_2 := blk_frozen BK326.out 2
                  have hfz44_3 := blk_frozen BK326.out 3
                  have hfz44_4 := blk_frozen BK326.out 4
                  have p329 : 0 ≤ (x6_4 : Int) := of_decide_eq_true (by first | (with_reducible assumption) | assumption)
                  have q329 : x6_4 < (((rd_T70 l0_1 x3_1).f3).length : Int) := of_decide_eq_true (by first | (with_reducible assumption) | assumption)
                  obtain ⟨ad329, A329_2, c329_2, e329, hx329_0, hx329_1, hx329_2, hx329_3, hx329_4, hl329_2, hi329_2⟩ := at_T98 HR325_3.out x6_4 p329 q329
                  cases e329
                  replace hx329_0 := (HB.out.cell (World.block_lt_of_cell? w _ hx329_0)).trans hx329_0
                  replace hx329_1 := (HB.out.cell (World.block_lt_of_cell? w _ hx329_1)).trans hx329_1
                  replace hx329_2 := (HB.out.cell (World.block_lt_of_cell? w _ hx329_2)).trans hx329_2
                  replace hx329_3 := (HB.out.cell (World.block_lt_of_cell? w _ hx329_3)).trans hx329_3
                  replace hx329_4 := (HB.out.cell (World.block_lt_of_cell? w _ hx329_4)).trans hx329_4
                  have HR329_2 := Aside0.mk hi329_2; have HC329_2 := Aside0.mk hl329_2; clear hi329_2 hl329_2; replace p329 := eq_true p329
                  replace q329 := eq_true q329
                  have p330 : 0 ≤ (x6_4 : Int) := of_decide_eq_true (by first | (with_reducible assumption) | assumption)
                  have q330 : x6_4 < (((rd_T70 l0_1 x3_1).f3).length : Int) := of_decide_eq_true (by first | (with_reducible assumption) | assumption)
                  obtain ⟨ad330, A330_2, c330_2, e330, hx330_0, hx330_1, hx330_2, hx330_3, hx330_4, hl330_2, hi330_2⟩ := at_T98 HR325_3.out x6_4 p330 q330
                  obtain rfl : ad329 = ad330 := (by injection e330)
                  replace hx330_0 := (HB.out.cell (World.block_lt_of_cell? w _ hx330_0)).trans hx330_0
                  replace hx330_1 := (HB.out.cell (World.block_lt_of_cell? w _ hx330_1)).trans hx330_1
                  replace hx330_2 := (HB.out.cell (World.block_lt_of_cell? w _ hx330_2)).trans hx330_2
                  replace hx330_3 := (HB.out.cell (World.block_lt_of_cell? w _ hx330_3)).trans hx330_3
                  replace hx330_4 := (HB.out.cell (World.block_lt_of_cell? w _ hx330_4)).trans hx330_4
                  have HR330_2 := Aside0.mk hi330_2; have HC330_2 := Aside0.mk hl330_2; clear hi330_2 hl330_2; replace p330 := eq_true p330
                  replace q330 := eq_true q330
                  have ea_ := Option.some.inj (hx329_2.symm.trans hx330_2)
                  injection ea_ with ea_ en_ ec_
                  subst ea_; subst ec_; clear en_; go_wp2; go_roundg k4
                  case measure => have := HK1.out; have := HJ8.out; have := HK3.out; have := HK4.out; omega
                  case rel => exact ⟨(wrap64 (x6_4 + 1)), (by first | rfl | (simp; done) | (simp [*]; done)), H', ⟨by have := HK1.out; have := HJ8.out; have := HK3.out; have := HK4.out; omega⟩, ⟨by (with_reducible repeat (first | refine blk_drewN ?_ _ | refine blk_drew ?_ | refine blk_alloc ?_ _)); exact BK324.out⟩, ⟨by (with_reducible repeat (first | refine blk_drewN ?_ _ | refine blk_drew ?_ | refine blk_alloc ?_ _)); exact BK326.out⟩, ⟨by repeat (first | (with_reducible first | exact HB.out | apply below_alloc | apply pw_below_drewN | apply below_drew1 | refine below_set ?_ GE324.out | refine below_set ?_ GE326.out) | exact HB.out)⟩⟩
               ·rw [if_neg c36] at H
                exact absurd H (by simp)
              ·rw [if_neg c35] at H
               have c35b0 : decide (x6_4 < (((rd_T70 l0_1 x3_1).f3).length : Int)) = false := decide_eq_false c35
               clear c35; have H' := Aside0.mk H; clear H; have hnb45 := NB326_324.out; have hnc45 := NB324_326.out; have hcz46_0 : wr.cell? ⟨gb326, 0, none⟩ = some (.int .i64 ((rd_T70 l0_1 x3_1).f0)) := (pwC BK326.out 0).trans rfl
               have hcz46_1 : wr.cell? ⟨gb326, 1, none⟩ = some (.string ((rd_T70 l0_1 x3_1).f1)) := (pwC BK326.out 1).trans rfl
               have hcz46_2 : wr.cell? ⟨gb326, 2, none⟩ = some (.slice A325_2 ((rd_T70 l0_1 x3_1).f2).length c325_2) := (pwC BK326.out 2).trans rfl
               have hcz46_3 : wr.cell? ⟨gb326, 3, none⟩ = some (.slice A325_3 ((rd_T70 l0_1 x3_1).f3).length c325_3) := (pwC BK326.out 3).trans rfl
               have hcz46_4 : wr.cell? ⟨gb326, 4, none⟩ = some (.int .i64 ((rd_T70 l0_1 x3_1).f4)) := (pwC BK326.out 4).trans rfl
               have hfz46_0 := blk_frozen BK326.out 0
               have hfz46_1 := blk_frozen BK326.out 1
               have hfz46_2 := blk_frozen BK326.out 2
               have hfz46_3 := blk_frozen BK326.out 3
               have hfz46_4 := blk_frozen BK326.out 4
               go_wp2; go_roundg k4
               case measure => have := HK1.out; have := HJ8.out; have := HK3.out; have := HK4.out; omega
               case rel => exact ⟨(wrap64 (x3_1 + 1)), (by first | rfl | (simp; done) | (simp [*]; done)), H', ⟨by have := HK1.out; have := HJ8.out; have := HK3.out; have := HK4.out; omega⟩, ⟨by (with_reducible repeat (first | refine blk_drewN ?_ _ | refine blk_drew ?_ | refine blk_alloc ?_ _)); exact BK324.out⟩, ⟨by repeat (first | (with_reducible first | exact HB.out | apply below_alloc | apply pw_below_drewN | apply below_drew1 | refine below_set ?_ GE324.out | refine below_set ?_ GE326.out) | exact HB.out)⟩⟩
     ·rw [if_neg c8] at H
      exact absurd H (by simp)
    ·rw [if_neg c7] at H
     have c7b0 : decide (x3_1 < (l0_1.length : Int)) = false := decide_eq_false c7
     clear c7; obtain rfl := Option.some.inj H; have hcz47_0 : wr.cell? ⟨gb324, 0, none⟩ = some (.int .i64 a0_0) := (pwC BK324.out 0).trans rfl
     have hcz47_1 : wr.cell? ⟨gb324, 1, none⟩ = some (.slice A0_1 l0_1.length c0_1) := (pwC BK324.out 1).trans rfl
     have hcz47_2 : wr.cell? ⟨gb324, 2, none⟩ = some (.int .i64 a0_2) := (pwC BK324.out 2).trans rfl
     have hfz47_0 := blk_frozen BK324.out 0
     have hfz47_1 := blk_frozen BK324.out 1
     have hfz47_2 := blk_frozen BK324.out 2
     go_wp2; go_ret; exact ⟨by first | rfl | (simp [errW_none, errW_some] <;> rfl) | (simp [*, errW_none, errW_some] <;> rfl), by repeat (first | (with_reducible first | exact HB.out | apply below_alloc | apply pw_below_drewN | apply below_drew1 | refine below_set ?_ GE324.out) | exact HB.out)⟩
end Go.Proofs.YtjgomlcdmpcoaaaDoor.D
