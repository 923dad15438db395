/- Own texts of this session, packed by its program wip/pp/pack.py: lemmas and walks of functions. -/
import Derived.Defers
import Derived.Deep.QuietTactic
import Derived.WalkLawsBesides
import Derived.Outline
import Derived.Test.YtjgomlcdmpcoaaaDoorKBack1
import Derived.Test.YtjgomlcdmpcoaaaDoorKBack3
import Derived.Test.YtjgomlcdmpcoaaaDoorKBack4
namespace Go.Proofs.YtjgomlcdmpcoaaaDoor.D
open Go.RowKit Go.Proofs.YtjgomlcdmpcoaaaDoorW.PrintWords Go.Proofs.YtjgomlcdmpcoaaaDoorW.PrintLast Go.Proofs.YtjgomlcdmpcoaaaDoorW.PrintMore
attribute [local go_sem] max2_int min2_int max_two min_two max_three min_three max_four min_four
set_option linter.unusedVariables false
set_option linter.unusedSimpArgs false
mutual
def falseworklaw6_Great.l0 : Nat → Int → Int → List (S70) → Int → Option (Bool)
 | 0, _, _, _, _ => none
 | k + 1, x3, x325000, x325001, x325002 => if x3 < (x325001.length : Int) then (if 0 ≤ x3 then (if (((rd_T70 x325001 x3).f1).size : Int) > 1000 then (falseworklaw6_Great.j1 k x3 true x325000 x325001 x325002 ((rd_T70 x325001 x3).f0) ((rd_T70 x325001 x3).f1) ((rd_T70 x325001 x3).f2) ((rd_T70 x325001 x3).f3) ((rd_T70 x325001 x3).f4)) else (if (((rd_T70 x325001 x3).f2).length : Int) > 50 then (falseworklaw6_Great.j1 k x3 true x325000 x325001 x325002 ((rd_T70 x325001 x3).f0) ((rd_T70 x325001 x3).f1) ((rd_T70 x325001 x3).f2) ((rd_T70 x325001 x3).f3) ((rd_T70 x325001 x3).f4)) else (falseworklaw6_Great.j1 k x3 (decide ((((rd_T70 x325001 x3).f3).length : Int) > 50)) x325000 x325001 x325002 ((rd_T70 x325001 x3).f0) ((rd_T70 x325001 x3).f1) ((rd_T70 x325001 x3).f2) ((rd_T70 x325001 x3).f3) ((rd_T70 x325001 x3).f4)))) else (none)) else (some false)
def falseworklaw6_Great.j1 : Nat → Int → Bool → Int → List (S70) → Int → Int → ByteArray → List (S75) → List (S98) → Int → Option (Bool)
 | 0, _, _, _, _, _, _, _, _, _, _ => none
 | k + 1, x3, x38, x325000, x325001, x325002, x327000, x327001, x327002, x327003, x327004 => if x38 = true then (some true) else (falseworklaw6_Great.l1 k x3 0 x325000 x325001 x325002 x327000 x327001 x327002 x327003 x327004)
def falseworklaw6_Great.l1 : Nat → Int → Int → Int → List (S70) → Int → Int → ByteArray → List (S75) → List (S98) → Int → Option (Bool)
 | 0, _, _, _, _, _, _, _, _, _, _ => none
 | k + 1, x3, x5, x325000, x325001, x325002, x327000, x327001, x327002, x327003, x327004 => if x5 < (x327002.length : Int) then (if 0 ≤ x5 then (if (((rd_T75 x327002 x5).f1).size : Int) > 1000 then (some true) else (if (((rd_T75 x327002 x5).f5.f3).size : Int) > 1000 then (some true) else (falseworklaw6_Great.l1 k x3 (wrap64 (x5 + 1)) x325000 x325001 x325002 x327000 x327001 x327002 x327003 x327004))) else (none)) else (falseworklaw6_Great.l2 k x3 0 x325000 x325001 x325002 x327000 x327001 x327002 x327003 x327004)
def falseworklaw6_Great.l2 : Nat → Int → Int → Int → List (S70) → Int → Int → ByteArray → List (S75) → List (S98) → Int → Option (Bool)
 | 0, _, _, _, _, _, _, _, _, _, _ => none
 | k + 1, x3, x6, x325000, x325001, x325002, x327000, x327001, x327002, x327003, x327004 => if x6 < (x327003.length : Int) then (if 0 ≤ x6 then (if (((rd_T98 x327003 x6).f1).size : Int) > 1000 then (some true) else (if (((rd_T98 x327003 x6).f2).length : Int) > 50 then (some true) else (falseworklaw6_Great.l2 k x3 (wrap64 (x6 + 1)) x325000 x325001 x325002 x327000 x327001 x327002 x327003 x327004))) else (none)) else (falseworklaw6_Great.l0 k (wrap64 (x3 + 1)) x325000 x325001 x325002)
end
def falseworklaw6_Great.f (k : Nat) (a0_0 : Int) (l0_1 : List (S70)) (a0_2 : Int) : Option (Bool) := if (l0_1.length : Int) > 20 then (some true) else (falseworklaw6_Great.l0 k 0 a0_0 l0_1 a0_2)
theorem falseworklaw6_Great.mono_l : ∀ k, (∀ y0 y1 y2 y3, LeO (falseworklaw6_Great.l0 k y0 y1 y2 y3) (falseworklaw6_Great.l0 (k + 1) y0 y1 y2 y3)) ∧ (∀ y0 y1 y2 y3 y4 y5 y6 y7 y8 y9, LeO (falseworklaw6_Great.j1 k y0 y1 y2 y3 y4 y5 y6 y7 y8 y9) (falseworklaw6_Great.j1 (k + 1) y0 y1 y2 y3 y4 y5 y6 y7 y8 y9)) ∧ (∀ y0 y1 y2 y3 y4 y5 y6 y7 y8 y9, LeO (falseworklaw6_Great.l1 k y0 y1 y2 y3 y4 y5 y6 y7 y8 y9) (falseworklaw6_Great.l1 (k + 1) y0 y1 y2 y3 y4 y5 y6 y7 y8 y9)) ∧ (∀ y0 y1 y2 y3 y4 y5 y6 y7 y8 y9, LeO (falseworklaw6_Great.l2 k y0 y1 y2 y3 y4 y5 y6 y7 y8 y9) (falseworklaw6_Great.l2 (k + 1) y0 y1 y2 y3 y4 y5 y6 y7 y8 y9))
 | 0 => ⟨fun _ _ _ _ r h => by simp [falseworklaw6_Great.l0] at h, fun _ _ _ _ _ _ _ _ _ _ r h => by simp [falseworklaw6_Great.j1] at h, fun _ _ _ _ _ _ _ _ _ _ r h => by simp [falseworklaw6_Great.l1] at h, fun _ _ _ _ _ _ _ _ _ _ r h => by simp [falseworklaw6_Great.l2] at h⟩
 | k + 1 => by
  obtain ⟨ih0, ih1, ih2, ih3⟩ := falseworklaw6_Great.mono_l k
  refine ⟨?_, ?_, ?_, ?_⟩
  ·intro y0 y1 y2 y3
   unfold falseworklaw6_Great.l0
   repeat' first
   | (with_reducible exact ih0 _ _ _ _)
   | (with_reducible exact ih1 _ _ _ _ _ _ _ _ _ _)
   | (with_reducible exact ih2 _ _ _ _ _ _ _ _ _ _)
   | (with_reducible exact ih3 _ _ _ _ _ _ _ _ _ _)
   | (with_reducible exact LeO.refl _)
   | (with_reducible exact LeO.none _)
   | (with_reducible refine LeO.ite ?_ ?_)
   | (with_reducible refine LeO.bind ?_ (fun _ => ?_))
   | exact ih0 _ _ _ _
   | exact ih1 _ _ _ _ _ _ _ _ _ _
   | exact ih2 _ _ _ _ _ _ _ _ _ _
   | exact ih3 _ _ _ _ _ _ _ _ _ _
   | exact LeO.none _
   | refine LeO.ite ?_ ?_
   | refine LeO.bind ?_ (fun _ => ?_)
  ·intro y0 y1 y2 y3 y4 y5 y6 y7 y8 y9
   unfold falseworklaw6_Great.j1
   repeat' first
   | (with_reducible exact ih0 _ _ _ _)
   | (with_reducible exact ih1 _ _ _ _ _ _ _ _ _ _)
   | (with_reducible exact ih2 _ _ _ _ _ _ _ _ _ _)
   | (with_reducible exact ih3 _ _ _ _ _ _ _ _ _ _)
   | (with_reducible exact LeO.refl _)
   | (with_reducible exact LeO.none _)
   | (with_reducible refine LeO.ite ?_ ?_)
   | (with_reducible refine LeO.bind ?_ (fun _ => ?_))
   | exact ih0 _ _ _ _
   | exact ih1 _ _ _ _ _ _ _ _ _ _
   | exact ih2 _ _ _ _ _ _ _ _ _ _
   | exact ih3 _ _ _ _ _ _ _ _ _ _
   | exact LeO.none _
   | refine LeO.ite ?_ ?_
   | refine LeO.bind ?_ (fun _ => ?_)
  ·intro y0 y1 y2 y3 y4 y5 y6 y7 y8 y9
   unfold falseworklaw6_Great.l1
   repeat' first
   | (with_reducible exact ih0 _ _ _ _)
   | (with_reducible exact ih1 _ _ _ _ _ _ _ _ _ _)
   | (with_reducible exact ih2 _ _ _ _ _ _ _ _ _ _)
   | (with_reducible exact ih3 _ _ _ _ _ _ _ _ _ _)
   | (with_reducible exact LeO.refl _)
   | (with_reducible exact LeO.none _)
   | (with_reducible refine LeO.ite ?_ ?_)
   | (with_reducible refine LeO.bind ?_ (fun _ => ?_))
   | exact ih0 _ _ _ _
   | exact ih1 _ _ _ _ _ _ _ _ _ _
   | exact ih2 _ _ _ _ _ _ _ _ _ _
   | exact ih3 _ _ _ _ _ _ _ _ _ _
   | exact LeO.none _
   | refine LeO.ite ?_ ?_
   | refine LeO.bind ?_ (fun _ => ?_)
  ·intro y0 y1 y2 y3 y4 y5 y6 y7 y8 y9
   unfold falseworklaw6_Great.l2
   repeat' first
   | (with_reducible exact ih0 _ _ _ _)
   | (with_reducible exact ih1 _ _ _ _ _ _ _ _ _ _)
   | (with_reducible exact ih2 _ _ _ _ _ _ _ _ _ _)
   | (with_reducible exact ih3 _ _ _ _ _ _ _ _ _ _)
   | (with_reducible exact LeO.refl _)
   | (with_reducible exact LeO.none _)
   | (with_reducible refine LeO.ite ?_ ?_)
   | (with_reducible refine LeO.bind ?_ (fun _ => ?_))
   | exact ih0 _ _ _ _
   | exact ih1 _ _ _ _ _ _ _ _ _ _
   | exact ih2 _ _ _ _ _ _ _ _ _ _
   | exact ih3 _ _ _ _ _ _ _ _ _ _
   | exact LeO.none _
   | refine LeO.ite ?_ ?_
   | refine LeO.bind ?_ (fun _ => ?_)
theorem falseworklaw6_Great.mono : ∀ a0 a1 a2 k, LeO (falseworklaw6_Great.f k a0 a1 a2) (falseworklaw6_Great.f (k + 1) a0 a1 a2) := by
 intro a0 a1 a2 k
 obtain ⟨ih0, ih1, ih2, ih3⟩ := falseworklaw6_Great.mono_l k
 unfold falseworklaw6_Great.f
 repeat' first
   | (with_reducible exact ih0 _ _ _ _)
   | (with_reducible exact ih1 _ _ _ _ _ _ _ _ _ _)
   | (with_reducible exact ih2 _ _ _ _ _ _ _ _ _ _)
   | (with_reducible exact ih3 _ _ _ _ _ _ _ _ _ _)
   | (with_reducible exact LeO.refl _)
   | (with_reducible exact LeO.none _)
   | (with_reducible refine LeO.ite ?_ ?_)
   | (with_reducible refine LeO.bind ?_ (fun _ => ?_))
   | exact ih0 _ _ _ _
   | exact ih1 _ _ _ _ _ _ _ _ _ _
   | exact ih2 _ _ _ _ _ _ _ _ _ _
   | exact ih3 _ _ _ _ _ _ _ _ _ _
   | exact LeO.none _
   | refine LeO.ite ?_ ?_
   | refine LeO.bind ?_ (fun _ => ?_)
set_option maxHeartbeats 8000000 in
set_option maxRecDepth 100000 in
theorem falseworklaw6_Great.calls (k : Nat) (a0_0 : Int) (A0_1 : Option Addr) (c0_1 : Nat) (l0_1 : List (S70)) (a0_2 : Int) (r : Bool) (w : World) (hr0_1 : Kd.C k70 w A0_1 l0_1.length l0_1) (hc0_1 : l0_1.length ≤ c0_1) (h : falseworklaw6_Great.f k a0_0 l0_1 a0_2 = some r) :
  Calls Tryd.prog 25 #[.agg #[.int .i64 a0_0, .slice A0_1 l0_1.length c0_1, .int .i64 a0_2]] w fun e w' => e = .returned (.bool r) ∧ Below w.heap.size w w' := by
 have hu28 := Tryd.underlying28
 have hu70 := Tryd.underlying70
 have HR0_1 := Aside0.mk hr0_1; have HC0_1 := Aside0.mk hc0_1; clear hr0_1 hc0_1; have HB := Aside0.mk (Below.refl w.heap.size w)
 have H : (if (l0_1.length : Int) > 20 then (some true) else (falseworklaw6_Great.l0 k 0 a0_0 l0_1 a0_2)) = some r := h
 clear h; by_cases c2 : (l0_1.length : Int) > 20
 ·rw [if_pos c2] at H
  have c2b0 : decide (20 < (l0_1.length : Int)) = true := decide_eq_true c2
  have c2b1 : decide (20 < l0_1.length) = true := decide_eq_true (by omega)
  clear c2; obtain rfl := Option.some.inj H; go_enter Tryd.func25, Tryd.ntmps25
  go_wp2_with (first | ((with_reducible refine gate_dst (N := 1) rfl ?_); (try (refine gate_guard (by rfl) ?_; dsimp only)); refine box_event ?hg (N := 1) ?hd (cs := #[.int .i64 a0_0, .slice A0_1 l0_1.length c0_1, .int .i64 a0_2]) (t := 28) ?hr ?_; (case hd => rfl); (case hg => rfl); (case hr => first | (go_simp; done) | (go_simp; rfl)); intro gb324 hg w3 hbox hb; have n0_ := Aside0.mk (below_step (by repeat (first | (with_reducible first | exact HB.out | apply below_alloc | apply pw_below_drewN | apply below_drew1) | exact HB.out)) hb); have n1_ := Aside0.mk (hbox); have n2_ := Aside0.mk ((by rw [hg]; exact (below_size (by repeat (first | (with_reducible first | exact HB.out | apply below_alloc | apply pw_below_drewN | apply below_drew1) | exact HB.out))) : w.heap.size ≤ gb324)); have n3_ := Aside0.mk ((by rw [hg]; exact (below_size (by repeat (first | (with_reducible first | exact HB.out | apply below_alloc | apply pw_below_drewN | apply below_drew1) | exact HB.out))) : w.heap.size ≤ gb324)); clear HB; have HB := n0_; have BK324 := n1_; have GW324 := n2_; have GE324 := n3_; clear n0_ n1_ n2_ n3_; clear hb hbox hg; have hcz4_0 : w3.cell? ⟨gb324, 0, none⟩ = some (.int .i64 a0_0) := (Go.Proofs.YtjgomlcdmpcoaaaDoorW.PrintWords.blk_cell BK324.out 0).trans rfl; have hcz4_1 : w3.cell? ⟨gb324, 1, none⟩ = some (.slice A0_1 l0_1.length c0_1) := (Go.Proofs.YtjgomlcdmpcoaaaDoorW.PrintWords.blk_cell BK324.out 1).trans rfl; have hcz4_2 : w3.cell? ⟨gb324, 2, none⟩ = some (.int .i64 a0_2) := (Go.Proofs.YtjgomlcdmpcoaaaDoorW.PrintWords.blk_cell BK324.out 2).trans rfl; have hfz4_0 := blk_frozen BK324.out 0; have hfz4_1 := blk_frozen BK324.out 1; have hfz4_2 := blk_frozen BK324.out 2))
  go_ret; exact ⟨by first | rfl | (simp [errW_none, errW_some] <;> rfl) | (simp [*, errW_none, errW_some] <;> rfl), by repeat (first | (with_reducible first | exact HB.out | apply below_alloc | apply pw_below_drewN | apply below_drew1 | refine below_set ?_ GE324.out) | exact HB.out)⟩
 ·rw [if_neg c2] at H
  have c2b0 : decide (20 < (l0_1.length : Int)) = false := decide_eq_false c2
  have c2b1 : decide (20 < l0_1.length) = false := decide_eq_false (by omega)
  clear c2; have H' := Aside0.mk H; clear H; go_enter Tryd.func25, Tryd.ntmps25
  go_wp2_with (first | ((with_reducible refine gate_dst (N := 1) rfl ?_); (try (refine gate_guard (by rfl) ?_; dsimp only)); refine box_event ?hg (N := 1) ?hd (cs := #[.int .i64 a0_0, .slice A0_1 l0_1.length c0_1, .int .i64 a0_2]) (t := 28) ?hr ?_; (case hd => rfl); (case hg => rfl); (case hr => first | (go_simp; done) | (go_simp; rfl)); intro gb324 hg w5 hbox hb; have n0_ := Aside0.mk (below_step (by repeat (first | (with_reducible first | exact HB.out | apply below_alloc | apply pw_below_drewN | apply below_drew1) | exact HB.out)) hb); have n1_ := Aside0.mk (hbox); have n2_ := Aside0.mk ((by rw [hg]; exact (below_size (by repeat (first | (with_reducible first | exact HB.out | apply below_alloc | apply pw_below_drewN | apply below_drew1) | exact HB.out))) : w.heap.size ≤ gb324)); have n3_ := Aside0.mk ((by rw [hg]; exact (below_size (by repeat (first | (with_reducible first | exact HB.out | apply below_alloc | apply pw_below_drewN | apply below_drew1) | exact HB.out))) : w.heap.size ≤ gb324)); clear HB; have HB := n0_; have BK324 := n1_; have GW324 := n2_; have GE324 := n3_; clear n0_ n1_ n2_ n3_; clear hb hbox hg; have hcz6_0 : w5.cell? ⟨gb324, 0, none⟩ = some (.int .i64 a0_0) := (Go.Proofs.YtjgomlcdmpcoaaaDoorW.PrintWords.blk_cell BK324.out 0).trans rfl; have hcz6_1 : w5.cell? ⟨gb324, 1, none⟩ = some (.slice A0_1 l0_1.length c0_1) := (Go.Proofs.YtjgomlcdmpcoaaaDoorW.PrintWords.blk_cell BK324.out 1).trans rfl; have hcz6_2 : w5.cell? ⟨gb324, 2, none⟩ = some (.int .i64 a0_2) := (Go.Proofs.YtjgomlcdmpcoaaaDoorW.PrintWords.blk_cell BK324.out 2).trans rfl; have hfz6_0 := blk_frozen BK324.out 0; have hfz6_1 := blk_frozen BK324.out 1; have hfz6_2 := blk_frozen BK324.out 2))
  go_loopg [3] k (fun kq v3 w' => ∃ (x3_1 : Int), v3 = .int .i64 x3_1 ∧ Aside0 (falseworklaw6_Great.l0 kq x3_1 a0_0 l0_1 a0_2 = some r) ∧ Aside0 (kq ≤ k) ∧ Aside0 (w'.heap[gb324]? = some (.cells #[.int .i64 a0_0, (.slice A0_1 l0_1.length c0_1), .int .i64 a0_2] 28 (0, 0))) ∧ Aside0 (Below w.heap.size w w'))
  case atStart => exact ⟨(0), (by first | rfl | (simp; done) | (simp [*]; done)), H', ⟨Nat.le_refl _⟩, ⟨by (with_reducible repeat (first | refine blk_drewN ?_ _ | refine blk_drew ?_ | refine blk_alloc ?_ _)); exact BK324.out⟩, ⟨by repeat (first | (with_reducible first | exact HB.out | apply below_alloc | apply pw_below_drewN | apply below_drew1 | refine below_set ?_ GE324.out) | exact HB.out)⟩⟩
  case round =>
   clear H'; (try clear c2); (try clear c2b0); (try clear c2b1); (try clear p2); (try clear hcz4_0); (try clear hcz4_1); (try clear hcz4_2); (try clear hcz6_0); (try clear hcz6_1); (try clear hcz6_2)
   (try clear hfz4_0); (try clear hfz4_1); (try clear hfz4_2); (try clear hfz6_0); (try clear hfz6_1); (try clear hfz6_2); obtain ⟨x3_1, rfl, HA, HK1, BK324, HB⟩ := hrel
   cases gk with
   | zero => exact absurd HA.out (by simp [falseworklaw6_Great.l0])
   | succ k1 =>
    have H := HA.out; clear HA; simp only [falseworklaw6_Great.l0] at H
    by_cases c7 : x3_1 < (l0_1.length : Int)
    ·rw [if_pos c7] at H
     have c7b0 : decide (x3_1 < (l0_1.length : Int)) = true := decide_eq_true c7
     clear c7; by_cases c8 : 0 ≤ x3_1
     ·rw [if_pos c8] at H
      have c8b0 : decide (0 ≤ x3_1) = true := decide_eq_true c8
      clear c8; have HC9 := Aside0.mk H; clear H; have hcz10_0 : wr.cell? ⟨gb324, 0, none⟩ = some (.int .i64 a0_0) := (Go.Proofs.YtjgomlcdmpcoaaaDoorW.PrintWords.blk_cell BK324.out 0).trans rfl
      have hcz10_1 : wr.cell? ⟨gb324, 1, none⟩ = some (.slice A0_1 l0_1.length c0_1) := (Go.Proofs.YtjgomlcdmpcoaaaDoorW.PrintWords.blk_cell BK324.out 1).trans rfl
      have hcz10_2 : wr.cell? ⟨gb324, 2, none⟩ = some (.int .i64 a0_2) := (Go.Proofs.YtjgomlcdmpcoaaaDoorW.PrintWords.blk_cell BK324.out 2).trans rfl
      have hfz10_0 := blk_frozen BK324.out 0
      have hfz10_1 := blk_frozen BK324.out 1
      have hfz10_2 := blk_frozen BK324.out 2
      have p325 : 0 ≤ (x3_1 : Int) := of_decide_eq_true (by first | (with_reducible assumption) | assumption)
      have q325 : x3_1 < (l0_1.length : Int) := of_decide_eq_true (by first | (with_reducible assumption) | assumption)
      obtain ⟨ad325, A325_2, c325_2, A325_3, c325_3, e325, hx325_0, hx325_1, hx325_2, hx325_3, hx325_4, hl325_2, hi325_2, hl325_3, hi325_3⟩ := at_T70 HR0_1.out x3_1 p325 q325
      cases e325
      replace hx325_0 := (HB.out.cell (World.block_lt_of_cell? w _ hx325_0)).trans hx325_0
      replace hx325_1 := (HB.out.cell (World.block_lt_of_cell? w _ hx325_1)).trans hx325_1
      replace hx325_2 := (HB.out.cell (World.block_lt_of_cell? w _ hx325_2)).trans hx325_2
      replace hx325_3 := (HB.out.cell (World.block_lt_of_cell? w _ hx325_3)).trans hx325_3
      replace hx325_4 := (HB.out.cell (World.block_lt_of_cell? w _ hx325_4)).trans hx325_4
      have HR325_2 := Aside0.mk hi325_2; have HC325_2 := Aside0.mk hl325_2; clear hi325_2 hl325_2; have HR325_3 := Aside0.mk hi325_3; have HC325_3 := Aside0.mk hl325_3; clear hi325_3 hl325_3; replace p325 := eq_true p325
      replace q325 := eq_true q325
      go_upto_region 7 with (first | ((with_reducible refine gate_dst (N := 4) rfl ?_); (try (refine gate_guard (by rfl) ?_; dsimp only)); refine box_event ?hg (N := 4) ?hd (cs := #[.int .i64 0, .string (⟨#[]⟩ : ByteArray), .slice none 0 0, .slice none 0 0, .int .i64 0]) (t := 70) ?hr ?_; (case hd => rfl); (case hg => rfl); (case hr => first | (go_simp; done) | (go_simp; rfl)); intro gb326 hg w11 hbox hb; have n0_ := Aside0.mk (blk_below (g := gb324) (o := .cells #[.int .i64 a0_0, .slice (some ad325) l0_1.length c0_1, .int .i64 a0_2] 28 (0, 0)) (by (with_reducible repeat (first | refine blk_drewN ?_ _ | refine blk_drew ?_ | refine blk_alloc ?_ _)); exact BK324.out) hb); have n1_ := Aside0.mk (below_step (by repeat (first | (with_reducible first | exact HB.out | apply below_alloc | apply pw_below_drewN | apply below_drew1 | refine below_set ?_ GE324.out) | exact HB.out)) hb); have n2_ := Aside0.mk (hbox); have n3_ := Aside0.mk ((by rw [hg]; exact (below_size (by repeat (first | (with_reducible first | exact HB.out | apply below_alloc | apply pw_below_drewN | apply below_drew1 | refine below_set ?_ GE324.out) | exact HB.out))) : w.heap.size ≤ gb326)); have n4_ := Aside0.mk ((by rw [hg]; exact (below_size (by repeat (first | (with_reducible first | exact HB.out | apply below_alloc | apply pw_below_drewN | apply below_drew1 | refine below_set ?_ GE324.out) | exact HB.out))) : w.heap.size ≤ gb326)); have n5_ := Aside0.mk ((by rw [hg]; exact Nat.ne_of_lt (blk_lt (g := gb324) (o := .cells #[.int .i64 a0_0, .slice (some ad325) l0_1.length c0_1, .int .i64 a0_2] 28 (0, 0)) (by (with_reducible repeat (first | refine blk_drewN ?_ _ | refine blk_drew ?_ | refine blk_alloc ?_ _)); exact BK324.out)) : gb324 ≠ gb326)); have n6_ := Aside0.mk ((by rw [hg]; exact Nat.ne_of_gt (blk_lt (g := gb324) (o := .cells #[.int .i64 a0_0, .slice (some ad325) l0_1.length c0_1, .int .i64 a0_2] 28 (0, 0)) (by (with_reducible repeat (first | refine blk_drewN ?_ _ | refine blk_drew ?_ | refine blk_alloc ?_ _)); exact BK324.out)) : gb326 ≠ gb324)); clear BK324; clear HB; have BK324 := n0_; have HB := n1_; have BK326 := n2_; have GW326 := n3_; have GE326 := n4_; have NB324_326 := n5_; have NB326_324 := n6_; clear n0_ n1_ n2_ n3_ n4_ n5_ n6_; clear hb hbox hg; have hnb12 := NB326_324.out; have hnc12 := NB324_326.out; have hcz13_0 : w11.cell? ⟨gb326, 0, none⟩ = some (.int .i64 0) := (Go.Proofs.YtjgomlcdmpcoaaaDoorW.PrintWords.blk_cell BK326.out 0).trans rfl; have hcz13_1 : w11.cell? ⟨gb326, 1, none⟩ = some (.string (⟨#[]⟩ : ByteArray)) := (Go.Proofs.YtjgomlcdmpcoaaaDoorW.PrintWords.blk_cell BK326.out 1).trans rfl; have hcz13_2 : w11.cell? ⟨gb326, 2, none⟩ = some (.slice none 0 0) := (Go.Proofs.YtjgomlcdmpcoaaaDoorW.PrintWords.blk_cell BK326.out 2).trans rfl; have hcz13_3 : w11.cell? ⟨gb326, 3, none⟩ = some (.slice none 0 0) := (Go.Proofs.YtjgomlcdmpcoaaaDoorW.PrintWords.blk_cell BK326.out 3).trans rfl; have hcz13_4 : w11.cell? ⟨gb326, 4, none⟩ = some (.int .i64 0) := (Go.Proofs.YtjgomlcdmpcoaaaDoorW.PrintWords.blk_cell BK326.out 4).trans rfl; have hfz13_0 := blk_frozen BK326.out 0; have hfz13_1 := blk_frozen BK326.out 1; have hfz13_2 := blk_frozen BK326.out 2; have hfz13_3 := blk_frozen BK326.out 3; have hfz13_4 := blk_frozen BK326.out 4))
      (try simp only [Act.put, List.setIfInBounds_toArray, List.set_cons_zero, List.set_cons_succ])
      go_cut [38] (fun v38 wc => ∃ (kq : Nat) (x38_8 : Bool), v38 = .bool x38_8 ∧ Aside0 (falseworklaw6_Great.j1 kq x3_1 x38_8 a0_0 l0_1 a0_2 ((rd_T70 l0_1 x3_1).f0) ((rd_T70 l0_1 x3_1).f1) ((rd_T70 l0_1 x3_1).f2) ((rd_T70 l0_1 x3_1).f3) ((rd_T70 l0_1 x3_1).f4) = some r) ∧ Aside0 (kq ≤ k1) ∧ Aside0 (wc.heap[gb324]? = some (.cells #[.int .i64 a0_0, (.slice (some ad325) l0_1.length c0_1), .int .i64 a0_2] 28 (0, 0))) ∧ Aside0 (wc.heap[gb326]? = some (.cells #[.int .i64 ((rd_T70 l0_1 x3_1).f0), .string ((rd_T70 l0_1 x3_1).f1), (.slice A325_2 ((rd_T70 l0_1 x3_1).f2).length c325_2), (.slice A325_3 ((rd_T70 l0_1 x3_1).f3).length c325_3), .int .i64 ((rd_T70 l0_1 x3_1).f4)] 70 (0, 0))) ∧ Aside0 (Below w.heap.size w wc))
      case first =>
       have H := HC9.out; clear HC9; by_cases c14 : (((rd_T70 l0_1 x3_1).f1).size : Int) > 1000
       ·rw [if_pos c14] at H
        have c14b0 : decide (1000 < (((rd_T70 l0_1 x3_1).f1).size : Int)) = true := decide_eq_true c14
        have c14b1 : decide (1000 < ((rd_T70 l0_1 x3_1).f1).size) = true := decide_eq_true (by omega)
        clear c14
        (first | rw [c14b0] | (simp only [i64_w, i32_w]; rw [c14b0]) | skip)
        have H' := Aside0.mk H; clear H; have hnb15 := NB326_324.out; have hnc15 := NB324_326.out; have hcz16_0 : w11.cell? ⟨gb326, 0, none⟩ = some (.int .i64 0) := (Go.Proofs.YtjgomlcdmpcoaaaDoorW.PrintWords.blk_cell BK326.out 0).trans rfl
        have hcz16_1 : w11.cell? ⟨gb326, 1, none⟩ = some (.string (⟨#[]⟩ : ByteArray)) := (Go.Proofs.YtjgomlcdmpcoaaaDoorW.PrintWords.blk_cell BK326.out 1).trans rfl
        have hcz16_2 : w11.cell? ⟨gb326, 2, none⟩ = some (.slice none 0 0) := (Go.Proofs.YtjgomlcdmpcoaaaDoorW.PrintWords.blk_cell BK326.out 2).trans rfl
        have hcz16_3 : w11.cell? ⟨gb326, 3, none⟩ = some (.slice none 0 0) := (Go.Proofs.YtjgomlcdmpcoaaaDoorW.PrintWords.blk_cell BK326.out 3).trans rfl
        have hcz16_4 : w11.cell? ⟨gb326, 4, none⟩ = some (.int .i64 0) := (Go.Proofs.YtjgomlcdmpcoaaaDoorW.PrintWords.blk_cell BK326.out 4).trans rfl
        have hfz16_0 := blk_frozen BK326.out 0
        have hfz16_1 := blk_frozen BK326.out 1
        have hfz16_2 := blk_frozen BK326.out 2
        have hfz16_3 := blk_frozen BK326.out 3
        have hfz16_4 := blk_frozen BK326.out 4
        go_wp2; go_meet
        case rel => exact ⟨_, (true), (by first | rfl | (simp; done) | (simp [*]; done)), H', ⟨by have := HK1.out; first | omega | exact Nat.le_refl _⟩, ⟨by (with_reducible repeat (first | refine blk_drewN ?_ _ | refine blk_drew ?_ | refine blk_alloc ?_ _)); refine blk_far ?_ NB324_326.out _; (with_reducible repeat (first | refine blk_drewN ?_ _ | refine blk_drew ?_ | refine blk_alloc ?_ _)); refine blk_far ?_ NB324_326.out _; (with_reducible repeat (first | refine blk_drewN ?_ _ | refine blk_drew ?_ | refine blk_alloc ?_ _)); refine blk_far ?_ NB324_326.out _; (with_reducible repeat (first | refine blk_drewN ?_ _ | refine blk_drew ?_ | refine blk_alloc ?_ _)); refine blk_far ?_ NB324_326.out _; (with_reducible repeat (first | refine blk_drewN ?_ _ | refine blk_drew ?_ | refine blk_alloc ?_ _)); refine blk_far ?_ NB324_326.out _; (with_reducible repeat (first | refine blk_drewN ?_ _ | refine blk_drew ?_ | refine blk_alloc ?_ _)); exact BK324.out⟩, ⟨by (with_reducible repeat (first | refine blk_drewN ?_ _ | refine blk_drew ?_ | refine blk_alloc ?_ _)); refine blk_put (cs := #[.int .i64 ((rd_T70 l0_1 x3_1).f0), .string ((rd_T70 l0_1 x3_1).f1), .slice A325_2 ((rd_T70 l0_1 x3_1).f2).length c325_2, .slice A325_3 ((rd_T70 l0_1 x3_1).f3).length c325_3, .int .i64 0]) ?_ 4 _ rfl; (with_reducible repeat (first | refine blk_drewN ?_ _ | refine blk_drew ?_ | refine blk_alloc ?_ _)); refine blk_put (cs := #[.int .i64 ((rd_T70 l0_1 x3_1).f0), .string ((rd_T70 l0_1 x3_1).f1), .slice A325_2 ((rd_T70 l0_1 x3_1).f2).length c325_2, .slice none 0 0, .int .i64 0]) ?_ 3 _ rfl; (with_reducible repeat (first | refine blk_drewN ?_ _ | refine blk_drew ?_ | refine blk_alloc ?_ _)); refine blk_put (cs := #[.int .i64 ((rd_T70 l0_1 x3_1).f0), .string ((rd_T70 l0_1 x3_1).f1), .slice none 0 0, .slice none 0 0, .int .i64 0]) ?_ 2 _ rfl; (with_reducible repeat (first | refine blk_drewN ?_ _ | refine blk_drew ?_ | refine blk_alloc ?_ _)); refine blk_put (cs := #[.int .i64 ((rd_T70 l0_1 x3_1).f0), .string (⟨#[]⟩ : ByteArray), .slice none 0 0, .slice none 0 0, .int .i64 0]) ?_ 1 _ rfl; (with_reducible repeat (first | refine blk_drewN ?_ _ | refine blk_drew ?_ | refine blk_alloc ?_ _)); refine blk_put (cs := #[.int .i64 0, .string (⟨#[]⟩ : ByteArray), .slice none 0 0, .slice none 0 0, .int .i64 0]) ?_ 0 _ rfl; (with_reducible repeat (first | refine blk_drewN ?_ _ | refine blk_drew ?_ | refine blk_alloc ?_ _)); exact BK326.out⟩, ⟨by repeat (first | (with_reducible first | exact HB.out | apply below_alloc | apply pw_below_drewN | apply below_drew1 | refine below_set ?_ GE324.out | refine below_set ?_ GE326.out) | exact HB.out)⟩⟩
       ·rw [if_neg c14] at H
        have c14b0 : decide (1000 < (((rd_T70 l0_1 x3_1).f1).size : Int)) = false := decide_eq_false c14
        have c14b1 : decide (1000 < ((rd_T70 l0_1 x3_1).f1).size) = false := decide_eq_false (by omega)
        clear c14
        (first | rw [c14b0] | (simp only [i64_w, i32_w]; rw [c14b0]) | skip)
        by_cases c17 : (((rd_T70 l0_1 x3_1).f2).length : Int) > 50
        ·rw [if_pos c17] at H
         have c17b0 : decide (50 < (((rd_T70 l0_1 x3_1).f2).length : Int)) = true := decide_eq_true c17
         have c17b1 : decide (50 < ((rd_T70 l0_1 x3_1).f2).length) = true := decide_eq_true (by omega)
         clear c17; have H' := Aside0.mk H; clear H; have hnb18 := NB326_324.out; have hnc18 := NB324_326.out; have hcz19_0 : w11.cell? ⟨gb326, 0, none⟩ = some (.int .i64 0) := (Go.Proofs.YtjgomlcdmpcoaaaDoorW.PrintWords.blk_cell BK326.out 0).trans rfl
         have hcz19_1 : w11.cell? ⟨gb326, 1, none⟩ = some (.string (⟨#[]⟩ : ByteArray)) := (Go.Proofs.YtjgomlcdmpcoaaaDoorW.PrintWords.blk_cell BK326.out 1).trans rfl
         have hcz19_2 : w11.cell? ⟨gb326, 2, none⟩ = some (.slice none 0 0) := (Go.Proofs.YtjgomlcdmpcoaaaDoorW.PrintWords.blk_cell BK326.out 2).trans rfl
         have hcz19_3 : w11.cell? ⟨gb326, 3, none⟩ = some (.slice none 0 0) := (Go.Proofs.YtjgomlcdmpcoaaaDoorW.PrintWords.blk_cell BK326.out 3).trans rfl
         have hcz19_4 : w11.cell? ⟨gb326, 4, none⟩ = some (.int .i64 0) := (Go.Proofs.YtjgomlcdmpcoaaaDoorW.PrintWords.blk_cell BK326.out 4).trans rfl
         have hfz19_0 := blk_frozen BK326.out 0
         have hfz19_1 := blk_frozen BK326.out 1
         have hfz19_2 := blk_frozen BK326.out 2
         have hfz19_3 := blk_frozen BK326.out 3
         have hfz19_4 := blk_frozen BK326.out 4
         go_wp2; go_meet
         case rel => exact ⟨_, (true), (by first | rfl | (simp; done) | (simp [*]; done)), H', ⟨by have := HK1.out; first | omega | exact Nat.le_refl _⟩, ⟨by (with_reducible repeat (first | refine blk_drewN ?_ _ | refine blk_drew ?_ | refine blk_alloc ?_ _)); refine blk_far ?_ NB324_326.out _; (with_reducible repeat (first | refine blk_drewN ?_ _ | refine blk_drew ?_ | refine blk_alloc ?_ _)); refine blk_far ?_ NB324_326.out _; (with_reducible repeat (first | refine blk_drewN ?_ _ | refine blk_drew ?_ | refine blk_alloc ?_ _)); refine blk_far ?_ NB324_326.out _; (with_reducible repeat (first | refine blk_drewN ?_ _ | refine blk_drew ?_ | refine blk_alloc ?_ _)); refine blk_far ?_ NB324_326.out _; (with_reducible repeat (first | refine blk_drewN ?_ _ | refine blk_drew ?_ | refine blk_alloc ?_ _)); refine blk_far ?_ NB324_326.out _; (with_reducible repeat (first | refine blk_drewN ?_ _ | refine blk_drew ?_ | refine blk_alloc ?_ _)); exact BK324.out⟩, ⟨by (with_reducible repeat (first | refine blk_drewN ?_ _ | refine blk_drew ?_ | refine blk_alloc ?_ _)); refine blk_put (cs := #[.int .i64 ((rd_T70 l0_1 x3_1).f0), .string ((rd_T70 l0_1 x3_1).f1), .slice A325_2 ((rd_T70 l0_1 x3_1).f2).length c325_2, .slice A325_3 ((rd_T70 l0_1 x3_1).f3).length c325_3, .int .i64 0]) ?_ 4 _ rfl; (with_reducible repeat (first | refine blk_drewN ?_ _ | refine blk_drew ?_ | refine blk_alloc ?_ _)); refine blk_put (cs := #[.int .i64 ((rd_T70 l0_1 x3_1).f0), .string ((rd_T70 l0_1 x3_1).f1), .slice A325_2 ((rd_T70 l0_1 x3_1).f2).length c325_2, .slice none 0 0, .int .i64 0]) ?_ 3 _ rfl; (with_reducible repeat (first | refine blk_drewN ?_ _ | refine blk_drew ?_ | refine blk_alloc ?_ _)); refine blk_put (cs := #[.int .i64 ((rd_T70 l0_1 x3_1).f0), .string ((rd_T70 l0_1 x3_1).f1), .slice none 0 0, .slice none 0 0, .int .i64 0]) ?_ 2 _ rfl; (with_reducible repeat (first | refine blk_drewN ?_ _ | refine blk_drew ?_ | refine blk_alloc ?_ _)); refine blk_put (cs := #[.int .i64 ((rd_T70 l0_1 x3_1).f0), .string (⟨#[]⟩ : ByteArray), .slice none 0 0, .slice none 0 0, .int .i64 0]) ?_ 1 _ rfl; (with_reducible repeat (first | refine blk_drewN ?_ _ | refine blk_drew ?_ | refine blk_alloc ?_ _)); refine blk_put (cs := #[.int .i64 0, .string (⟨#[]⟩ : ByteArray), .slice none 0 0, .slice none 0 0, .int .i64 0]) ?_ 0 _ rfl; (with_reducible repeat (first | refine blk_drewN ?_ _ | refine blk_drew ?_ | refine blk_alloc ?_ _)); exact BK326.out⟩, ⟨by repeat (first | (with_reducible first | exact HB.out | apply below_alloc | apply pw_below_drewN | apply below_drew1 | refine below_set ?_ GE324.out | refine below_set ?_ GE326.out) | exact HB.out)⟩⟩
        ·rw [if_neg c17] at H
         have c17b0 : decide (50 < (((rd_T70 l0_1 x3_1).f2).length : Int)) = false := decide_eq_false c17
         have c17b1 : decide (50 < ((rd_T70 l0_1 x3_1).f2).length) = false := decide_eq_false (by omega)
         clear c17; have H' := Aside0.mk H; clear H; have hnb20 := NB326_324.out; have hnc20 := NB324_326.out; have hcz21_0 : w11.cell? ⟨gb326, 0, none⟩ = some (.int .i64 0) := (Go.Proofs.YtjgomlcdmpcoaaaDoorW.PrintWords.blk_cell BK326.out 0).trans rfl
         have hcz21_1 : w11.cell? ⟨gb326, 1, none⟩ = some (.string (⟨#[]⟩ : ByteArray)) := (Go.Proofs.YtjgomlcdmpcoaaaDoorW.PrintWords.blk_cell BK326.out 1).trans rfl
         have hcz21_2 : w11.cell? ⟨gb326, 2, none⟩ = some (.slice none 0 0) := (Go.Proofs.YtjgomlcdmpcoaaaDoorW.PrintWords.blk_cell BK326.out 2).trans rfl
         have hcz21_3 : w11.cell? ⟨gb326, 3, none⟩ = some (.slice none 0 0) := (Go.Proofs.YtjgomlcdmpcoaaaDoorW.PrintWords.blk_cell BK326.out 3).trans rfl
         have hcz21_4 : w11.cell? ⟨gb326, 4, none⟩ = some (.int .i64 0) := (Go.Proofs.YtjgomlcdmpcoaaaDoorW.PrintWords.blk_cell BK326.out 4).trans rfl
         have hfz21_0 := blk_frozen BK326.out 0
         have hfz21_1 := blk_frozen BK326.out 1
         have hfz21_2 := blk_frozen BK326.out 2
         have hfz21_3 := blk_frozen BK326.out 3
         have hfz21_4 := blk_frozen BK326.out 4
         go_wp2; go_meet
         case rel => exact ⟨_, (decide ((((rd_T70 l0_1 x3_1).f3).length : Int) > 50)), (by first | rfl | (simp; done) | (simp [*]; done)), H', ⟨by have := HK1.out; first | omega | exact Nat.le_refl _⟩, ⟨by (with_reducible repeat (first | refine blk_drewN ?_ _ | refine blk_drew ?_ | refine blk_alloc ?_ _)); refine blk_far ?_ NB324_326.out _; (with_reducible repeat (first | refine blk_drewN ?_ _ | refine blk_drew ?_ | refine blk_alloc ?_ _)); refine blk_far ?_ NB324_326.out _; (with_reducible repeat (first | refine blk_drewN ?_ _ | refine blk_drew ?_ | refine blk_alloc ?_ _)); refine blk_far ?_ NB324_326.out _; (with_reducible repeat (first | refine blk_drewN ?_ _ | refine blk_drew ?_ | refine blk_alloc ?_ _)); refine blk_far ?_ NB324_326.out _; (with_reducible repeat (first | refine blk_drewN ?_ _ | refine blk_drew ?_ | refine blk_alloc ?_ _)); refine blk_far ?_ NB324_326.out _; (with_reducible repeat (first | refine blk_drewN ?_ _ | refine blk_drew ?_ | refine blk_alloc ?_ _)); exact BK324.out⟩, ⟨by (with_reducible repeat (first | refine blk_drewN ?_ _ | refine blk_drew ?_ | refine blk_alloc ?_ _)); refine blk_put (cs := #[.int .i64 ((rd_T70 l0_1 x3_1).f0), .string ((rd_T70 l0_1 x3_1).f1), .slice A325_2 ((rd_T70 l0_1 x3_1).f2).length c325_2, .slice A325_3 ((rd_T70 l0_1 x3_1).f3).length c325_3, .int .i64 0]) ?_ 4 _ rfl; (with_reducible repeat (first | refine blk_drewN ?_ _ | refine blk_drew ?_ | refine blk_alloc ?_ _)); refine blk_put (cs := #[.int .i64 ((rd_T70 l0_1 x3_1).f0), .string ((rd_T70 l0_1 x3_1).f1), .slice A325_2 ((rd_T70 l0_1 x3_1).f2).length c325_2, .slice none 0 0, .int .i64 0]) ?_ 3 _ rfl; (with_reducible repeat (first | refine blk_drewN ?_ _ | refine blk_drew ?_ | refine blk_alloc ?_ _)); refine blk_put (cs := #[.int .i64 ((rd_T70 l0_1 x3_1).f0), .string ((rd_T70 l0_1 x3_1).f1), .slice none 0 0, .slice none 0 0, .int .i64 0]) ?_ 2 _ rfl; (with_reducible repeat (first | refine blk_drewN ?_ _ | refine blk_drew ?_ | refine blk_alloc ?_ _)); refine blk_put (cs := #[.int .i64 ((rd_T70 l0_1 x3_1).f0), .string (⟨#[]⟩ : ByteArray), .slice none 0 0, .slice none 0 0, .int .i64 0]) ?_ 1 _ rfl; (with_reducible repeat (first | refine blk_drewN ?_ _ | refine blk_drew ?_ | refine blk_alloc ?_ _)); refine blk_put (cs := #[.int .i64 0, .string (⟨#[]⟩ : ByteArray), .slice none 0 0, .slice none 0 0, .int .i64 0]) ?_ 0 _ rfl; (with_reducible repeat (first | refine blk_drewN ?_ _ | refine blk_drew ?_ | refine blk_alloc ?_ _)); exact BK326.out⟩, ⟨by repeat (first | (with_reducible first | exact HB.out | apply below_alloc | apply pw_below_drewN | apply below_drew1 | refine below_set ?_ GE324.out | refine below_set ?_ GE326.out) | exact HB.out)⟩⟩
      case rest =>
       clear HC9; (try clear c1); (try clear c2); (try clear c2b0); (try clear c2b1); (try clear p2); (try clear c3); (try clear p3); (try clear q3); (try clear hx3); (try clear c7); (try clear c7b0)
       (try clear c8); (try clear c8b0); (try clear c12); (try clear c14); (try clear c14b0); (try clear c14b1); (try clear c15); (try clear c17); (try clear c17b0); (try clear c17b1); (try clear c18)
       (try clear c20); (try clear hcz10_0); (try clear hcz10_1); (try clear hcz10_2); (try clear hcz13_0); (try clear hcz13_1); (try clear hcz13_2); (try clear hcz13_3); (try clear hcz13_4); (try clear hcz16_0)
       (try clear hcz16_1); (try clear hcz16_2); (try clear hcz16_3); (try clear hcz16_4); (try clear hcz19_0); (try clear hcz19_1); (try clear hcz19_2); (try clear hcz19_3); (try clear hcz19_4)
       (try clear hcz21_0); (try clear hcz21_1); (try clear hcz21_2); (try clear hcz21_3); (try clear hcz21_4); (try clear hcz4_0); (try clear hcz4_1); (try clear hcz4_2); (try clear hcz6_0); (try clear hcz6_1)
       (try clear hcz6_2); (try clear hfz10_0); (try clear hfz10_1); (try clear hfz10_2); (try clear hfz13_0); (try clear hfz13_1); (try clear hfz13_2); (try clear hfz13_3); (try clear hfz13_4)
       (try clear hfz16_0); (try clear hfz16_1); (try clear hfz16_2); (try clear hfz16_3); (try clear hfz16_4); (try clear hfz19_0); (try clear hfz19_1); (try clear hfz19_2); (try clear hfz19_3)
       (try clear hfz19_4); (try clear hfz21_0); (try clear hfz21_1); (try clear hfz21_2); (try clear hfz21_3); (try clear hfz21_4); (try clear hfz4_0); (try clear hfz4_1); (try clear hfz4_2); (try clear hfz6_0)
       (try clear hfz6_1); (try clear hfz6_2); (try clear hx325_0); (try clear hx325_1); (try clear hx325_2); (try clear hx325_3); (try clear hx325_4); (try clear p2); (try clear p325); (try clear q325)
       obtain ⟨kq, x38_8, rfl, HA, HJ8, BK324, BK326, HB⟩ := hcut
       cases kq with
       | zero => exact absurd HA.out (by simp [falseworklaw6_Great.j1])
       | succ kj8 =>
        have H := HA.out; clear HA; simp only [falseworklaw6_Great.j1] at H
        by_cases c22 : x38_8 = true
        ·subst c22
         have H1 : (some true) = some r := by rw [if_pos rfl] at H; exact H
         clear H; have H := H1; clear H1; obtain rfl := Option.some.inj H; go_wp2; go_ret; exact ⟨by first | rfl | (simp [errW_none, errW_some] <;> rfl) | (simp [*, errW_none, errW_some] <;> rfl), by repeat (first | (with_reducible first | exact HB.out | apply below_alloc | apply pw_below_drewN | apply below_drew1 | refine below_set ?_ GE324.out | refine below_set ?_ GE326.out) | exact HB.out)⟩
        ·replace c22 := Bool.eq_false_iff.mpr c22
         subst c22; have H1 : (falseworklaw6_Great.l1 kj8 x3_1 0 a0_0 l0_1 a0_2 ((rd_T70 l0_1 x3_1).f0) ((rd_T70 l0_1 x3_1).f1) ((rd_T70 l0_1 x3_1).f2) ((rd_T70 l0_1 x3_1).f3) ((rd_T70 l0_1 x3_1).f4)) = some r := by rw [if_neg (show ¬ (false = true) by decide)] at H; exact H
         clear H; have H := H1; clear H1; have H' := Aside0.mk H; clear H; go_wp2; go_loopg [5] kj8 (fun kq v5 w' => ∃ (x5_3 : Int), v5 = .int .i64 x5_3 ∧ Aside0 (falseworklaw6_Great.l1 kq x3_1 x5_3 a0_0 l0_1 a0_2 ((rd_T70 l0_1 x3_1).f0) ((rd_T70 l0_1 x3_1).f1) ((rd_T70 l0_1 x3_1).f2) ((rd_T70 l0_1 x3_1).f3) ((rd_T70 l0_1 x3_1).f4) = some r) ∧ Aside0 (kq ≤ kj8) ∧ Aside0 (w'.heap[gb324]? = some (.cells #[.int .i64 a0_0, (.slice (some ad325) l0_1.length c0_1), .int .i64 a0_2] 28 (0, 0))) ∧ Aside0 (w'.heap[gb326]? = some (.cells #[.int .i64 ((rd_T70 l0_1 x3_1).f0), .string ((rd_T70 l0_1 x3_1).f1), (.slice A325_2 ((rd_T70 l0_1 x3_1).f2).length c325_2), (.slice A325_3 ((rd_T70 l0_1 x3_1).f3).length c325_3), .int .i64 ((rd_T70 l0_1 x3_1).f4)] 70 (0, 0))) ∧ Aside0 (Below w.heap.size w w'))
         case atStart => exact ⟨(0), (by first | rfl | (simp; done) | (simp [*]; done)), H', ⟨Nat.le_refl _⟩, ⟨by (with_reducible repeat (first | refine blk_drewN ?_ _ | refine blk_drew ?_ | refine blk_alloc ?_ _)); exact BK324.out⟩, ⟨by (with_reducible repeat (first | refine blk_drewN ?_ _ | refine blk_drew ?_ | refine blk_alloc ?_ _)); exact BK326.out⟩, ⟨by repeat (first | (with_reducible first | exact HB.out | apply below_alloc | apply pw_below_drewN | apply below_drew1 | refine below_set ?_ GE324.out | refine below_set ?_ GE326.out) | exact HB.out)⟩⟩
         case round =>
          clear H'; (try clear c1); (try clear c2); (try clear c2b0); (try clear c2b1); (try clear p2); (try clear c3); (try clear p3); (try clear q3); (try clear hx3); (try clear c7); (try clear c7b0)
          (try clear c8); (try clear c8b0); (try clear c12); (try clear c14); (try clear c14b0); (try clear c14b1); (try clear c15); (try clear c17); (try clear c17b0); (try clear c17b1); (try clear c18)
          (try clear c20); (try clear c22); (try clear hcz10_0); (try clear hcz10_1); (try clear hcz10_2); (try clear hcz13_0); (try clear hcz13_1); (try clear hcz13_2); (try clear hcz13_3); (try clear hcz13_4)
          (try clear hcz16_0); (try clear hcz16_1); (try clear hcz16_2); (try clear hcz16_3); (try clear hcz16_4); (try clear hcz19_0); (try clear hcz19_1); (try clear hcz19_2); (try clear hcz19_3)
          (try clear hcz19_4); (try clear hcz21_0); (try clear hcz21_1); (try clear hcz21_2); (try clear hcz21_3); (try clear hcz21_4); (try clear hcz4_0); (try clear hcz4_1); (try clear hcz4_2)
          (try clear hcz6_0); (try clear hcz6_1); (try clear hcz6_2); (try clear hfz10_0); (try clear hfz10_1); (try clear hfz10_2); (try clear hfz13_0); (try clear hfz13_1); (try clear hfz13_2)
          (try clear hfz13_3); (try clear hfz13_4); (try clear hfz16_0); (try clear hfz16_1); (try clear hfz16_2); (try clear hfz16_3); (try clear hfz16_4); (try clear hfz19_0); (try clear hfz19_1)
          (try clear hfz19_2); (try clear hfz19_3); (try clear hfz19_4); (try clear hfz21_0); (try clear hfz21_1); (try clear hfz21_2); (try clear hfz21_3); (try clear hfz21_4); (try clear hfz4_0)
          (try clear hfz4_1); (try clear hfz4_2); (try clear hfz6_0); (try clear hfz6_1); (try clear hfz6_2); (try clear hx325_0); (try clear hx325_1); (try clear hx325_2); (try clear hx325_3)
          (try clear hx325_4); (try clear p2); (try clear p3); (try clear p325); (try clear q3); (try clear q325); obtain ⟨x5_3, rfl, HA, HK3, BK324, BK326, HB⟩ := hrel
          cases gk with
          | zero => exact absurd HA.out (by simp [falseworklaw6_Great.l1])
          | succ k3 =>
           have H := HA.out; clear HA; simp only [falseworklaw6_Great.l1] at H
           by_cases c23 : x5_3 < (((rd_T70 l0_1 x3_1).f2).length : Int)
           ·rw [if_pos c23] at H
            have c23b0 : decide (x5_3 < (((rd_T70 l0_1 x3_1).f2).length : Int)) = true := decide_eq_true c23
            clear c23; by_cases c24 : 0 ≤ x5_3
            ·rw [if_pos c24] at H
             have c24b0 : decide (0 ≤ x5_3) = true := decide_eq_true c24
             clear c24; by_cases c25 : (((rd_T75 ((rd_T70 l0_1 x3_1).f2) x5_3).f1).size : Int) > 1000
             ·rw [if_pos c25] at H
              have c25b0 : decide (1000 < (((rd_T75 ((rd_T70 l0_1 x3_1).f2) x5_3).f1).size : Int)) = true := decide_eq_true c25
              have c25b1 : decide (1000 < ((rd_T75 ((rd_T70 l0_1 x3_1).f2) x5_3).f1).size) = true := decide_eq_true (by omega)
              clear c25; obtain rfl := Option.some.inj H; have hnb26 := NB326_324.out; have hnc26 := NB324_326.out; have hcz27_0 : wr.cell? ⟨gb326, 0, none⟩ = some (.int .i64 ((rd_T70 l0_1 x3_1).f0)) := (Go.Proofs.YtjgomlcdmpcoaaaDoorW.PrintWords.blk_cell BK326.out 0).trans rfl
              have hcz27_1 : wr.cell? ⟨gb326, 1, none⟩ = some (.string ((rd_T70 l0_1 x3_1).f1)) := (Go.Proofs.YtjgomlcdmpcoaaaDoorW.PrintWords.blk_cell BK326.out 1).trans rfl
              have hcz27_2 : wr.cell? ⟨gb326, 2, none⟩ = some (.slice A325_2 ((rd_T70 l0_1 x3_1).f2).length c325_2) := (Go.Proofs.YtjgomlcdmpcoaaaDoorW.PrintWords.blk_cell BK326.out 2).trans rfl
              have hcz27_3 : wr.cell? ⟨gb326, 3, none⟩ = some (.slice A325_3 ((rd_T70 l0_1 x3_1).f3).length c325_3) := (Go.Proofs.YtjgomlcdmpcoaaaDoorW.PrintWords.blk_cell BK326.out 3).trans rfl
              have hcz27_4 : wr.cell? ⟨gb326, 4, none⟩ = some (.int .i64 ((rd_T70 l0_1 x3_1).f4)) := (Go.Proofs.YtjgomlcdmpcoaaaDoorW.PrintWords.blk_cell BK326.out 4).trans rfl
              have hfz27_0 := blk_frozen BK326.out 0
              have hfz27_1 := blk_frozen BK326.out 1
              have hfz27_2 := blk_frozen BK326.out 2
              have hfz27_3 := blk_frozen BK326.out 3
              have hfz27_4 := blk_frozen BK326.out 4
              have p327 : 0 ≤ (x5_3 : Int) := of_decide_eq_true (by first | (with_reducible assumption) | assumption)
              have q327 : x5_3 < (((rd_T70 l0_1 x3_1).f2).length : Int) := of_decide_eq_true (by first | (with_reducible assumption) | assumption)
              obtain ⟨ad327, e327, hx327_0, hx327_1, hx327_2, hx327_3, hx327_4, hx327_5, hx327_6, hx327_7, hx327_8⟩ := at_T75 HR325_2.out x5_3 p327 q327
              cases e327
              replace hx327_0 := (HB.out.cell (World.block_lt_of_cell? w _ hx327_0)).trans hx327_0
              replace hx327_1 := (HB.out.cell (World.block_lt_of_cell? w _ hx327_1)).trans hx327_1
              replace hx327_2 := (HB.out.cell (World.block_lt_of_cell? w _ hx327_2)).trans hx327_2
              replace hx327_3 := (HB.out.cell (World.block_lt_of_cell? w _ hx327_3)).trans hx327_3
              replace hx327_4 := (HB.out.cell (World.block_lt_of_cell? w _ hx327_4)).trans hx327_4
              replace hx327_5 := (HB.out.cell (World.block_lt_of_cell? w _ hx327_5)).trans hx327_5
              replace hx327_6 := (HB.out.cell (World.block_lt_of_cell? w _ hx327_6)).trans hx327_6
              replace hx327_7 := (HB.out.cell (World.block_lt_of_cell? w _ hx327_7)).trans hx327_7
              replace hx327_8 := (HB.out.cell (World.block_lt_of_cell? w _ hx327_8)).trans hx327_8
              replace p327 := eq_true p327
              replace q327 := eq_true q327
              go_wp2; go_ret; exact ⟨by first | rfl | (simp [errW_none, errW_some] <;> rfl) | (simp [*, errW_none, errW_some] <;> rfl), by repeat (first | (with_reducible first | exact HB.out | apply below_alloc | apply pw_below_drewN | apply below_drew1 | refine below_set ?_ GE324.out | refine below_set ?_ GE326.out) | exact HB.out)⟩
             ·rw [if_neg c25] at H
              have c25b0 : decide (1000 < (((rd_T75 ((rd_T70 l0_1 x3_1).f2) x5_3).f1).size : Int)) = false := decide_eq_false c25
              have c25b1 : decide (1000 < ((rd_T75 ((rd_T70 l0_1 x3_1).f2) x5_3).f1).size) = false := decide_eq_false (by omega)
              clear c25; by_cases c28 : (((rd_T75 ((rd_T70 l0_1 x3_1).f2) x5_3).f5.f3).size : Int) > 1000
              ·rw [if_pos c28] at H
               have c28b0 : decide (1000 < (((rd_T75 ((rd_T70 l0_1 x3_1).f2) x5_3).f5.f3).size : Int)) = true := decide_eq_true c28
               have c28b1 : decide (1000 < ((rd_T75 ((rd_T70 l0_1 x3_1).f2) x5_3).f5.f3).size) = true := decide_eq_true (by omega)
               clear c28; obtain rfl := Option.some.inj H; have hnb29 := NB326_324.out; have hnc29 := NB324_326.out; have hcz30_0 : wr.cell? ⟨gb326, 0, none⟩ = some (.int .i64 ((rd_T70 l0_1 x3_1).f0)) := (Go.Proofs.YtjgomlcdmpcoaaaDoorW.PrintWords.blk_cell BK326.out 0).trans rfl
               have hcz30_1 : wr.cell? ⟨gb326, 1, none⟩ = some (.string ((rd_T70 l0_1 x3_1).f1)) := (Go.Proofs.YtjgomlcdmpcoaaaDoorW.PrintWords.blk_cell BK326.out 1).trans rfl
               have hcz30_2 : wr.cell? ⟨gb326, 2, none⟩ = some (.slice A325_2 ((rd_T70 l0_1 x3_1).f2).length c325_2) := (Go.Proofs.YtjgomlcdmpcoaaaDoorW.PrintWords.blk_cell BK326.out 2).trans rfl
               have hcz30_3 : wr.cell? ⟨gb326, 3, none⟩ = some (.slice A325_3 ((rd_T70 l0_1 x3_1).f3).length c325_3) := (Go.Proofs.YtjgomlcdmpcoaaaDoorW.PrintWords.blk_cell BK326.out 3).trans rfl
               have hcz30_4 : wr.cell? ⟨gb326, 4, none⟩ = some (.int .i64 ((rd_T70 l0_1 x3_1).f4)) := (Go.Proofs.YtjgomlcdmpcoaaaDoorW.PrintWords.blk_cell BK326.out 4).trans rfl
               have hfz30_0 := blk_frozen BK326.out 0
               have hfz30_1 := blk_frozen BK326.out 1
               have hfz30_2 := blk_frozen BK326.out 2
               have hfz30_3 := blk_frozen BK326.out 3
               have hfz30_4 := blk_frozen BK326.out 4
               have p327 : 0 ≤ (x5_3 : Int) := of_decide_eq_true (by first | (with_reducible assumption) | assumption)
               have q327 : x5_3 < (((rd_T70 l0_1 x3_1).f2).length : Int) := of_decide_eq_true (by first | (with_reducible assumption) | assumption)
               obtain ⟨ad327, e327, hx327_0, hx327_1, hx327_2, hx327_3, hx327_4, hx327_5, hx327_6, hx327_7, hx327_8⟩ := at_T75 HR325_2.out x5_3 p327 q327
               cases e327
               replace hx327_0 := (HB.out.cell (World.block_lt_of_cell? w _ hx327_0)).trans hx327_0
               replace hx327_1 := (HB.out.cell (World.block_lt_of_cell? w _ hx327_1)).trans hx327_1
               replace hx327_2 := (HB.out.cell (World.block_lt_of_cell? w _ hx327_2)).trans hx327_2
               replace hx327_3 := (HB.out.cell (World.block_lt_of_cell? w _ hx327_3)).trans hx327_3
               replace hx327_4 := (HB.out.cell (World.block_lt_of_cell? w _ hx327_4)).trans hx327_4
               replace hx327_5 := (HB.out.cell (World.block_lt_of_cell? w _ hx327_5)).trans hx327_5
               replace hx327_6 := (HB.out.cell (World.block_lt_of_cell? w _ hx327_6)).trans hx327_6
               replace hx327_7 := (HB.out.cell (World.block_lt_of_cell? w _ hx327_7)).trans hx327_7
               replace hx327_8 := (HB.out.cell (World.block_lt_of_cell? w _ hx327_8)).trans hx327_8
               replace p327 := eq_true p327
               replace q327 := eq_true q327
               have p328 : 0 ≤ (x5_3 : Int) := of_decide_eq_true (by first | (with_reducible assumption) | assumption)
               have q328 : x5_3 < (((rd_T70 l0_1 x3_1).f2).length : Int) := of_decide_eq_true (by first | (with_reducible assumption) | assumption)
               obtain ⟨ad328, e328, hx328_0, hx328_1, hx328_2, hx328_3, hx328_4, hx328_5, hx328_6, hx328_7, hx328_8⟩ := at_T75 HR325_2.out x5_3 p328 q328
               obtain rfl : ad327 = ad328 := (by injection e328)
               replace hx328_0 := (HB.out.cell (World.block_lt_of_cell? w _ hx328_0)).trans hx328_0
               replace hx328_1 := (HB.out.cell (World.block_lt_of_cell? w _ hx328_1)).trans hx328_1
               replace hx328_2 := (HB.out.cell (World.block_lt_of_cell? w _ hx328_2)).trans hx328_2
               replace hx328_3 := (HB.out.cell (World.block_lt_of_cell? w _ hx328_3)).trans hx328_3
               replace hx328_4 := (HB.out.cell (World.block_lt_of_cell? w _ hx328_4)).trans hx328_4
               replace hx328_5 := (HB.out.cell (World.block_lt_of_cell? w _ hx328_5)).trans hx328_5
               replace hx328_6 := (HB.out.cell (World.block_lt_of_cell? w _ hx328_6)).trans hx328_6
               replace hx328_7 := (HB.out.cell (World.block_lt_of_cell? w _ hx328_7)).trans hx328_7
               replace hx328_8 := (HB.out.cell (World.block_lt_of_cell? w _ hx328_8)).trans hx328_8
               replace p328 := eq_true p328
               replace q328 := eq_true q328
               go_wp2; go_ret; exact ⟨by first | rfl | (simp [errW_none, errW_some] <;> rfl) | (simp [*, errW_none, errW_some] <;> rfl), by repeat (first | (with_reducible first | exact HB.out | apply below_alloc | apply pw_below_drewN | apply below_drew1 | refine below_set ?_ GE324.out | refine below_set ?_ GE326.out) | exact HB.out)⟩
              ·rw [if_neg c28] at H
               have c28b0 : decide (1000 < (((rd_T75 ((rd_T70 l0_1 x3_1).f2) x5_3).f5.f3).size : Int)) = false := decide_eq_false c28
               have c28b1 : decide (1000 < ((rd_T75 ((rd_T70 l0_1 x3_1).f2) x5_3).f5.f3).size) = false := decide_eq_false (by omega)
               clear c28; have H' := Aside0.mk H; clear H; have hnb31 := NB326_324.out; have hnc31 := NB324_326.out; have hcz32_0 : wr.cell? ⟨gb326, 0, none⟩ = some (.int .i64 ((rd_T70 l0_1 x3_1).f0)) := (Go.Proofs.YtjgomlcdmpcoaaaDoorW.PrintWords.blk_cell BK326.out 0).trans rfl
               have hcz32_1 : wr.cell? ⟨gb326, 1, none⟩ = some (.string ((rd_T70 l0_1 x3_1).f1)) := (Go.Proofs.YtjgomlcdmpcoaaaDoorW.PrintWords.blk_cell BK326.out 1).trans rfl
               have hcz32_2 : wr.cell? ⟨gb326, 2, none⟩ = some (.slice A325_2 ((rd_T70 l0_1 x3_1).f2).length c325_2) := (Go.Proofs.YtjgomlcdmpcoaaaDoorW.PrintWords.blk_cell BK326.out 2).trans rfl
               have hcz32_3 : wr.cell? ⟨gb326, 3, none⟩ = some (.slice A325_3 ((rd_T70 l0_1 x3_1).f3).length c325_3) := (Go.Proofs.YtjgomlcdmpcoaaaDoorW.PrintWords.blk_cell BK326.out 3).trans rfl
               have hcz32_4 : wr.cell? ⟨gb326, 4, none⟩ = some (.int .i64 ((rd_T70 l0_1 x3_1).f4)) := (Go.Proofs.YtjgomlcdmpcoaaaDoorW.PrintWords.blk_cell BK326.out 4).trans rfl
               have hfz32_0 := blk_frozen BK326.out 0
               have hfz32_1 := blk_frozen BK326.out 1
               have hfz32_2 := blk_frozen BK326.out 2
               have hfz32_3 := blk_frozen BK326.out 3
               have hfz32_4 := blk_frozen BK326.out 4
               have p327 : 0 ≤ (x5_3 : Int) := of_decide_eq_true (by first | (with_reducible assumption) | assumption)
               have q327 : x5_3 < (((rd_T70 l0_1 x3_1).f2).length : Int) := of_decide_eq_true (by first | (with_reducible assumption) | assumption)
               obtain ⟨ad327, e327, hx327_0, hx327_1, hx327_2, hx327_3, hx327_4, hx327_5, hx327_6, hx327_7, hx327_8⟩ := at_T75 HR325_2.out x5_3 p327 q327
               cases e327
               replace hx327_0 := (HB.out.cell (World.block_lt_of_cell? w _ hx327_0)).trans hx327_0
               replace hx327_1 := (HB.out.cell (World.block_lt_of_cell? w _ hx327_1)).trans hx327_1
               replace hx327_2 := (HB.out.cell (World.block_lt_of_cell? w _ hx327_2)).trans hx327_2
               replace hx327_3 := (HB.out.cell (World.block_lt_of_cell? w _ hx327_3)).trans hx327_3
               replace hx327_4 := (HB.out.cell (World.block_lt_of_cell? w _ hx327_4)).trans hx327_4
               replace hx327_5 := (HB.out.cell (World.block_lt_of_cell? w _ hx327_5)).trans hx327_5
               replace hx327_6 := (HB.out.cell (World.block_lt_of_cell? w _ hx327_6)).trans hx327_6
               replace hx327_7 := (HB.out.cell (World.block_lt_of_cell? w _ hx327_7)).trans hx327_7
               replace hx327_8 := (HB.out.cell (World.block_lt_of_cell? w _ hx327_8)).trans hx327_8
               replace p327 := eq_true p327
               replace q327 := eq_true q327
               have p328 : 0 ≤ (x5_3 : Int) := of_decide_eq_true (by first | (with_reducible assumption) | assumption)
               have q328 : x5_3 < (((rd_T70 l0_1 x3_1).f2).length : Int) := of_decide_eq_true (by first | (with_reducible assumption) | assumption)
               obtain ⟨ad328, e328, hx328_0, hx328_1, hx328_2, hx328_3, hx328_4, hx328_5, hx328_6, hx328_7, hx328_8⟩ := at_T75 HR325_2.out x5_3 p328 q328
               obtain rfl : ad327 = ad328 := (by injection e328)
               replace hx328_0 := (HB.out.cell (World.block_lt_of_cell? w _ hx328_0)).trans hx328_0
               replace hx328_1 := (HB.out.cell (World.block_lt_of_cell? w _ hx328_1)).trans hx328_1
               replace hx328_2 := (HB.out.cell (World.block_lt_of_cell? w _ hx328_2)).trans hx328_2
               replace hx328_3 := (HB.out.cell (World.block_lt_of_cell? w _ hx328_3)).trans hx328_3
               replace hx328_4 := (HB.out.cell (World.block_lt_of_cell? w _ hx328_4)).trans hx328_4
               replace hx328_5 := (HB.out.cell (World.block_lt_of_cell? w _ hx328_5)).trans hx328_5
               replace hx328_6 := (HB.out.cell (World.block_lt_of_cell? w _ hx328_6)).trans hx328_6
               replace hx328_7 := (HB.out.cell (World.block_lt_of_cell? w _ hx328_7)).trans hx328_7
               replace hx328_8 := (HB.out.cell (World.block_lt_of_cell? w _ hx328_8)).trans hx328_8
               replace p328 := eq_true p328
               replace q328 := eq_true q328
               go_wp2; go_roundg k3
               case measure => have := HK1.out; have := HJ8.out; have := HK3.out; omega
               case rel => exact ⟨(wrap64 (x5_3 + 1)), (by first | rfl | (simp; done) | (simp [*]; done)), H', ⟨by have := HK1.out; have := HJ8.out; have := HK3.out; omega⟩, ⟨by (with_reducible repeat (first | refine blk_drewN ?_ _ | refine blk_drew ?_ | refine blk_alloc ?_ _)); exact BK324.out⟩, ⟨by (with_reducible repeat (first | refine blk_drewN ?_ _ | refine blk_drew ?_ | refine blk_alloc ?_ _)); exact BK326.out⟩, ⟨by repeat (first | (with_reducible first | exact HB.out | apply below_alloc | apply pw_below_drewN | apply below_drew1 | refine below_set ?_ GE324.out | refine below_set ?_ GE326.out) | exact HB.out)⟩⟩
            ·rw [if_neg c24] at H
             exact absurd H (by simp)
           ·rw [if_neg c23] at H
            have c23b0 : decide (x5_3 < (((rd_T70 l0_1 x3_1).f2).length : Int)) = false := decide_eq_false c23
            clear c23; have H' := Aside0.mk H; clear H; have hnb33 := NB326_324.out; have hnc33 := NB324_326.out; have hcz34_0 : wr.cell? ⟨gb326, 0, none⟩ = some (.int .i64 ((rd_T70 l0_1 x3_1).f0)) := (Go.Proofs.YtjgomlcdmpcoaaaDoorW.PrintWords.blk_cell BK326.out 0).trans rfl
            have hcz34_1 : wr.cell? ⟨gb326, 1, none⟩ = some (.string ((rd_T70 l0_1 x3_1).f1)) := (Go.Proofs.YtjgomlcdmpcoaaaDoorW.PrintWords.blk_cell BK326.out 1).trans rfl
            have hcz34_2 : wr.cell? ⟨gb326, 2, none⟩ = some (.slice A325_2 ((rd_T70 l0_1 x3_1).f2).length c325_2) := (Go.Proofs.YtjgomlcdmpcoaaaDoorW.PrintWords.blk_cell BK326.out 2).trans rfl
            have hcz34_3 : wr.cell? ⟨gb326, 3, none⟩ = some (.slice A325_3 ((rd_T70 l0_1 x3_1).f3).length c325_3) := (Go.Proofs.YtjgomlcdmpcoaaaDoorW.PrintWords.blk_cell BK326.out 3).trans rfl
            have hcz34_4 : wr.cell? ⟨gb326, 4, none⟩ = some (.int .i64 ((rd_T70 l0_1 x3_1).f4)) := (Go.Proofs.YtjgomlcdmpcoaaaDoorW.PrintWords.blk_cell BK326.out 4).trans rfl
            have hfz34_0 := blk_frozen BK326.out 0
            have hfz34_1 := blk_frozen BK326.out 1
            have hfz34_2 := blk_frozen BK326.out 2
            have hfz34_3 := blk_frozen BK326.out 3
            have hfz34_4 := blk_frozen BK326.out 4
            go_wp2; go_loopg [6] k3 (fun kq v6 w' => ∃ (x6_4 : Int), v6 = .int .i64 x6_4 ∧ Aside0 (falseworklaw6_Great.l2 kq x3_1 x6_4 a0_0 l0_1 a0_2 ((rd_T70 l0_1 x3_1).f0) ((rd_T70 l0_1 x3_1).f1) ((rd_T70 l0_1 x3_1).f2) ((rd_T70 l0_1 x3_1).f3) ((rd_T70 l0_1 x3_1).f4) = some r) ∧ Aside0 (kq ≤ k3) ∧ Aside0 (w'.heap[gb324]? = some (.cells #[.int .i64 a0_0, (.slice (some ad325) l0_1.length c0_1), .int .i64 a0_2] 28 (0, 0))) ∧ Aside0 (w'.heap[gb326]? = some (.cells #[.int .i64 ((rd_T70 l0_1 x3_1).f0), .string ((rd_T70 l0_1 x3_1).f1), (.slice A325_2 ((rd_T70 l0_1 x3_1).f2).length c325_2), (.slice A325_3 ((rd_T70 l0_1 x3_1).f3).length c325_3), .int .i64 ((rd_T70 l0_1 x3_1).f4)] 70 (0, 0))) ∧ Aside0 (Below w.heap.size w w'))
            case atStart => exact ⟨(0), (by first | rfl | (simp; done) | (simp [*]; done)), H', ⟨Nat.le_refl _⟩, ⟨by (with_reducible repeat (first | refine blk_drewN ?_ _ | refine blk_drew ?_ | refine blk_alloc ?_ _)); exact BK324.out⟩, ⟨by (with_reducible repeat (first | refine blk_drewN ?_ _ | refine blk_drew ?_ | refine blk_alloc ?_ _)); exact BK326.out⟩, ⟨by repeat (first | (with_reducible first | exact HB.out | apply below_alloc | apply pw_below_drewN | apply below_drew1 | refine below_set ?_ GE324.out | refine below_set ?_ GE326.out) | exact HB.out)⟩⟩
            case round =>
             clear H'; (try clear c1); (try clear c2); (try clear c2b0); (try clear c2b1); (try clear p2); (try clear c3); (try clear p3); (try clear q3); (try clear hx3); (try clear p6); (try clear c7)
             (try clear c7b0); (try clear c8); (try clear c8b0); (try clear c12); (try clear c14); (try clear c14b0); (try clear c14b1); (try clear c15); (try clear c17); (try clear c17b0)
             (try clear c17b1); (try clear c18); (try clear c20); (try clear c22); (try clear c23); (try clear c23b0); (try clear c24); (try clear c24b0); (try clear c25); (try clear c25b0)
             (try clear c25b1); (try clear c26); (try clear c28); (try clear c28b0); (try clear c28b1); (try clear c29); (try clear c31); (try clear c32); (try clear p32); (try clear q32)
             (try clear hx32); (try clear c33); (try clear hcz10_0); (try clear hcz10_1); (try clear hcz10_2); (try clear hcz13_0); (try clear hcz13_1); (try clear hcz13_2); (try clear hcz13_3)
             (try clear hcz13_4); (try clear hcz16_0); (try clear hcz16_1); (try clear hcz16_2); (try clear hcz16_3); (try clear hcz16_4); (try clear hcz19_0); (try clear hcz19_1); (try clear hcz19_2)
             (try clear hcz19_3); (try clear hcz19_4); (try clear hcz21_0); (try clear hcz21_1); (try clear hcz21_2); (try clear hcz21_3); (try clear hcz21_4); (try clear hcz27_0); (try clear hcz27_1)
             (try clear hcz27_2); (try clear hcz27_3); (try clear hcz27_4); (try clear hcz30_0); (try clear hcz30_1); (try clear hcz30_2); (try clear hcz30_3); (try clear hcz30_4); (try clear hcz32_0)
             (try clear hcz32_1); (try clear hcz32_2); (try clear hcz32_3); (try clear hcz32_4); (try clear hcz34_0); (try clear hcz34_1); (try clear hcz34_2); (try clear hcz34_3); (try clear hcz34_4)
             (try clear hcz4_0); (try clear hcz4_1); (try clear hcz4_2); (try clear hcz6_0); (try clear hcz6_1); (try clear hcz6_2); (try clear hfz10_0); (try clear hfz10_1); (try clear hfz10_2)
             (try clear hfz13_0); (try clear hfz13_1); (try clear hfz13_2); (try clear hfz13_3); (try clear hfz13_4); (try clear hfz16_0); (try clear hfz16_1); (try clear hfz16_2); (try clear hfz16_3)
             (try clear hfz16_4); (try clear hfz19_0); (try clear hfz19_1); (try clear hfz19_2); (try clear hfz19_3); (try clear hfz19_4); (try clear hfz21_0); (try clear hfz21_1); (try clear hfz21_2)
             (try clear hfz21_3); (try clear hfz21_4); (try clear hfz27_0); (try clear hfz27_1); (try clear hfz27_2); (try clear hfz27_3); (try clear hfz27_4); (try clear hfz30_0); (try clear hfz30_1)
             (try clear hfz30_2); (try clear hfz30_3); (try clear hfz30_4); (try clear hfz32_0); (try clear hfz32_1); (try clear hfz32_2); (try clear hfz32_3); (try clear hfz32_4); (try clear hfz34_0)
             (try clear hfz34_1); (try clear hfz34_2); (try clear hfz34_3); (try clear hfz34_4); (try clear hfz4_0); (try clear hfz4_1); (try clear hfz4_2); (try clear hfz6_0); (try clear hfz6_1)
             (try clear hfz6_2); (try clear hx325_0); (try clear hx325_1); (try clear hx325_2); (try clear hx325_3); (try clear hx325_4); (try clear hx327_0); (try clear hx327_1); (try clear hx327_2)
             (try clear hx327_3); (try clear hx327_4); (try clear hx327_5); (try clear hx327_6); (try clear hx327_7); (try clear hx327_8); (try clear hx328_0); (try clear hx328_1); (try clear hx328_2)
             (try clear hx328_3); (try clear hx328_4); (try clear hx328_5); (try clear hx328_6); (try clear hx328_7); (try clear hx328_8); (try clear p2); (try clear p3); (try clear p325)
             (try clear p327); (try clear p328); (try clear q3); (try clear q325); (try clear q327); (try clear q328); obtain ⟨x6_4, rfl, HA, HK4, BK324, BK326, HB⟩ := hrel
             cases gk with
             | zero => exact absurd HA.out (by simp [falseworklaw6_Great.l2])
             | succ k4 =>
              have H := HA.out; clear HA; simp only [falseworklaw6_Great.l2] at H
              by_cases c35 : x6_4 < (((rd_T70 l0_1 x3_1).f3).length : Int)
              ·rw [if_pos c35] at H
               have c35b0 : decide (x6_4 < (((rd_T70 l0_1 x3_1).f3).length : Int)) = true := decide_eq_true c35
               clear c35; by_cases c36 : 0 ≤ x6_4
               ·rw [if_pos c36] at H
                have c36b0 : decide (0 ≤ x6_4) = true := decide_eq_true c36
                clear c36; by_cases c37 : (((rd_T98 ((rd_T70 l0_1 x3_1).f3) x6_4).f1).size : Int) > 1000
                ·rw [if_pos c37] at H
                 have c37b0 : decide (1000 < (((rd_T98 ((rd_T70 l0_1 x3_1).f3) x6_4).f1).size : Int)) = true := decide_eq_true c37
                 have c37b1 : decide (1000 < ((rd_T98 ((rd_T70 l0_1 x3_1).f3) x6_4).f1).size) = true := decide_eq_true (by omega)
                 clear c37; obtain rfl := Option.some.inj H; have hnb38 := NB326_324.out; have hnc38 := NB324_326.out; have hcz39_0 : wr.cell? ⟨gb326, 0, none⟩ = some (.int .i64 ((rd_T70 l0_1 x3_1).f0)) := (Go.Proofs.YtjgomlcdmpcoaaaDoorW.PrintWords.blk_cell BK326.out 0).trans rfl
                 have hcz39_1 : wr.cell? ⟨gb326, 1, none⟩ = some (.string ((rd_T70 l0_1 x3_1).f1)) := (Go.Proofs.YtjgomlcdmpcoaaaDoorW.PrintWords.blk_cell BK326.out 1).trans rfl
                 have hcz39_2 : wr.cell? ⟨gb326, 2, none⟩ = some (.slice A325_2 ((rd_T70 l0_1 x3_1).f2).length c325_2) := (Go.Proofs.YtjgomlcdmpcoaaaDoorW.PrintWords.blk_cell BK326.out 2).trans rfl
                 have hcz39_3 : wr.cell? ⟨gb326, 3, none⟩ = some (.slice A325_3 ((rd_T70 l0_1 x3_1).f3).length c325_3) := (Go.Proofs.YtjgomlcdmpcoaaaDoorW.PrintWords.blk_cell BK326.out 3).trans rfl
                 have hcz39_4 : wr.cell? ⟨gb326, 4, none⟩ = some (.int .i64 ((rd_T70 l0_1 x3_1).f4)) := (Go.Proofs.YtjgomlcdmpcoaaaDoorW.PrintWords.blk_cell BK326.out 4).trans rfl
                 have hfz39_0 := blk_frozen BK326.out 0
                 have hfz39_1 := blk_frozen BK326.out 1
                 have hfz39_2 := blk_frozen BK326.out 2
                 have hfz39_3 := blk_frozen BK326.out 3
                 have hfz39_4 := blk_frozen BK326.out 4
                 have p329 : 0 ≤ (x6_4 : Int) := of_decide_eq_true (by first | (with_reducible assumption) | assumption)
                 have q329 : x6_4 < (((rd_T70 l0_1 x3_1).f3).length : Int) := of_decide_eq_true (by first | (with_reducible assumption) | assumption)
                 obtain ⟨ad329, A329_2, c329_2, e329, hx329_0, hx329_1, hx329_2, hx329_3, hx329_4, hl329_2, hi329_2⟩ := at_T98 HR325_3.out x6_4 p329 q329
                 cases e329
                 replace hx329_0 := (HB.out.cell (World.block_lt_of_cell? w _ hx329_0)).trans hx329_0
                 replace hx329_1 := (HB.out.cell (World.block_lt_of_cell? w _ hx329_1)).trans hx329_1
                 replace hx329_2 := (HB.out.cell (World.block_lt_of_cell? w _ hx329_2)).trans hx329_2
                 replace hx329_3 := (HB.out.cell (World.block_lt_of_cell? w _ hx329_3)).trans hx329_3
                 replace hx329_4 := (HB.out.cell (World.block_lt_of_cell? w _ hx329_4)).trans hx329_4
                 have HR329_2 := Aside0.mk hi329_2; have HC329_2 := Aside0.mk hl329_2; clear hi329_2 hl329_2; replace p329 := eq_true p329
                 replace q329 := eq_true q329
                 go_wp2; go_ret; exact ⟨by first | rfl | (simp [errW_none, errW_some] <;> rfl) | (simp [*, errW_none, errW_some] <;> rfl), by repeat (first | (with_reducible first | exact HB.out | apply below_alloc | apply pw_below_drewN | apply below_drew1 | refine below_set ?_ GE324.out | refine below_set ?_ GE326.out) | exact HB.out)⟩
                ·rw [if_neg c37] at H
                 have c37b0 : decide (1000 < (((rd_T98 ((rd_T70 l0_1 x3_1).f3) x6_4).f1).size : Int)) = false := decide_eq_false c37
                 have c37b1 : decide (1000 < ((rd_T98 ((rd_T70 l0_1 x3_1).f3) x6_4).f1).size) = false := decide_eq_false (by omega)
                 clear c37; by_cases c40 : (((rd_T98 ((rd_T70 l0_1 x3_1).f3) x6_4).f2).length : Int) > 50
                 ·rw [if_pos c40] at H
                  have c40b0 : decide (50 < (((rd_T98 ((rd_T70 l0_1 x3_1).f3) x6_4).f2).length : Int)) = true := decide_eq_true c40
                  have c40b1 : decide (50 < ((rd_T98 ((rd_T70 l0_1 x3_1).f3) x6_4).f2).length) = true := decide_eq_true (by omega)
                  clear c40; obtain rfl := Option.some.inj H; have hnb41 := NB326_324.out; have hnc41 := NB324_326.out; have hcz42_0 : wr.cell? ⟨gb326, 0, none⟩ = some (.int .i64 ((rd_T70 l0_1 x3_1).f0)) := (Go.Proofs.YtjgomlcdmpcoaaaDoorW.PrintWords.blk_cell BK326.out 0).trans rfl
                  have hcz42_1 : wr.cell? ⟨gb326, 1, none⟩ = some (.string ((rd_T70 l0_1 x3_1).f1)) := (Go.Proofs.YtjgomlcdmpcoaaaDoorW.PrintWords.blk_cell BK326.out 1).trans rfl
                  have hcz42_2 : wr.cell? ⟨gb326, 2, none⟩ = some (.slice A325_2 ((rd_T70 l0_1 x3_1).f2).length c325_2) := (Go.Proofs.YtjgomlcdmpcoaaaDoorW.PrintWords.blk_cell BK326.out 2).trans rfl
                  have hcz42_3 : wr.cell? ⟨gb326, 3, none⟩ = some (.slice A325_3 ((rd_T70 l0_1 x3_1).f3).length c325_3) := (Go.Proofs.YtjgomlcdmpcoaaaDoorW.PrintWords.blk_cell BK326.out 3).trans rfl
                  have hcz42_4 : wr.cell? ⟨gb326, 4, none⟩ = some (.int .i64 ((rd_T70 l0_1 x3_1).f4)) := (Go.Proofs.YtjgomlcdmpcoaaaDoorW.PrintWords.blk_cell BK326.out 4).trans rfl
                  have hfz42_0 := blk_frozen BK326.out 0
                  have hfz42_1 := blk_frozen BK326.out 1
                  have hfz42_2 := blk_frozen BK326.out 2
                  have hfz42_3 := blk_frozen BK326.out 3
                  have hfz42_4 := blk_frozen BK326.out 4
                  have p329 : 0 ≤ (x6_4 : Int) := of_decide_eq_true (by first | (with_reducible assumption) | assumption)
                  have q329 : x6_4 < (((rd_T70 l0_1 x3_1).f3).length : Int) := of_decide_eq_true (by first | (with_reducible assumption) | assumption)
                  obtain ⟨ad329, A329_2, c329_2, e329, hx329_0, hx329_1, hx329_2, hx329_3, hx329_4, hl329_2, hi329_2⟩ := at_T98 HR325_3.out x6_4 p329 q329
                  cases e329
                  replace hx329_0 := (HB.out.cell (World.block_lt_of_cell? w _ hx329_0)).trans hx329_0
                  replace hx329_1 := (HB.out.cell (World.block_lt_of_cell? w _ hx329_1)).trans hx329_1
                  replace hx329_2 := (HB.out.cell (World.block_lt_of_cell? w _ hx329_2)).trans hx329_2
                  replace hx329_3 := (HB.out.cell (World.block_lt_of_cell? w _ hx329_3)).trans hx329_3
                  replace hx329_4 := (HB.out.cell (World.block_lt_of_cell? w _ hx329_4)).trans hx329_4
                  have HR329_2 := Aside0.mk hi329_2; have HC329_2 := Aside0.mk hl329_2; clear hi329_2 hl329_2; replace p329 := eq_true p329
                  replace q329 := eq_true q329
                  have p330 : 0 ≤ (x6_4 : Int) := of_decide_eq_true (by first | (with_reducible assumption) | assumption)
                  have q330 : x6_4 < (((rd_T70 l0_1 x3_1).f3).length : Int) := of_decide_eq_true (by first | (with_reducible assumption) | assumption)
                  obtain ⟨ad330, A330_2, c330_2, e330, hx330_0, hx330_1, hx330_2, hx330_3, hx330_4, hl330_2, hi330_2⟩ := at_T98 HR325_3.out x6_4 p330 q330
                  obtain rfl : ad329 = ad330 := (by injection e330)
                  replace hx330_0 := (HB.out.cell (World.block_lt_of_cell? w _ hx330_0)).trans hx330_0
                  replace hx330_1 := (HB.out.cell (World.block_lt_of_cell? w _ hx330_1)).trans hx330_1
                  replace hx330_2 := (HB.out.cell (World.block_lt_of_cell? w _ hx330_2)).trans hx330_2
                  replace hx330_3 := (HB.out.cell (World.block_lt_of_cell? w _ hx330_3)).trans hx330_3
                  replace hx330_4 := (HB.out.cell (World.block_lt_of_cell? w _ hx330_4)).trans hx330_4
                  have HR330_2 := Aside0.mk hi330_2; have HC330_2 := Aside0.mk hl330_2; clear hi330_2 hl330_2; replace p330 := eq_true p330
                  replace q330 := eq_true q330
                  have ea_ := Option.some.inj (hx329_2.symm.trans hx330_2)
                  injection ea_ with ea_ en_ ec_
                  subst ea_; subst ec_; clear en_; go_wp2; go_ret; exact ⟨by first | rfl | (simp [errW_none, errW_some] <;> rfl) | (simp [*, errW_none, errW_some] <;> rfl), by repeat (first | (with_reducible first | exact HB.out | apply below_alloc | apply pw_below_drewN | apply below_drew1 | refine below_set ?_ GE324.out | refine below_set ?_ GE326.out) | exact HB.out)⟩
                 ·rw [if_neg c40] at H
                  have c40b0 : decide (50 < (((rd_T98 ((rd_T70 l0_1 x3_1).f3) x6_4).f2).length : Int)) = false := decide_eq_false c40
                  have c40b1 : decide (50 < ((rd_T98 ((rd_T70 l0_1 x3_1).f3) x6_4).f2).length) = false := decide_eq_false (by omega)
                  clear c40; have H' := Aside0.mk H; clear H; have hnb43 := NB326_324.out; have hnc43 := NB324_326.out; have hcz44_0 : wr.cell? ⟨gb326, 0, none⟩ = some (.int .i64 ((rd_T70 l0_1 x3_1).f0)) := (Go.Proofs.YtjgomlcdmpcoaaaDoorW.PrintWords.blk_cell BK326.out 0).trans rfl
                  have hcz44_1 : wr.cell? ⟨gb326, 1, none⟩ = some (.string ((rd_T70 l0_1 x3_1).f1)) := (Go.Proofs.YtjgomlcdmpcoaaaDoorW.PrintWords.blk_cell BK326.out 1).trans rfl
                  have hcz44_2 : wr.cell? ⟨gb326, 2, none⟩ = some (.slice A325_2 ((rd_T70 l0_1 x3_1).f2).length c325_2) := (Go.Proofs.YtjgomlcdmpcoaaaDoorW.PrintWords.blk_cell BK326.out 2).trans rfl
                  have hcz44_3 : wr.cell? ⟨gb326, 3, none⟩ = some (.slice A325_3 ((rd_T70 l0_1 x3_1).f3).length c325_3) := (Go.Proofs.YtjgomlcdmpcoaaaDoorW.PrintWords.blk_cell BK326.out 3).trans rfl
                  have hcz44_4 : wr.cell? ⟨gb326, 4, none⟩ = some (.int .i64 ((rd_T70 l0_1 x3_1).f4)) := (Go.Proofs.YtjgomlcdmpcoaaaDoorW.PrintWords.blk_cell BK326.out 4).trans rfl
                  have hfz44_0 := blk_frozen BK326.out 0
                  have hfz44_1 := blk_frozen BK326.out 1
                  have hfz44_2 := blk_frozen BK326.out 2
                  have hfz44_3 := blk_frozen BK326.out 3
                  have hfz44_4 := blk_frozen BK326.out 4
                  have p329 : 0 ≤ (x6_4 : Int) := of_decide_eq_true (by first | (with_reducible assumption) | assumption)
                  have q329 : x6_4 < (((rd_T70 l0_1 x3_1).f3).length : Int) := of_decide_eq_true (by first | (with_reducible assumption) | assumption)
                  obtain ⟨ad329, A329_2, c329_2, e329, hx329_0, hx329_1, hx329_2, hx329_3, hx329_4, hl329_2, hi329_2⟩ := at_T98 HR325_3.out x6_4 p329 q329
                  cases e329
                  replace hx329_0 := (HB.out.cell (World.block_lt_of_cell? w _ hx329_0)).trans hx329_0
                  replace hx329_1 := (HB.out.cell (World.block_lt_of_cell? w _ hx329_1)).trans hx329_1
                  replace hx329_2 := (HB.out.cell (World.block_lt_of_cell? w _ hx329_2)).trans hx329_2
                  replace hx329_3 := (HB.out.cell (World.block_lt_of_cell? w _ hx329_3)).trans hx329_3
                  replace hx329_4 := (HB.out.cell (World.block_lt_of_cell? w _ hx329_4)).trans hx329_4
                  have HR329_2 := Aside0.mk hi329_2; have HC329_2 := Aside0.mk hl329_2; clear hi329_2 hl329_2; replace p329 := eq_true p329
                  replace q329 := eq_true q329
                  have p330 : 0 ≤ (x6_4 : Int) := of_decide_eq_true (by first | (with_reducible assumption) | assumption)
                  have q330 : x6_4 < (((rd_T70 l0_1 x3_1).f3).length : Int) := of_decide_eq_true (by first | (with_reducible assumption) | assumption)
                  obtain ⟨ad330, A330_2, c330_2, e330, hx330_0, hx330_1, hx330_2, hx330_3, hx330_4, hl330_2, hi330_2⟩ := at_T98 HR325_3.out x6_4 p330 q330
                  obtain rfl : ad329 = ad330 := (by injection e330)
                  replace hx330_0 := (HB.out.cell (World.block_lt_of_cell? w _ hx330_0)).trans hx330_0
                  replace hx330_1 := (HB.out.cell (World.block_lt_of_cell? w _ hx330_1)).trans hx330_1
                  replace hx330_2 := (HB.out.cell (World.block_lt_of_cell? w _ hx330_2)).trans hx330_2
                  replace hx330_3 := (HB.out.cell (World.block_lt_of_cell? w _ hx330_3)).trans hx330_3
                  replace hx330_4 := (HB.out.cell (World.block_lt_of_cell? w _ hx330_4)).trans hx330_4
                  have HR330_2 := Aside0.mk hi330_2; have HC330_2 := Aside0.mk hl330_2; clear hi330_2 hl330_2; replace p330 := eq_true p330
                  replace q330 := eq_true q330
                  have ea_ := Option.some.inj (hx329_2.symm.trans hx330_2)
                  injection ea_ with ea_ en_ ec_
                  subst ea_; subst ec_; clear en_; go_wp2; go_roundg k4
                  case measure => have := HK1.out; have := HJ8.out; have := HK3.out; have := HK4.out; omega
                  case rel => exact ⟨(wrap64 (x6_4 + 1)), (by first | rfl | (simp; done) | (simp [*]; done)), H', ⟨by have := HK1.out; have := HJ8.out; have := HK3.out; have := HK4.out; omega⟩, ⟨by (with_reducible repeat (first | refine blk_drewN ?_ _ | refine blk_drew ?_ | refine blk_alloc ?_ _)); exact BK324.out⟩, ⟨by (with_reducible repeat (first | refine blk_drewN ?_ _ | refine blk_drew ?_ | refine blk_alloc ?_ _)); exact BK326.out⟩, ⟨by repeat (first | (with_reducible first | exact HB.out | apply below_alloc | apply pw_below_drewN | apply below_drew1 | refine below_set ?_ GE324.out | refine below_set ?_ GE326.out) | exact HB.out)⟩⟩
               ·rw [if_neg c36] at H
                exact absurd H (by simp)
              ·rw [if_neg c35] at H
               have c35b0 : decide (x6_4 < (((rd_T70 l0_1 x3_1).f3).length : Int)) = false := decide_eq_false c35
               clear c35; have H' := Aside0.mk H; clear H; have hnb45 := NB326_324.out; have hnc45 := NB324_326.out; have hcz46_0 : wr.cell? ⟨gb326, 0, none⟩ = some (.int .i64 ((rd_T70 l0_1 x3_1).f0)) := (Go.Proofs.YtjgomlcdmpcoaaaDoorW.PrintWords.blk_cell BK326.out 0).trans rfl
               have hcz46_1 : wr.cell? ⟨gb326, 1, none⟩ = some (.string ((rd_T70 l0_1 x3_1).f1)) := (Go.Proofs.YtjgomlcdmpcoaaaDoorW.PrintWords.blk_cell BK326.out 1).trans rfl
               have hcz46_2 : wr.cell? ⟨gb326, 2, none⟩ = some (.slice A325_2 ((rd_T70 l0_1 x3_1).f2).length c325_2) := (Go.Proofs.YtjgomlcdmpcoaaaDoorW.PrintWords.blk_cell BK326.out 2).trans rfl
               have hcz46_3 : wr.cell? ⟨gb326, 3, none⟩ = some (.slice A325_3 ((rd_T70 l0_1 x3_1).f3).length c325_3) := (Go.Proofs.YtjgomlcdmpcoaaaDoorW.PrintWords.blk_cell BK326.out 3).trans rfl
               have hcz46_4 : wr.cell? ⟨gb326, 4, none⟩ = some (.int .i64 ((rd_T70 l0_1 x3_1).f4)) := (Go.Proofs.YtjgomlcdmpcoaaaDoorW.PrintWords.blk_cell BK326.out 4).trans rfl
               have hfz46_0 := blk_frozen BK326.out 0
               have hfz46_1 := blk_frozen BK326.out 1
               have hfz46_2 := blk_frozen BK326.out 2
               have hfz46_3 := blk_frozen BK326.out 3
               have hfz46_4 := blk_frozen BK326.out 4
               go_wp2; go_roundg k4
               case measure => have := HK1.out; have := HJ8.out; have := HK3.out; have := HK4.out; omega
               case rel => exact ⟨(wrap64 (x3_1 + 1)), (by first | rfl | (simp; done) | (simp [*]; done)), H', ⟨by have := HK1.out; have := HJ8.out; have := HK3.out; have := HK4.out; omega⟩, ⟨by (with_reducible repeat (first | refine blk_drewN ?_ _ | refine blk_drew ?_ | refine blk_alloc ?_ _)); exact BK324.out⟩, ⟨by repeat (first | (with_reducible first | exact HB.out | apply below_alloc | apply pw_below_drewN | apply below_drew1 | refine below_set ?_ GE324.out | refine below_set ?_ GE326.out) | exact HB.out)⟩⟩
     ·rw [if_neg c8] at H
      exact absurd H (by simp)
    ·rw [if_neg c7] at H
     have c7b0 : decide (x3_1 < (l0_1.length : Int)) = false := decide_eq_false c7
     clear c7; obtain rfl := Option.some.inj H; have hcz47_0 : wr.cell? ⟨gb324, 0, none⟩ = some (.int .i64 a0_0) := (Go.Proofs.YtjgomlcdmpcoaaaDoorW.PrintWords.blk_cell BK324.out 0).trans rfl
     have hcz47_1 : wr.cell? ⟨gb324, 1, none⟩ = some (.slice A0_1 l0_1.length c0_1) := (Go.Proofs.YtjgomlcdmpcoaaaDoorW.PrintWords.blk_cell BK324.out 1).trans rfl
     have hcz47_2 : wr.cell? ⟨gb324, 2, none⟩ = some (.int .i64 a0_2) := (Go.Proofs.YtjgomlcdmpcoaaaDoorW.PrintWords.blk_cell BK324.out 2).trans rfl
     have hfz47_0 := blk_frozen BK324.out 0
     have hfz47_1 := blk_frozen BK324.out 1
     have hfz47_2 := blk_frozen BK324.out 2
     go_wp2; go_ret; exact ⟨by first | rfl | (simp [errW_none, errW_some] <;> rfl) | (simp [*, errW_none, errW_some] <;> rfl), by repeat (first | (with_reducible first | exact HB.out | apply below_alloc | apply pw_below_drewN | apply below_drew1 | refine below_set ?_ GE324.out) | exact HB.out)⟩
end Go.Proofs.YtjgomlcdmpcoaaaDoor.D
namespace Go.Proofs.YtjgomlcdmpcoaaaDoor.H
open Go.RowKit Go.Proofs.YtjgomlcdmpcoaaaDoorW.PrintWords Go.Proofs.YtjgomlcdmpcoaaaDoorW.PrintLast Go.Proofs.YtjgomlcdmpcoaaaDoorW.PrintMore
open Go.Proofs.YtjgomlcdmpcoaaaDoor.D Go.Proofs.YtjgomlcdmpcoaaaDoor
set_option linter.unusedVariables false
section
variable (v : Int) (ts : List S70) (nx : Int)
abbrev gL0 (k : Nat) (i : Int) := falseworklaw6_Great.l0 k i v ts nx
abbrev gL1 (k : Nat) (i j : Int) (t : S70) := falseworklaw6_Great.l1 k i j v ts nx t.f0 t.f1 t.f2 t.f3 t.f4
abbrev gL2 (k : Nat) (i j : Int) (t : S70) := falseworklaw6_Great.l2 k i j v ts nx t.f0 t.f1 t.f2 t.f3 t.f4
theorem gL2_tells (t : S70) (ht : t.f3.length ≤ 50) (i : Nat) (hi : i < 20) (K : Nat) (hR : ∀ k, K ≤ k → ∃ r, gL0 v ts nx k ((i + 1 : Nat) : Int) = some r) : ∀ (m j k : Nat), j + m = t.f3.length → K + m + 1 ≤ k → ∃ r, gL2 v ts nx k i j t = some r
  | 0, j, k, h, hk => by
    obtain ⟨k, rfl⟩ : ∃ k', k = k' + 1 := ⟨k - 1, by omega⟩
    obtain ⟨r, hr⟩ := hR k (by omega)
    refine ⟨r, ?_⟩
    show falseworklaw6_Great.l2 (k + 1) _ _ _ _ _ _ _ _ _ _ = _
    rw [falseworklaw6_Great.l2, if_neg (by omega), wrap_nat i (by omega)]
    exact hr
  | m + 1, j, k, h, hk => by
    obtain ⟨k, rfl⟩ : ∃ k', k = k' + 1 := ⟨k - 1, by omega⟩
    obtain ⟨r, hr⟩ := gL2_tells t ht i hi K hR m (j + 1) k (by omega) (by omega)
    show ∃ r, falseworklaw6_Great.l2 (k + 1) _ _ _ _ _ _ _ _ _ _ = some r
    rw [falseworklaw6_Great.l2, if_pos (by omega), if_pos (by omega), wrap_nat j (by omega)]
    split
    · exact ⟨_, rfl⟩
    split
    · exact ⟨_, rfl⟩
    · exact ⟨r, hr⟩
theorem gL1_tells (t : S70) (hc : t.f2.length ≤ 50) (ht : t.f3.length ≤ 50) (i : Nat) (hi : i < 20) (K : Nat) (hR : ∀ k, K ≤ k → ∃ r, gL0 v ts nx k ((i + 1 : Nat) : Int) = some r) : ∀ (m j k : Nat), j + m = t.f2.length → K + m + 52 ≤ k → ∃ r, gL1 v ts nx k i j t = some r
  | 0, j, k, h, hk => by
    obtain ⟨k, rfl⟩ : ∃ k', k = k' + 1 := ⟨k - 1, by omega⟩
    obtain ⟨r, hr⟩ := gL2_tells v ts nx t ht i hi K hR t.f3.length 0 k (by omega) (by omega)
    refine ⟨r, ?_⟩
    show falseworklaw6_Great.l1 (k + 1) _ _ _ _ _ _ _ _ _ _ = _
    rw [falseworklaw6_Great.l1, if_neg (by omega)]
    exact hr
  | m + 1, j, k, h, hk => by
    obtain ⟨k, rfl⟩ : ∃ k', k = k' + 1 := ⟨k - 1, by omega⟩
    obtain ⟨r, hr⟩ := gL1_tells t hc ht i hi K hR m (j + 1) k (by omega) (by omega)
    show ∃ r, falseworklaw6_Great.l1 (k + 1) _ _ _ _ _ _ _ _ _ _ = some r
    rw [falseworklaw6_Great.l1, if_pos (by omega), if_pos (by omega), wrap_nat j (by omega)]
    split
    · exact ⟨_, rfl⟩
    split
    · exact ⟨_, rfl⟩
    · exact ⟨r, hr⟩
theorem gL0_tells (hn : ts.length ≤ 20) : ∀ (m i k : Nat), i + m = ts.length → 200 * (m + 1) ≤ k → ∃ r, gL0 v ts nx k i = some r
  | 0, i, k, h, hk => by
    obtain ⟨k, rfl⟩ : ∃ k', k = k' + 1 := ⟨k - 1, by omega⟩
    refine ⟨false, ?_⟩
    show falseworklaw6_Great.l0 (k + 1) _ _ _ _ = _
    rw [falseworklaw6_Great.l0, if_neg (by omega)]
  | m + 1, i, k, h, hk => by
    obtain ⟨k, rfl⟩ : ∃ k', k = k' + 1 + 1 := ⟨k - 2, by omega⟩
    have hi : i < ts.length := by omega
    have hj : ∀ b, falseworklaw6_Great.j1 (k + 1) i b v ts nx ts[i].f0 ts[i].f1 ts[i].f2 ts[i].f3 ts[i].f4 = if b = true then some true else gL1 v ts nx k i 0 ts[i] := fun b => by rw [falseworklaw6_Great.j1]
    show ∃ r, falseworklaw6_Great.l0 (k + 1 + 1) _ _ _ _ = some r
    rw [falseworklaw6_Great.l0, if_pos (by omega), if_pos (by omega), rd70 _ _ hi, hj, hj]
    split
    · exact ⟨_, if_pos rfl⟩
    split
    · exact ⟨_, if_pos rfl⟩
    rename_i h1 h2
    by_cases h3 : (ts[i].f3.length : Int) > 50
    · rw [decide_eq_true h3]
      exact ⟨_, if_pos rfl⟩
    · rw [decide_eq_false h3, if_neg (by simp)]
      exact gL1_tells v ts nx ts[i] (by omega) (by omega) i (by omega) (200 * (m + 1)) (fun k hk => gL0_tells hn m (i + 1) k (by omega) hk) ts[i].f2.length 0 k (by omega) (by omega)
theorem great_tells : ∃ r, falseworklaw6_Great.f 5000 v ts nx = some r := by
  unfold falseworklaw6_Great.f
  split
  · exact ⟨_, rfl⟩
  · exact gL0_tells v ts nx (by omega) ts.length 0 5000 (by omega) (by omega)
end
theorem great_calls (v : Int) (ts : List S70) (nx : Int) : ∃ g : Bool, ∀ (A : Option Addr) (c : Nat) (w : World), ts.length ≤ c → k70.C w A ts.length ts →
    Calls Tryd.prog 25 #[.agg #[.int .i64 v, .slice A ts.length c, .int .i64 nx]] w fun e w' => e = .returned (.bool g) ∧ Below w.heap.size w w' := by
  obtain ⟨g, hg⟩ := great_tells v ts nx
  exact ⟨g, fun A c w hc h => falseworklaw6_Great.calls 5000 v A c ts nx g w h hc hg⟩
end Go.Proofs.YtjgomlcdmpcoaaaDoor.H
namespace Go.Proofs.YtjgomlcdmpcoaaaDoor.H
open Go.RowKit Go.Proofs.YtjgomlcdmpcoaaaDoorW.PrintWords Go.Proofs.YtjgomlcdmpcoaaaDoorW.PrintLast Go.Proofs.YtjgomlcdmpcoaaaDoorW.PrintMore
set_option linter.unusedVariables false
theorem heap_alloc_old' (w : World) (o : Obj) {k : Nat} {x : Obj} (h : w.heap[k]? = some x) : (w.alloc o).heap[k]? = some x :=
  (heap_alloc_old w o (blk_lt h)).trans h
end Go.Proofs.YtjgomlcdmpcoaaaDoor.H
namespace Go.Proofs.YtjgomlcdmpcoaaaDoor.H
open Go.RowKit Go.Proofs.YtjgomlcdmpcoaaaDoorW.PrintWords Go.Proofs.YtjgomlcdmpcoaaaDoorW.PrintLast Go.Proofs.YtjgomlcdmpcoaaaDoorW.PrintMore
open Go.Proofs.YtjgomlcdmpcoaaaDoor.D Go.Proofs.YtjgomlcdmpcoaaaDoor
set_option linter.unusedVariables false
theorem bytes_facts (w : World) (s : ByteArray) : w.heap.size < (Lib.bytesWorld w 5 s).heap.size ∧ (∀ i, i < s.size → (Lib.bytesWorld w 5 s).cell? ⟨w.heap.size, i, none⟩ = some (.int .u8 ((bl s).getD i 0))) ∧ (∀ i, i < s.size → (Lib.bytesWorld w 5 s).frozen? ⟨w.heap.size, i, none⟩ = false) := by
  refine ⟨by rw [Lib.bytesWorld_size]; omega, fun i hi => ?_, fun i hi => ?_⟩
  · rw [Lib.bytesWorld_cell w 5 s i hi]
    obtain ⟨b, hb, hb'⟩ := bl_at s i hi
    rw [hb', List.getD_eq_getElem?_getD, hb]
    rfl
  · have hc : s.size ≤ (Lib.bytesCells w 5 s).size := by unfold Lib.bytesCells; rw [Array.size_append, Array.size_map]; exact Nat.le_add_right _ _
    have := Lib.bytesWorld_at_new w 5 s
    simp [World.frozen?, this]
    omega
end Go.Proofs.YtjgomlcdmpcoaaaDoor.H
namespace Go.Proofs.YtjgomlcdmpcoaaaDoor.H
open Go.RowKit Go.Proofs.YtjgomlcdmpcoaaaDoorW.PrintWords Go.Proofs.YtjgomlcdmpcoaaaDoorW.PrintLast Go.Proofs.YtjgomlcdmpcoaaaDoorW.PrintMore
open Go.Proofs.YtjgomlcdmpcoaaaDoor.D Go.Proofs.YtjgomlcdmpcoaaaDoor
set_option linter.unusedVariables false
set_option linter.unusedSimpArgs false
def InB (l : List Int) : Prop := ∀ x ∈ l, 0 ≤ x ∧ x < 256
def RB (w : World) (g : Nat) (l : List Int) : Prop := InB l ∧ l.length ≤ 30000 ∧ w.heap[g]? = some (.cells #[.string (strOfNums l)] 128 (0, 0))
structure Rd (g : Nat) (w w' : World) : Prop where
  below : Below g w w'
  block : ∀ i, i < w.heap.size → i ≠ g → w'.heap[i]? = w.heap[i]?
theorem Rd.refl (g : Nat) (w : World) : Rd g w w := ⟨Below.refl _ _, fun _ _ _ => rfl⟩
theorem Rd.size {g : Nat} {w w' : World} (h : Rd g w w') : w.heap.size ≤ w'.heap.size := h.below.size
theorem Rd.trans {g : Nat} {a b c : World} (h : Rd g a b) (k : Rd g b c) : Rd g a c :=
  ⟨h.below.trans k.below, fun i hi hne => (k.block i (Nat.lt_of_lt_of_le hi h.below.size) hne).trans (h.block i hi hne)⟩
theorem Rd.of_below {g : Nat} {w w' : World} (h : Below w.heap.size w w') (hg : g ≤ w.heap.size) : Rd g w w' := ⟨h.mono hg, fun i hi _ => h.block i hi⟩
theorem Rd.blk {g : Nat} {w w' : World} (h : Rd g w w') {i : Nat} {o : Obj} (hi : w.heap[i]? = some o) (hne : i ≠ g) : w'.heap[i]? = some o := by
  have hlt : i < w.heap.size := by
    rcases Nat.lt_or_ge i w.heap.size with h | h
    · exact h
    · rw [Array.getElem?_eq_none h] at hi; cases hi
  rw [h.block i hlt hne]; exact hi
theorem RB.lt {w : World} {g : Nat} {l : List Int} (h : RB w g l) : g < w.heap.size := lt_of_block h.2.2
theorem RB.below {w w' : World} {g : Nat} {l : List Int} (h : RB w g l) (hb : Below w.heap.size w w') : RB w' g l := ⟨h.1, h.2.1, blk_below h.2.2 hb⟩
theorem Rd.set {w : World} {g : Nat} (v : Value) : Rd g w (w.setCell ⟨g, 0, none⟩ v) :=
  ⟨Below.setCell (p := ⟨g, 0, none⟩) (Below.refl _ _) (Nat.le_refl _) _, fun i hi hne => Below.heap_setCell _ _ _ _ hne⟩
theorem InB.take {l : List Int} (h : InB l) (n : Nat) : InB (l.take n) := fun x hx => h x (List.mem_of_mem_take hx)
theorem InB.drop {l : List Int} (h : InB l) (n : Nat) : InB (l.drop n) := fun x hx => h x (List.mem_of_mem_drop hx)
theorem nums_take (l : List Int) (n : Nat) (h : n ≤ l.length) : (strOfNums l).extract 0 n = strOfNums (l.take n) := by
  have := nums_ext [] (l.take n) (l.drop n) 0 n rfl (by simp; omega)
  simpa using this
theorem nums_drop (l : List Int) (n : Nat) (h : n ≤ l.length) : (strOfNums l).extract n l.length = strOfNums (l.drop n) := by
  have := nums_ext (l.take n) (l.drop n) [] n l.length (by simp; omega) (by simp; omega)
  simpa using this
def failC : List PanicEntry := [{ v := .iface 168 (.agg #[]), recovered := false }]
set_option maxRecDepth 100000 in
set_option maxHeartbeats 1000000 in
theorem take_ok (g : Nat) (l : List Int) (n : Nat) (w : World) (h : RB w g l) (hn : n ≤ l.length) :
    Calls Tryd.prog 167 #[.pointer (some ⟨g, 0, none⟩), .int .i64 n] w fun e w' => e = .returned (.string (strOfNums (l.take n))) ∧ RB w' g (l.drop n) ∧ Rd g w w' := by
  obtain ⟨h1, h2, h3⟩ := h
  have c0 := cell_of_one h3
  have f0 := free_of_one h3
  have hz : (strOfNums l).size = l.length := strOfNums_size l
  have ht := nums_take l n hn
  have hd := nums_drop l n hn
  have H1 := Aside0.mk h1
  have H3 := Aside0.mk h3
  have HT := Lib.hid ht
  have HD := Lib.hid hd
  have hs : n ≤ (strOfNums l).size := by omega
  have HZ := Lib.hid hz
  have hm : (strOfNums l).size ≤ 30000 := by omega
  clear h1 h3 ht hd hz
  obtain ⟨s, hs'⟩ : ∃ s, strOfNums l = s := ⟨_, rfl⟩
  rw [hs'] at c0 H3 HT HD hs hm HZ
  have b1 : decide ((s.size : Int) < (n : Int)) = false := decide_eq_false (by omega)
  clear hs'
  go_enter Tryd.func167, Tryd.ntmps167
  go_wp2
  go_ret
  refine ⟨?_, ⟨H1.out.drop n, by rw [List.length_drop]; omega, ?_⟩, Rd.set _⟩
  · rw [← HT.out]; rfl
  · rw [← HD.out, ← HZ.out]
    exact one_setCell H3.out
set_option maxRecDepth 100000 in
set_option maxHeartbeats 1000000 in
theorem take_no (g : Nat) (l : List Int) (n : Int) (w : World) (h : RB w g l) (hn : n < 0 ∨ (l.length : Int) < n) :
    Calls Tryd.prog 167 #[.pointer (some ⟨g, 0, none⟩), .int .i64 n] w fun e w' => e = .panicked failC ∧ Rd g w w' := by
  obtain ⟨h1, h2, h3⟩ := h
  have c0 := cell_of_one h3
  have hz : (strOfNums l).size = l.length := strOfNums_size l
  clear h1 h3
  rw [← hz] at hn
  generalize strOfNums l = s at c0 hn hz
  by_cases hb : n < 0
  · have b1 : decide (n < 0) = true := decide_eq_true hb
    go_enter Tryd.func167, Tryd.ntmps167
    go_wp2
    exact ⟨rfl, rfl, Rd.refl _ _⟩
  · have b1 : decide (n < 0) = false := decide_eq_false hb
    have b2 : decide ((s.size : Int) < n) = true := decide_eq_true (by omega)
    go_enter Tryd.func167, Tryd.ntmps167
    go_wp2
    exact ⟨rfl, rfl, Rd.refl _ _⟩
set_option maxRecDepth 100000 in
set_option maxHeartbeats 2000000 in
theorem word_ok (g : Nat) (l : List Int) (w : World) (h : RB w g l) (hn : 8 ≤ l.length) :
    Calls Tryd.prog 136 #[.pointer (some ⟨g, 0, none⟩)] w fun e w' => e = .returned (.int .u64 (beL 0 (l.take 8))) ∧ RB w' g (l.drop 8) ∧ Rd g w w' := by
  have hc := Lib.hid (show Calls Tryd.prog 167 #[.pointer (some ⟨g, 0, none⟩), .int .i64 8] w fun e w' => e = .returned (.string (strOfNums (l.take 8))) ∧ RB w' g (l.drop 8) ∧ Rd g w w' from take_ok g l 8 w h hn)
  have hB : InB (l.take 8) := h.1.take 8
  have hl8 : (l.take 8).length = 8 := by rw [List.length_take]; omega
  have hz : (strOfNums (l.take 8)).size = 8 := by rw [strOfNums_size]; exact hl8
  have hbl : bl (strOfNums (l.take 8)) = l.take 8 := bytes_back _ hB
  have HL := Lib.hid hbl
  generalize l.take 8 = B at hc hB hl8 hz HL
  generalize l.drop 8 = R at hc
  clear h hbl
  go_enter Tryd.func136, Tryd.ntmps136
  go_wp2_with fail
  refine hc.out.mono ?_
  rintro e w1 ⟨rfl, hrb, hrd⟩
  obtain ⟨s, hs⟩ : ∃ s, strOfNums B = s := ⟨_, rfl⟩
  rw [hs] at hz HL ⊢
  have hcv := Lib.run_convert_string_bytes (P := Tryd.prog) w1 9 61 5 s Tryd.underlying9 Tryd.underlying61 Tryd.underlying5
  have hBw := bytes_below (Below.refl w1.heap.size w1) (Nat.le_refl _) 5 s
  obtain ⟨gc, hgc⟩ : ∃ gc, grownCap w1 s.size 0 5 = gc := ⟨_, rfl⟩
  obtain ⟨f0, f1, f2⟩ := bytes_facts w1 s
  rw [hgc] at hcv
  obtain ⟨wb, hwb⟩ : ∃ wb, Lib.bytesWorld w1 5 s = wb := ⟨_, rfl⟩
  rw [hwb] at f0 f1 f2 hcv hBw
  have HE := Aside0.mk (show RB wb g R ∧ Rd g w wb from ⟨hrb.below hBw, hrd.trans (Rd.of_below hBw (Nat.le_of_lt hrb.lt))⟩)
  rw [hz] at f1 hcv
  have F1 := Aside0.mk f1
  clear hwb hgc hBw hs f0 f1 f2 hrb hrd hc
  go_wp2_with fail
  go_loop [3, 10, 5] (fun u3 u10 u5 => ∃ (k : Nat) (x : Int), k ≤ 8 ∧ u10 = .int .i64 k ∧ u3 = .int .u64 x ∧ 0 ≤ x ∧ Aside0 (x < 256 ^ k) ∧ Aside0 (beL 0 B = beL x (B.drop k))) (fun _ u10 _ => 8 - (intOf u10).toNat)
  case atStart => exact ⟨0, 0, by omega, rfl, rfl, by omega, ⟨by decide⟩, ⟨rfl⟩⟩
  case round =>
    obtain ⟨k, x, hk, rfl, rfl, hx0, HX, HC⟩ := hrel
    by_cases hlt : k < 8
    · have hlz : (k : Int) < 8 := by omega
      have hk0 : (0 : Int) ≤ (k : Int) := by omega
      have hcell := F1.out k hlt
      have hBk : k < B.length := by omega
      have hb := hB _ (List.getElem_mem hBk)
      rw [HL.out, List.getD_eq_getElem?_getD, List.getElem?_eq_getElem hBk] at hcell
      simp only [Option.getD_some] at hcell
      have hpw : (256 : Int) ^ k ≤ 256 ^ 7 := by rcases (by omega : k = 0 ∨ k = 1 ∨ k = 2 ∨ k = 3 ∨ k = 4 ∨ k = 5 ∨ k = 6 ∨ k = 7) with rfl | rfl | rfl | rfl | rfl | rfl | rfl | rfl <;> decide
      have hx1 : x < 72057594037927936 := Int.lt_of_lt_of_le HX.out hpw
      rw [List.drop_eq_getElem_cons hBk] at HC
      generalize B[k] = c at hcell hb HC
      have e1 : IntKind.u64.wrap (x * 256) = x * 256 := by rw [IntKind.wrap_u64]; omega
      have e2 : IntKind.u64.wrap c = c := by rw [IntKind.wrap_u64]; omega
      have HEE := Lib.hid (show bits .or .u64 (IntKind.u64.wrap (x * 256)) (IntKind.u64.wrap c) = x * 256 + c by rw [e1, e2]; exact or_byte x _ hx0 hx1 (by omega) (by omega))
      have HB := Aside0.mk hb
      clear e1 e2 hb hpw hx1 hBk
      go_wp2
      go_round
      case rel =>
        refine ⟨k + 1, _, by omega, by go_num, rfl, ?_, ⟨?_⟩, ⟨?_⟩⟩
        · rw [HEE.out]; have := HB.out; omega
        · rw [HEE.out, Int.pow_succ]; have := HX.out; have := HB.out; omega
        · rw [HEE.out]; exact HC.out
      case measure => simp [intOf]; omega
    · obtain rfl : k = 8 := by omega
      have HC2 := Lib.hid (show beL 0 B = x by rw [HC.out, List.drop_eq_nil_of_le (by omega)]; rfl)
      clear HC
      go_wp2
      go_ret
      exact ⟨by rw [HC2.out] <;> rfl, HE.out.1, HE.out.2⟩
set_option maxRecDepth 100000 in
set_option maxHeartbeats 1000000 in
theorem word_no (g : Nat) (l : List Int) (w : World) (h : RB w g l) (hn : l.length < 8) :
    Calls Tryd.prog 136 #[.pointer (some ⟨g, 0, none⟩)] w fun e w' => e = .panicked failC ∧ Rd g w w' := by
  have hc := Lib.hid (take_no g l 8 w h (by omega))
  clear h
  go_enter Tryd.func136, Tryd.ntmps136
  go_wp2_with fail
  refine hc.out.mono ?_
  rintro e w1 ⟨rfl, hrd⟩
  exact ⟨rfl, rfl, hrd⟩
end Go.Proofs.YtjgomlcdmpcoaaaDoor.H
namespace Go.Proofs.YtjgomlcdmpcoaaaDoor.H
open Go.RowKit Go.Proofs.YtjgomlcdmpcoaaaDoorW.PrintWords Go.Proofs.YtjgomlcdmpcoaaaDoorW.PrintLast Go.Proofs.YtjgomlcdmpcoaaaDoorW.PrintMore
open Go.Proofs.YtjgomlcdmpcoaaaDoor.D Go.Proofs.YtjgomlcdmpcoaaaDoor
set_option linter.unusedVariables false
set_option linter.unusedSimpArgs false
def rdW (l : List Int) : Option (Int × List Int) := if 8 ≤ l.length then some (beL 0 (l.take 8), l.drop 8) else none
def rdN (l : List Int) : Option (Int × List Int) := if 8 ≤ l.length then some (wrap64 (beL 0 (l.take 8)), l.drop 8) else none
def rdC (l : List Int) : Option (Int × List Int) := match rdN l with
  | some (n, r) => if 0 ≤ n ∧ n ≤ r.length then some (n, r) else none
  | none => none
def rdT (l : List Int) : Option (ByteArray × List Int) := match rdC l with
  | some (n, r) => some (strOfNums (r.take n.toNat), r.drop n.toNat)
  | none => none
def RdPost (g : Nat) (w : World) (o : Option (Value × List Int)) (e : Ending) (w' : World) : Prop := match o with
  | some (v, r) => e = .returned v ∧ RB w' g r ∧ Rd g w w'
  | none => e = .panicked failC ∧ Rd g w w'
theorem RdPost.some {g : Nat} {w w' : World} {v : Value} {r : List Int} {e : Ending} (h : RdPost g w (some (v, r)) e w') : e = .returned v ∧ RB w' g r ∧ Rd g w w' := h
theorem RdPost.none {g : Nat} {w w' : World} {e : Ending} (h : RdPost g w none e w') : e = .panicked failC ∧ Rd g w w' := h
theorem rword_calls (g : Nat) (l : List Int) (w : World) (h : RB w g l) : Calls Tryd.prog 136 #[.pointer (some ⟨g, 0, none⟩)] w (RdPost g w ((rdW l).map fun p => (.int .u64 p.1, p.2))) := by
  unfold rdW
  by_cases hn : 8 ≤ l.length
  · rw [if_pos hn]; exact word_ok g l w h hn
  · rw [if_neg hn]; exact word_no g l w h (by omega)
set_option maxRecDepth 100000 in
set_option maxHeartbeats 1000000 in
theorem rnumr_calls (g : Nat) (l : List Int) (w : World) (h : RB w g l) : Calls Tryd.prog 89 #[.pointer (some ⟨g, 0, none⟩)] w (RdPost g w ((rdN l).map fun p => (.int .i64 p.1, p.2))) := by
  have hc := Lib.hid (rword_calls g l w h)
  unfold rdW at hc
  unfold rdN
  clear h
  by_cases hn : 8 ≤ l.length
  · rw [if_pos hn] at hc ⊢
    generalize beL 0 (l.take 8) = x at hc
    clear hn
    go_enter Tryd.func89, Tryd.ntmps89
    go_wp2_with fail
    refine hc.out.mono fun e w1 h => ?_
    obtain ⟨rfl, hrb, hrd⟩ := h.some
    clear h
    go_wp2
    go_ret
    exact ⟨rfl, hrb, hrd⟩
  · rw [if_neg hn] at hc ⊢
    go_enter Tryd.func89, Tryd.ntmps89
    go_wp2_with fail
    refine hc.out.mono fun e w1 h => ?_
    obtain ⟨rfl, hrd⟩ := h.none
    exact ⟨rfl, rfl, hrd⟩
set_option maxRecDepth 100000 in
set_option maxHeartbeats 1000000 in
theorem rcount_calls (g : Nat) (l : List Int) (w : World) (h : RB w g l) : Calls Tryd.prog 90 #[.pointer (some ⟨g, 0, none⟩)] w (RdPost g w ((rdC l).map fun p => (.int .i64 p.1, p.2))) := by
  have hc := Lib.hid (rnumr_calls g l w h)
  unfold rdC
  cases hn : rdN l with
  | none =>
    rw [hn] at hc
    clear hn h
    go_enter Tryd.func90, Tryd.ntmps90
    go_wp2_with fail
    refine hc.out.mono fun e w1 h => ?_
    obtain ⟨rfl, hrd⟩ := h.none
    exact ⟨rfl, rfl, hrd⟩
  | some p =>
    obtain ⟨n, r⟩ := p
    rw [hn] at hc
    clear hn h
    have hz : (strOfNums r).size = r.length := strOfNums_size r
    have HZ := Lib.hid hz
    clear hz
    by_cases h0 : 0 ≤ n
    · have b0 : decide (n < 0) = false := decide_eq_false (by omega)
      by_cases h1 : n ≤ r.length
      · have b1 : decide (((strOfNums r).size : Int) < n) = false := decide_eq_false (by have := HZ.out; omega)
        show Calls _ _ _ _ (RdPost g w (Option.map _ (if 0 ≤ n ∧ n ≤ r.length then some (n, r) else none)))
        rw [if_pos ⟨h0, h1⟩]
        go_enter Tryd.func90, Tryd.ntmps90
        go_wp2_with fail
        refine hc.out.mono fun e w1 h => ?_
        obtain ⟨rfl, hrb, hrd⟩ := h.some
        have c0 := cell_of_one hrb.2.2
        have HRB := Aside0.mk hrb
        clear h hrb
        go_wp2
        go_ret
        exact ⟨rfl, HRB.out, hrd⟩
      · have b1 : decide (((strOfNums r).size : Int) < n) = true := decide_eq_true (by have := HZ.out; omega)
        show Calls _ _ _ _ (RdPost g w (Option.map _ (if 0 ≤ n ∧ n ≤ r.length then some (n, r) else none)))
        rw [if_neg (fun h => h1 h.2)]
        go_enter Tryd.func90, Tryd.ntmps90
        go_wp2_with fail
        refine hc.out.mono fun e w1 h => ?_
        obtain ⟨rfl, hrb, hrd⟩ := h.some
        have c0 := cell_of_one hrb.2.2
        clear h hrb
        go_wp2
        exact ⟨rfl, rfl, hrd⟩
    · have b0 : decide (n < 0) = true := decide_eq_true (by omega)
      show Calls _ _ _ _ (RdPost g w (Option.map _ (if 0 ≤ n ∧ n ≤ r.length then some (n, r) else none)))
      rw [if_neg (fun h => h0 h.1)]
      go_enter Tryd.func90, Tryd.ntmps90
      go_wp2_with fail
      refine hc.out.mono fun e w1 h => ?_
      obtain ⟨rfl, hrb, hrd⟩ := h.some
      clear h hrb
      go_wp2
      exact ⟨rfl, rfl, hrd⟩
theorem rdC_le {l : List Int} {n : Int} {r : List Int} (h : rdC l = some (n, r)) : 0 ≤ n ∧ n ≤ r.length := by
  unfold rdC at h
  split at h
  · split at h
    · next hh => injection h with h; injection h with h1 h2; subst h1 h2; exact hh
    · cases h
  · cases h
set_option maxRecDepth 100000 in
set_option maxHeartbeats 1000000 in
theorem rtextr_calls (g : Nat) (l : List Int) (w : World) (h : RB w g l) : Calls Tryd.prog 137 #[.pointer (some ⟨g, 0, none⟩)] w (RdPost g w ((rdT l).map fun p => (.string p.1, p.2))) := by
  have hc := Lib.hid (rcount_calls g l w h)
  unfold rdT
  cases hn : rdC l with
  | none =>
    rw [hn] at hc
    clear hn h
    go_enter Tryd.func137, Tryd.ntmps137
    go_wp2_with fail
    refine hc.out.mono fun e w1 h => ?_
    obtain ⟨rfl, hrd⟩ := h.none
    exact ⟨rfl, rfl, hrd⟩
  | some p =>
    obtain ⟨n, r⟩ := p
    obtain ⟨h0, h1⟩ := rdC_le hn
    rw [hn] at hc
    obtain ⟨k, rfl⟩ : ∃ k : Nat, n = k := ⟨n.toNat, by omega⟩
    clear hn h h0
    go_enter Tryd.func137, Tryd.ntmps137
    go_wp2_with fail
    refine hc.out.mono fun e w1 h => ?_
    obtain ⟨rfl, hrb, hrd⟩ := h.some
    have HT := Lib.hid (take_ok g r k w1 hrb (by omega))
    have HRD := Aside0.mk hrd
    clear h hrb hrd
    go_wp2_with fail
    refine HT.out.mono ?_
    rintro e w2 ⟨rfl, hrb, hrd⟩
    go_wp2
    go_ret
    exact ⟨rfl, hrb, HRD.out.trans hrd⟩
end Go.Proofs.YtjgomlcdmpcoaaaDoor.H
