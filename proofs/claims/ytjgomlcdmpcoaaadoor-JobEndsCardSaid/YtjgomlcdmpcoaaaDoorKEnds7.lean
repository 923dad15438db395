/- Own texts of this session, packed by its program wip/pp/pack.py: lemmas and walks of functions. -/
import Derived.Test.YtjgomlcdmpcoaaaDoorKEnds1
import Derived.Test.YtjgomlcdmpcoaaaDoorKEnds6
namespace Go.Proofs.YtjgomlcdmpcoaaaDoor.D
open Go.RowKit Go.Proofs.YtjgomlcdmpcoaaaDoorW.PrintWords Go.Proofs.YtjgomlcdmpcoaaaDoorW.PrintLast Go.Proofs.YtjgomlcdmpcoaaaDoorW.PrintMore
attribute [local go_sem] max2_int min2_int max_two min_two max_three min_three max_four min_four
set_option linter.unusedVariables false
set_option linter.unusedSimpArgs false
def falseworkref18_index.l0 : Nat → Int → Int → Int → ByteArray → List (S75) → List (S98) → Int → Option (Int)
 | 0, _, _, _, _, _, _, _ => none
 | k + 1, x1, x5, x278000, x278001, x278002, x278003, x278004 => if x5 < (x278003.length : Int) then (if 0 ≤ x5 then (if ((rd_T98 x278003 x5).f0) = x1 then (some x5) else (falseworkref18_index.l0 k x1 (wrap64 (x5 + 1)) x278000 x278001 x278002 x278003 x278004)) else (none)) else (some (-1))
def falseworkref18_index.f (k : Nat) (a0_0 : Int) (a0_1 : ByteArray) (l0_2 : List (S75)) (l0_3 : List (S98)) (a0_4 : Int) (a1 : Int) : Option (Int) := falseworkref18_index.l0 k a1 0 a0_0 a0_1 l0_2 l0_3 a0_4
theorem falseworkref18_index.mono_l : ∀ k, (∀ y0 y1 y2 y3 y4 y5 y6, LeO (falseworkref18_index.l0 k y0 y1 y2 y3 y4 y5 y6) (falseworkref18_index.l0 (k + 1) y0 y1 y2 y3 y4 y5 y6))
 | 0 => fun _ _ _ _ _ _ _ r h => by simp [falseworkref18_index.l0] at h
 | k + 1 => by
  have ih0 := falseworkref18_index.mono_l k
  ·intro y0 y1 y2 y3 y4 y5 y6
   unfold falseworkref18_index.l0
   repeat' first
   | (with_reducible exact ih0 _ _ _ _ _ _ _)
   | (with_reducible exact LeO.refl _)
   | (with_reducible exact LeO.none _)
   | (with_reducible refine LeO.ite ?_ ?_)
   | (with_reducible refine LeO.bind ?_ (fun _ => ?_))
   | exact ih0 _ _ _ _ _ _ _
   | exact LeO.none _
   | refine LeO.ite ?_ ?_
   | refine LeO.bind ?_ (fun _ => ?_)
theorem falseworkref18_index.mono : ∀ a0 a1 a2 a3 a4 a5 k, LeO (falseworkref18_index.f k a0 a1 a2 a3 a4 a5) (falseworkref18_index.f (k + 1) a0 a1 a2 a3 a4 a5) := by
 intro a0 a1 a2 a3 a4 a5 k
 have ih0 := falseworkref18_index.mono_l k
 unfold falseworkref18_index.f
 repeat' first
   | (with_reducible exact ih0 _ _ _ _ _ _ _)
   | (with_reducible exact LeO.refl _)
   | (with_reducible exact LeO.none _)
   | (with_reducible refine LeO.ite ?_ ?_)
   | (with_reducible refine LeO.bind ?_ (fun _ => ?_))
   | exact ih0 _ _ _ _ _ _ _
   | exact LeO.none _
   | refine LeO.ite ?_ ?_
   | refine LeO.bind ?_ (fun _ => ?_)
set_option maxHeartbeats 8000000 in
set_option maxRecDepth 100000 in
theorem falseworkref18_index.calls (k : Nat) (a0_0 : Int) (a0_1 : ByteArray) (A0_2 : Option Addr) (c0_2 : Nat) (l0_2 : List (S75)) (A0_3 : Option Addr) (c0_3 : Nat) (l0_3 : List (S98)) (a0_4 : Int) (a1 : Int) (r : Int) (w : World) (hr0_2 : Kd.C k75 w A0_2 l0_2.length l0_2) (hc0_2 : l0_2.length ≤ c0_2) (hr0_3 : Kd.C k98 w A0_3 l0_3.length l0_3) (hc0_3 : l0_3.length ≤ c0_3) (h : falseworkref18_index.f k a0_0 a0_1 l0_2 l0_3 a0_4 a1 = some r) :
  Calls Tryd.prog 66 #[.agg #[.int .i64 a0_0, .string a0_1, .slice A0_2 l0_2.length c0_2, .slice A0_3 l0_3.length c0_3, .int .i64 a0_4], .int .i64 a1] w fun e w' => e = .returned (.int .i64 r) ∧ Below w.heap.size w w' := by
 have hu70 := Tryd.underlying70
 have HR0_2 := Aside0.mk hr0_2; have HC0_2 := Aside0.mk hc0_2; clear hr0_2 hc0_2; have HR0_3 := Aside0.mk hr0_3; have HC0_3 := Aside0.mk hc0_3; clear hr0_3 hc0_3; have HB := Aside0.mk (Below.refl w.heap.size w)
 have H : (falseworkref18_index.l0 k a1 0 a0_0 a0_1 l0_2 l0_3 a0_4) = some r := h
 clear h; have H' := Aside0.mk H; clear H; go_enter Tryd.func66, Tryd.ntmps66
 go_wp2_with (first | ((with_reducible refine gate_dst (N := 2) rfl ?_); refine box_event ?hg (N := 2) ?hd (cs := #[.int .i64 a0_0, .string a0_1, .slice A0_2 l0_2.length c0_2, .slice A0_3 l0_3.length c0_3, .int .i64 a0_4]) (t := 70) ?hr ?_; (case hd => rfl); (case hg => rfl); (case hr => first | (go_simp; done) | (go_simp; rfl)); intro gb277 hg w3 hbox hb; have n0_ := Aside0.mk (below_step (by repeat (first | (with_reducible first | exact HB.out | apply below_alloc | apply pw_below_drewN | apply below_drew1) | exact HB.out)) hb); have n1_ := Aside0.mk (hbox); have n2_ := Aside0.mk ((by rw [hg]; exact (below_size (by repeat (first | (with_reducible first | exact HB.out | apply below_alloc | apply pw_below_drewN | apply below_drew1) | exact HB.out))) : w.heap.size ≤ gb277)); have n3_ := Aside0.mk ((by rw [hg]; exact (below_size (by repeat (first | (with_reducible first | exact HB.out | apply below_alloc | apply pw_below_drewN | apply below_drew1) | exact HB.out))) : w.heap.size ≤ gb277)); clear HB; have HB := n0_; have BK277 := n1_; have GW277 := n2_; have GE277 := n3_; clear n0_ n1_ n2_ n3_; clear hb hbox hg))
 go_loopg [5] k (fun kq v5 w' => ∃ (x5_1 : Int), v5 = .int .i64 x5_1 ∧ Aside0 (falseworkref18_index.l0 kq a1 x5_1 a0_0 a0_1 l0_2 l0_3 a0_4 = some r) ∧ Aside0 (kq ≤ k) ∧ Aside0 (w'.heap[gb277]? = some (.cells #[.int .i64 a0_0, .string a0_1, (.slice A0_2 l0_2.length c0_2), (.slice A0_3 l0_3.length c0_3), .int .i64 a0_4] 70 (0, 0))) ∧ Aside0 (Below w.heap.size w w'))
 case atStart => exact ⟨(0), (by first | rfl | (simp; done) | (simp [*]; done)), H', ⟨Nat.le_refl _⟩, ⟨by (with_reducible repeat (first | refine blk_drewN ?_ _ | refine blk_drew ?_ | refine blk_alloc ?_ _)); exact BK277.out⟩, ⟨by repeat (first | (with_reducible first | exact HB.out | apply below_alloc | apply pw_below_drewN | apply below_drew1 | refine below_set ?_ GE277.out) | exact HB.out)⟩⟩
 case round =>
  clear H'; (try clear p2); obtain ⟨x5_1, rfl, HA, HK1, BK277, HB⟩ := hrel
  cases gk with
  | zero => exact absurd HA.out (by simp [falseworkref18_index.l0])
  | succ k1 =>
   have H := HA.out; clear HA; simp only [falseworkref18_index.l0] at H
   by_cases c4 : x5_1 < (l0_3.length : Int)
   ·rw [if_pos c4] at H
    have c4b0 : decide (x5_1 < (l0_3.length : Int)) = true := decide_eq_true c4
    clear c4; by_cases c5 : 0 ≤ x5_1
    ·rw [if_pos c5] at H
     have c5b0 : decide (0 ≤ x5_1) = true := decide_eq_true c5
     clear c5; by_cases c6 : ((rd_T98 l0_3 x5_1).f0) = a1
     ·rw [if_pos c6] at H
      have c6b0 : (((rd_T98 l0_3 x5_1).f0) == a1) = true := beq_iff_eq.mpr c6
      have c6b1 : (((rd_T98 l0_3 x5_1).f0) != a1) = false := bne_eq_false_iff_eq.mpr c6
      clear c6; obtain rfl := Option.some.inj H; have hcz7_0 : wr.cell? ⟨gb277, 0, none⟩ = some (.int .i64 a0_0) := (Go.Proofs.YtjgomlcdmpcoaaaDoorW.PrintWords.blk_cell BK277.out 0).trans rfl
      have hcz7_1 : wr.cell? ⟨gb277, 1, none⟩ = some (.string a0_1) := (Go.Proofs.YtjgomlcdmpcoaaaDoorW.PrintWords.blk_cell BK277.out 1).trans rfl
      have hcz7_2 : wr.cell? ⟨gb277, 2, none⟩ = some (.slice A0_2 l0_2.length c0_2) := (Go.Proofs.YtjgomlcdmpcoaaaDoorW.PrintWords.blk_cell BK277.out 2).trans rfl
      have hcz7_3 : wr.cell? ⟨gb277, 3, none⟩ = some (.slice A0_3 l0_3.length c0_3) := (Go.Proofs.YtjgomlcdmpcoaaaDoorW.PrintWords.blk_cell BK277.out 3).trans rfl
      have hcz7_4 : wr.cell? ⟨gb277, 4, none⟩ = some (.int .i64 a0_4) := (Go.Proofs.YtjgomlcdmpcoaaaDoorW.PrintWords.blk_cell BK277.out 4).trans rfl
      have hfz7_0 := blk_frozen BK277.out 0
      have hfz7_1 := blk_frozen BK277.out 1
      have hfz7_2 := blk_frozen BK277.out 2
      have hfz7_3 := blk_frozen BK277.out 3
      have hfz7_4 := blk_frozen BK277.out 4
      have p278 : 0 ≤ (x5_1 : Int) := of_decide_eq_true (by first | (with_reducible assumption) | assumption)
      have q278 : x5_1 < (l0_3.length : Int) := of_decide_eq_true (by first | (with_reducible assumption) | assumption)
      obtain ⟨ad278, A278_2, c278_2, e278, hx278_0, hx278_1, hx278_2, hx278_3, hx278_4, hl278_2, hi278_2⟩ := at_T98 HR0_3.out x5_1 p278 q278
      cases e278
      replace hx278_0 := (HB.out.cell (World.block_lt_of_cell? w _ hx278_0)).trans hx278_0
      replace hx278_1 := (HB.out.cell (World.block_lt_of_cell? w _ hx278_1)).trans hx278_1
      replace hx278_2 := (HB.out.cell (World.block_lt_of_cell? w _ hx278_2)).trans hx278_2
      replace hx278_3 := (HB.out.cell (World.block_lt_of_cell? w _ hx278_3)).trans hx278_3
      replace hx278_4 := (HB.out.cell (World.block_lt_of_cell? w _ hx278_4)).trans hx278_4
      have HR278_2 := Aside0.mk hi278_2; have HC278_2 := Aside0.mk hl278_2; clear hi278_2 hl278_2; replace p278 := eq_true p278
      replace q278 := eq_true q278
      go_wp2; go_ret; exact ⟨by first | rfl | (simp [errW_none, errW_some] <;> rfl) | (simp [*, errW_none, errW_some] <;> rfl), by repeat (first | (with_reducible first | exact HB.out | apply below_alloc | apply pw_below_drewN | apply below_drew1 | refine below_set ?_ GE277.out) | exact HB.out)⟩
     ·rw [if_neg c6] at H
      have c6b0 : (((rd_T98 l0_3 x5_1).f0) == a1) = false := beq_eq_false_iff_ne.mpr c6
      have c6b1 : (((rd_T98 l0_3 x5_1).f0) != a1) = true := bne_iff_ne.mpr c6
      have H' := Aside0.mk H; clear H; have hcz8_0 : wr.cell? ⟨gb277, 0, none⟩ = some (.int .i64 a0_0) := (Go.Proofs.YtjgomlcdmpcoaaaDoorW.PrintWords.blk_cell BK277.out 0).trans rfl
      have hcz8_1 : wr.cell? ⟨gb277, 1, none⟩ = some (.string a0_1) := (Go.Proofs.YtjgomlcdmpcoaaaDoorW.PrintWords.blk_cell BK277.out 1).trans rfl
      have hcz8_2 : wr.cell? ⟨gb277, 2, none⟩ = some (.slice A0_2 l0_2.length c0_2) := (Go.Proofs.YtjgomlcdmpcoaaaDoorW.PrintWords.blk_cell BK277.out 2).trans rfl
      have hcz8_3 : wr.cell? ⟨gb277, 3, none⟩ = some (.slice A0_3 l0_3.length c0_3) := (Go.Proofs.YtjgomlcdmpcoaaaDoorW.PrintWords.blk_cell BK277.out 3).trans rfl
      have hcz8_4 : wr.cell? ⟨gb277, 4, none⟩ = some (.int .i64 a0_4) := (Go.Proofs.YtjgomlcdmpcoaaaDoorW.PrintWords.blk_cell BK277.out 4).trans rfl
      have hfz8_0 := blk_frozen BK277.out 0
      have hfz8_1 := blk_frozen BK277.out 1
      have hfz8_2 := blk_frozen BK277.out 2
      have hfz8_3 := blk_frozen BK277.out 3
      have hfz8_4 := blk_frozen BK277.out 4
      have p278 : 0 ≤ (x5_1 : Int) := of_decide_eq_true (by first | (with_reducible assumption) | assumption)
      have q278 : x5_1 < (l0_3.length : Int) := of_decide_eq_true (by first | (with_reducible assumption) | assumption)
      obtain ⟨ad278, A278_2, c278_2, e278, hx278_0, hx278_1, hx278_2, hx278_3, hx278_4, hl278_2, hi278_2⟩ := at_T98 HR0_3.out x5_1 p278 q278
      cases e278
      replace hx278_0 := (HB.out.cell (World.block_lt_of_cell? w _ hx278_0)).trans hx278_0
      replace hx278_1 := (HB.out.cell (World.block_lt_of_cell? w _ hx278_1)).trans hx278_1
      replace hx278_2 := (HB.out.cell (World.block_lt_of_cell? w _ hx278_2)).trans hx278_2
      replace hx278_3 := (HB.out.cell (World.block_lt_of_cell? w _ hx278_3)).trans hx278_3
      replace hx278_4 := (HB.out.cell (World.block_lt_of_cell? w _ hx278_4)).trans hx278_4
      have HR278_2 := Aside0.mk hi278_2; have HC278_2 := Aside0.mk hl278_2; clear hi278_2 hl278_2; replace p278 := eq_true p278
      replace q278 := eq_true q278
      go_wp2; go_roundg k1
      case measure => have := HK1.out; omega
      case rel => exact ⟨(wrap64 (x5_1 + 1)), (by first | rfl | (simp; done) | (simp [*]; done)), H', ⟨by have := HK1.out; omega⟩, ⟨by (with_reducible repeat (first | refine blk_drewN ?_ _ | refine blk_drew ?_ | refine blk_alloc ?_ _)); exact BK277.out⟩, ⟨by repeat (first | (with_reducible first | exact HB.out | apply below_alloc | apply pw_below_drewN | apply below_drew1 | refine below_set ?_ GE277.out) | exact HB.out)⟩⟩
    ·rw [if_neg c5] at H
     exact absurd H (by simp)
   ·rw [if_neg c4] at H
    have c4b0 : decide (x5_1 < (l0_3.length : Int)) = false := decide_eq_false c4
    clear c4; obtain rfl := Option.some.inj H; have hcz9_0 : wr.cell? ⟨gb277, 0, none⟩ = some (.int .i64 a0_0) := (Go.Proofs.YtjgomlcdmpcoaaaDoorW.PrintWords.blk_cell BK277.out 0).trans rfl
    have hcz9_1 : wr.cell? ⟨gb277, 1, none⟩ = some (.string a0_1) := (Go.Proofs.YtjgomlcdmpcoaaaDoorW.PrintWords.blk_cell BK277.out 1).trans rfl
    have hcz9_2 : wr.cell? ⟨gb277, 2, none⟩ = some (.slice A0_2 l0_2.length c0_2) := (Go.Proofs.YtjgomlcdmpcoaaaDoorW.PrintWords.blk_cell BK277.out 2).trans rfl
    have hcz9_3 : wr.cell? ⟨gb277, 3, none⟩ = some (.slice A0_3 l0_3.length c0_3) := (Go.Proofs.YtjgomlcdmpcoaaaDoorW.PrintWords.blk_cell BK277.out 3).trans rfl
    have hcz9_4 : wr.cell? ⟨gb277, 4, none⟩ = some (.int .i64 a0_4) := (Go.Proofs.YtjgomlcdmpcoaaaDoorW.PrintWords.blk_cell BK277.out 4).trans rfl
    have hfz9_0 := blk_frozen BK277.out 0
    have hfz9_1 := blk_frozen BK277.out 1
    have hfz9_2 := blk_frozen BK277.out 2
    have hfz9_3 := blk_frozen BK277.out 3
    have hfz9_4 := blk_frozen BK277.out 4
    go_wp2; go_ret; exact ⟨by first | rfl | (simp [errW_none, errW_some] <;> rfl) | (simp [*, errW_none, errW_some] <;> rfl), by repeat (first | (with_reducible first | exact HB.out | apply below_alloc | apply pw_below_drewN | apply below_drew1 | refine below_set ?_ GE277.out) | exact HB.out)⟩
end Go.Proofs.YtjgomlcdmpcoaaaDoor.D
namespace Go.Proofs.YtjgomlcdmpcoaaaDoor.D
open Go.RowKit Go.Proofs.YtjgomlcdmpcoaaaDoorW.PrintWords Go.Proofs.YtjgomlcdmpcoaaaDoorW.PrintLast Go.Proofs.YtjgomlcdmpcoaaaDoorW.PrintMore
attribute [local go_sem] max2_int min2_int max_two min_two max_three min_three max_four min_four
set_option linter.unusedVariables false
set_option linter.unusedSimpArgs false
def falseworkref18_column.l0 : Nat → Int → Int → Int → ByteArray → List (S75) → List (S98) → Int → Option (Int)
 | 0, _, _, _, _, _, _, _ => none
 | k + 1, x1, x5, x280000, x280001, x280002, x280003, x280004 => if x5 < (x280002.length : Int) then (if 0 ≤ x5 then (if ((rd_T75 x280002 x5).f0) = x1 then (some x5) else (falseworkref18_column.l0 k x1 (wrap64 (x5 + 1)) x280000 x280001 x280002 x280003 x280004)) else (none)) else (some (-1))
def falseworkref18_column.f (k : Nat) (a0_0 : Int) (a0_1 : ByteArray) (l0_2 : List (S75)) (l0_3 : List (S98)) (a0_4 : Int) (a1 : Int) : Option (Int) := falseworkref18_column.l0 k a1 0 a0_0 a0_1 l0_2 l0_3 a0_4
theorem falseworkref18_column.mono_l : ∀ k, (∀ y0 y1 y2 y3 y4 y5 y6, LeO (falseworkref18_column.l0 k y0 y1 y2 y3 y4 y5 y6) (falseworkref18_column.l0 (k + 1) y0 y1 y2 y3 y4 y5 y6))
 | 0 => fun _ _ _ _ _ _ _ r h => by simp [falseworkref18_column.l0] at h
 | k + 1 => by
  have ih0 := falseworkref18_column.mono_l k
  ·intro y0 y1 y2 y3 y4 y5 y6
   unfold falseworkref18_column.l0
   repeat' first
   | (with_reducible exact ih0 _ _ _ _ _ _ _)
   | (with_reducible exact LeO.refl _)
   | (with_reducible exact LeO.none _)
   | (with_reducible refine LeO.ite ?_ ?_)
   | (with_reducible refine LeO.bind ?_ (fun _ => ?_))
   | exact ih0 _ _ _ _ _ _ _
   | exact LeO.none _
   | refine LeO.ite ?_ ?_
   | refine LeO.bind ?_ (fun _ => ?_)
theorem falseworkref18_column.mono : ∀ a0 a1 a2 a3 a4 a5 k, LeO (falseworkref18_column.f k a0 a1 a2 a3 a4 a5) (falseworkref18_column.f (k + 1) a0 a1 a2 a3 a4 a5) := by
 intro a0 a1 a2 a3 a4 a5 k
 have ih0 := falseworkref18_column.mono_l k
 unfold falseworkref18_column.f
 repeat' first
   | (with_reducible exact ih0 _ _ _ _ _ _ _)
   | (with_reducible exact LeO.refl _)
   | (with_reducible exact LeO.none _)
   | (with_reducible refine LeO.ite ?_ ?_)
   | (with_reducible refine LeO.bind ?_ (fun _ => ?_))
   | exact ih0 _ _ _ _ _ _ _
   | exact LeO.none _
   | refine LeO.ite ?_ ?_
   | refine LeO.bind ?_ (fun _ => ?_)
set_option maxHeartbeats 8000000 in
set_option maxRecDepth 100000 in
theorem falseworkref18_column.calls (k : Nat) (a0_0 : Int) (a0_1 : ByteArray) (A0_2 : Option Addr) (c0_2 : Nat) (l0_2 : List (S75)) (A0_3 : Option Addr) (c0_3 : Nat) (l0_3 : List (S98)) (a0_4 : Int) (a1 : Int) (r : Int) (w : World) (hr0_2 : Kd.C k75 w A0_2 l0_2.length l0_2) (hc0_2 : l0_2.length ≤ c0_2) (hr0_3 : Kd.C k98 w A0_3 l0_3.length l0_3) (hc0_3 : l0_3.length ≤ c0_3) (h : falseworkref18_column.f k a0_0 a0_1 l0_2 l0_3 a0_4 a1 = some r) :
  Calls Tryd.prog 67 #[.agg #[.int .i64 a0_0, .string a0_1, .slice A0_2 l0_2.length c0_2, .slice A0_3 l0_3.length c0_3, .int .i64 a0_4], .int .i64 a1] w fun e w' => e = .returned (.int .i64 r) ∧ Below w.heap.size w w' := by
 have hu70 := Tryd.underlying70
 have HR0_2 := Aside0.mk hr0_2; have HC0_2 := Aside0.mk hc0_2; clear hr0_2 hc0_2; have HR0_3 := Aside0.mk hr0_3; have HC0_3 := Aside0.mk hc0_3; clear hr0_3 hc0_3; have HB := Aside0.mk (Below.refl w.heap.size w)
 have H : (falseworkref18_column.l0 k a1 0 a0_0 a0_1 l0_2 l0_3 a0_4) = some r := h
 clear h; have H' := Aside0.mk H; clear H; go_enter Tryd.func67, Tryd.ntmps67
 go_wp2_with (first | ((with_reducible refine gate_dst (N := 2) rfl ?_); refine box_event ?hg (N := 2) ?hd (cs := #[.int .i64 a0_0, .string a0_1, .slice A0_2 l0_2.length c0_2, .slice A0_3 l0_3.length c0_3, .int .i64 a0_4]) (t := 70) ?hr ?_; (case hd => rfl); (case hg => rfl); (case hr => first | (go_simp; done) | (go_simp; rfl)); intro gb279 hg w3 hbox hb; have n0_ := Aside0.mk (below_step (by repeat (first | (with_reducible first | exact HB.out | apply below_alloc | apply pw_below_drewN | apply below_drew1) | exact HB.out)) hb); have n1_ := Aside0.mk (hbox); have n2_ := Aside0.mk ((by rw [hg]; exact (below_size (by repeat (first | (with_reducible first | exact HB.out | apply below_alloc | apply pw_below_drewN | apply below_drew1) | exact HB.out))) : w.heap.size ≤ gb279)); have n3_ := Aside0.mk ((by rw [hg]; exact (below_size (by repeat (first | (with_reducible first | exact HB.out | apply below_alloc | apply pw_below_drewN | apply below_drew1) | exact HB.out))) : w.heap.size ≤ gb279)); clear HB; have HB := n0_; have BK279 := n1_; have GW279 := n2_; have GE279 := n3_; clear n0_ n1_ n2_ n3_; clear hb hbox hg))
 go_loopg [5] k (fun kq v5 w' => ∃ (x5_1 : Int), v5 = .int .i64 x5_1 ∧ Aside0 (falseworkref18_column.l0 kq a1 x5_1 a0_0 a0_1 l0_2 l0_3 a0_4 = some r) ∧ Aside0 (kq ≤ k) ∧ Aside0 (w'.heap[gb279]? = some (.cells #[.int .i64 a0_0, .string a0_1, (.slice A0_2 l0_2.length c0_2), (.slice A0_3 l0_3.length c0_3), .int .i64 a0_4] 70 (0, 0))) ∧ Aside0 (Below w.heap.size w w'))
 case atStart => exact ⟨(0), (by first | rfl | (simp; done) | (simp [*]; done)), H', ⟨Nat.le_refl _⟩, ⟨by (with_reducible repeat (first | refine blk_drewN ?_ _ | refine blk_drew ?_ | refine blk_alloc ?_ _)); exact BK279.out⟩, ⟨by repeat (first | (with_reducible first | exact HB.out | apply below_alloc | apply pw_below_drewN | apply below_drew1 | refine below_set ?_ GE279.out) | exact HB.out)⟩⟩
 case round =>
  clear H'; (try clear p2); obtain ⟨x5_1, rfl, HA, HK1, BK279, HB⟩ := hrel
  cases gk with
  | zero => exact absurd HA.out (by simp [falseworkref18_column.l0])
  | succ k1 =>
   have H := HA.out; clear HA; simp only [falseworkref18_column.l0] at H
   by_cases c4 : x5_1 < (l0_2.length : Int)
   ·rw [if_pos c4] at H
    have c4b0 : decide (x5_1 < (l0_2.length : Int)) = true := decide_eq_true c4
    clear c4; by_cases c5 : 0 ≤ x5_1
    ·rw [if_pos c5] at H
     have c5b0 : decide (0 ≤ x5_1) = true := decide_eq_true c5
     clear c5; by_cases c6 : ((rd_T75 l0_2 x5_1).f0) = a1
     ·rw [if_pos c6] at H
      have c6b0 : (((rd_T75 l0_2 x5_1).f0) == a1) = true := beq_iff_eq.mpr c6
      have c6b1 : (((rd_T75 l0_2 x5_1).f0) != a1) = false := bne_eq_false_iff_eq.mpr c6
      clear c6; obtain rfl := Option.some.inj H; have hcz7_0 : wr.cell? ⟨gb279, 0, none⟩ = some (.int .i64 a0_0) := (Go.Proofs.YtjgomlcdmpcoaaaDoorW.PrintWords.blk_cell BK279.out 0).trans rfl
      have hcz7_1 : wr.cell? ⟨gb279, 1, none⟩ = some (.string a0_1) := (Go.Proofs.YtjgomlcdmpcoaaaDoorW.PrintWords.blk_cell BK279.out 1).trans rfl
      have hcz7_2 : wr.cell? ⟨gb279, 2, none⟩ = some (.slice A0_2 l0_2.length c0_2) := (Go.Proofs.YtjgomlcdmpcoaaaDoorW.PrintWords.blk_cell BK279.out 2).trans rfl
      have hcz7_3 : wr.cell? ⟨gb279, 3, none⟩ = some (.slice A0_3 l0_3.length c0_3) := (Go.Proofs.YtjgomlcdmpcoaaaDoorW.PrintWords.blk_cell BK279.out 3).trans rfl
      have hcz7_4 : wr.cell? ⟨gb279, 4, none⟩ = some (.int .i64 a0_4) := (Go.Proofs.YtjgomlcdmpcoaaaDoorW.PrintWords.blk_cell BK279.out 4).trans rfl
      have hfz7_0 := blk_frozen BK279.out 0
      have hfz7_1 := blk_frozen BK279.out 1
      have hfz7_2 := blk_frozen BK279.out 2
      have hfz7_3 := blk_frozen BK279.out 3
      have hfz7_4 := blk_frozen BK279.out 4
      have p280 : 0 ≤ (x5_1 : Int) := of_decide_eq_true (by first | (with_reducible assumption) | assumption)
      have q280 : x5_1 < (l0_2.length : Int) := of_decide_eq_true (by first | (with_reducible assumption) | assumption)
      obtain ⟨ad280, e280, hx280_0, hx280_1, hx280_2, hx280_3, hx280_4, hx280_5, hx280_6, hx280_7, hx280_8⟩ := at_T75 HR0_2.out x5_1 p280 q280
      cases e280
      replace hx280_0 := (HB.out.cell (World.block_lt_of_cell? w _ hx280_0)).trans hx280_0
      replace hx280_1 := (HB.out.cell (World.block_lt_of_cell? w _ hx280_1)).trans hx280_1
      replace hx280_2 := (HB.out.cell (World.block_lt_of_cell? w _ hx280_2)).trans hx280_2
      replace hx280_3 := (HB.out.cell (World.block_lt_of_cell? w _ hx280_3)).trans hx280_3
      replace hx280_4 := (HB.out.cell (World.block_lt_of_cell? w _ hx280_4)).trans hx280_4
      replace hx280_5 := (HB.out.cell (World.block_lt_of_cell? w _ hx280_5)).trans hx280_5
      replace hx280_6 := (HB.out.cell (World.block_lt_of_cell? w _ hx280_6)).trans hx280_6
      replace hx280_7 := (HB.out.cell (World.block_lt_of_cell? w _ hx280_7)).trans hx280_7
      replace hx280_8 := (HB.out.cell (World.block_lt_of_cell? w _ hx280_8)).trans hx280_8
      replace p280 := eq_true p280
      replace q280 := eq_true q280
      go_wp2; go_ret; exact ⟨by first | rfl | (simp [errW_none, errW_some] <;> rfl) | (simp [*, errW_none, errW_some] <;> rfl), by repeat (first | (with_reducible first | exact HB.out | apply below_alloc | apply pw_below_drewN | apply below_drew1 | refine below_set ?_ GE279.out) | exact HB.out)⟩
     ·rw [if_neg c6] at H
      have c6b0 : (((rd_T75 l0_2 x5_1).f0) == a1) = false := beq_eq_false_iff_ne.mpr c6
      have c6b1 : (((rd_T75 l0_2 x5_1).f0) != a1) = true := bne_iff_ne.mpr c6
      have H' := Aside0.mk H; clear H; have hcz8_0 : wr.cell? ⟨gb279, 0, none⟩ = some (.int .i64 a0_0) := (Go.Proofs.YtjgomlcdmpcoaaaDoorW.PrintWords.blk_cell BK279.out 0).trans rfl
      have hcz8_1 : wr.cell? ⟨gb279, 1, none⟩ = some (.string a0_1) := (Go.Proofs.YtjgomlcdmpcoaaaDoorW.PrintWords.blk_cell BK279.out 1).trans rfl
      have hcz8_2 : wr.cell? ⟨gb279, 2, none⟩ = some (.slice A0_2 l0_2.length c0_2) := (Go.Proofs.YtjgomlcdmpcoaaaDoorW.PrintWords.blk_cell BK279.out 2).trans rfl
      have hcz8_3 : wr.cell? ⟨gb279, 3, none⟩ = some (.slice A0_3 l0_3.length c0_3) := (Go.Proofs.YtjgomlcdmpcoaaaDoorW.PrintWords.blk_cell BK279.out 3).trans rfl
      have hcz8_4 : wr.cell? ⟨gb279, 4, none⟩ = some (.int .i64 a0_4) := (Go.Proofs.YtjgomlcdmpcoaaaDoorW.PrintWords.blk_cell BK279.out 4).trans rfl
      have hfz8_0 := blk_frozen BK279.out 0
      have hfz8_1 := blk_frozen BK279.out 1
      have hfz8_2 := blk_frozen BK279.out 2
      have hfz8_3 := blk_frozen BK279.out 3
      have hfz8_4 := blk_frozen BK279.out 4
      have p280 : 0 ≤ (x5_1 : Int) := of_decide_eq_true (by first | (with_reducible assumption) | assumption)
      have q280 : x5_1 < (l0_2.length : Int) := of_decide_eq_true (by first | (with_reducible assumption) | assumption)
      obtain ⟨ad280, e280, hx280_0, hx280_1, hx280_2, hx280_3, hx280_4, hx280_5, hx280_6, hx280_7, hx280_8⟩ := at_T75 HR0_2.out x5_1 p280 q280
      cases e280
      replace hx280_0 := (HB.out.cell (World.block_lt_of_cell? w _ hx280_0)).trans hx280_0
      replace hx280_1 := (HB.out.cell (World.block_lt_of_cell? w _ hx280_1)).trans hx280_1
      replace hx280_2 := (HB.out.cell (World.block_lt_of_cell? w _ hx280_2)).trans hx280_2
      replace hx280_3 := (HB.out.cell (World.block_lt_of_cell? w _ hx280_3)).trans hx280_3
      replace hx280_4 := (HB.out.cell (World.block_lt_of_cell? w _ hx280_4)).trans hx280_4
      replace hx280_5 := (HB.out.cell (World.block_lt_of_cell? w _ hx280_5)).trans hx280_5
      replace hx280_6 := (HB.out.cell (World.block_lt_of_cell? w _ hx280_6)).trans hx280_6
      replace hx280_7 := (HB.out.cell (World.block_lt_of_cell? w _ hx280_7)).trans hx280_7
      replace hx280_8 := (HB.out.cell (World.block_lt_of_cell? w _ hx280_8)).trans hx280_8
      replace p280 := eq_true p280
      replace q280 := eq_true q280
      go_wp2; go_roundg k1
      case measure => have := HK1.out; omega
      case rel => exact ⟨(wrap64 (x5_1 + 1)), (by first | rfl | (simp; done) | (simp [*]; done)), H', ⟨by have := HK1.out; omega⟩, ⟨by (with_reducible repeat (first | refine blk_drewN ?_ _ | refine blk_drew ?_ | refine blk_alloc ?_ _)); exact BK279.out⟩, ⟨by repeat (first | (with_reducible first | exact HB.out | apply below_alloc | apply pw_below_drewN | apply below_drew1 | refine below_set ?_ GE279.out) | exact HB.out)⟩⟩
    ·rw [if_neg c5] at H
     exact absurd H (by simp)
   ·rw [if_neg c4] at H
    have c4b0 : decide (x5_1 < (l0_2.length : Int)) = false := decide_eq_false c4
    clear c4; obtain rfl := Option.some.inj H; have hcz9_0 : wr.cell? ⟨gb279, 0, none⟩ = some (.int .i64 a0_0) := (Go.Proofs.YtjgomlcdmpcoaaaDoorW.PrintWords.blk_cell BK279.out 0).trans rfl
    have hcz9_1 : wr.cell? ⟨gb279, 1, none⟩ = some (.string a0_1) := (Go.Proofs.YtjgomlcdmpcoaaaDoorW.PrintWords.blk_cell BK279.out 1).trans rfl
    have hcz9_2 : wr.cell? ⟨gb279, 2, none⟩ = some (.slice A0_2 l0_2.length c0_2) := (Go.Proofs.YtjgomlcdmpcoaaaDoorW.PrintWords.blk_cell BK279.out 2).trans rfl
    have hcz9_3 : wr.cell? ⟨gb279, 3, none⟩ = some (.slice A0_3 l0_3.length c0_3) := (Go.Proofs.YtjgomlcdmpcoaaaDoorW.PrintWords.blk_cell BK279.out 3).trans rfl
    have hcz9_4 : wr.cell? ⟨gb279, 4, none⟩ = some (.int .i64 a0_4) := (Go.Proofs.YtjgomlcdmpcoaaaDoorW.PrintWords.blk_cell BK279.out 4).trans rfl
    have hfz9_0 := blk_frozen BK279.out 0
    have hfz9_1 := blk_frozen BK279.out 1
    have hfz9_2 := blk_frozen BK279.out 2
    have hfz9_3 := blk_frozen BK279.out 3
    have hfz9_4 := blk_frozen BK279.out 4
    go_wp2; go_ret; exact ⟨by first | rfl | (simp [errW_none, errW_some] <;> rfl) | (simp [*, errW_none, errW_some] <;> rfl), by repeat (first | (with_reducible first | exact HB.out | apply below_alloc | apply pw_below_drewN | apply below_drew1 | refine below_set ?_ GE279.out) | exact HB.out)⟩
end Go.Proofs.YtjgomlcdmpcoaaaDoor.D
namespace Go.Proofs.YtjgomlcdmpcoaaaDoor.D
open Go.RowKit Go.Proofs.YtjgomlcdmpcoaaaDoorW.PrintWords Go.Proofs.YtjgomlcdmpcoaaaDoorW.PrintLast Go.Proofs.YtjgomlcdmpcoaaaDoorW.PrintMore
attribute [local go_sem] max2_int min2_int max_two min_two max_three min_three max_four min_four
set_option linter.unusedVariables false
set_option linter.unusedSimpArgs false
mutual
def falseworkref18_State.j0 : Nat → Int → Int → Int → Bool → Int → List (S70) → Int → Option (Int)
 | 0, _, _, _, _, _, _, _ => none
 | k + 1, x1, x3, x9, x22, x282000, x282001, x282002 => if x22 = true then (some (-1)) else (if 0 ≤ x9 then (if x9 < (x282001.length : Int) then (if x1 = 6 then (falseworkref18_State.j1 k x1 x3 x1 (x1 == 6) ((rd_T70 x282001 x9).f0) ((rd_T70 x282001 x9).f1) ((rd_T70 x282001 x9).f2) ((rd_T70 x282001 x9).f3) ((rd_T70 x282001 x9).f4)) else (falseworkref18_State.j1 k x1 x3 x1 (x1 == 7) ((rd_T70 x282001 x9).f0) ((rd_T70 x282001 x9).f1) ((rd_T70 x282001 x9).f2) ((rd_T70 x282001 x9).f3) ((rd_T70 x282001 x9).f4))) else (none)) else (none))
def falseworkref18_State.j1 : Nat → Int → Int → Int → Bool → Int → ByteArray → List (S75) → List (S98) → Int → Option (Int)
 | 0, _, _, _, _, _, _, _, _, _ => none
 | k + 1, x1, x3, x28, x29, x286000, x286001, x286002, x286003, x286004 => if x29 = true then ((falseworkref18_index.f k x286000 x286001 x286002 x286003 x286004 x3).bind fun t286 => (if t286 ≥ 0 then (if 0 ≤ t286 then (if t286 < (x286003.length : Int) then (some ((rd_T98 x286003 t286).f4)) else (none)) else (none)) else (some (-1)))) else (if x28 = 8 then (falseworkref18_State.j2 k x1 x3 (x28 == 8) x286000 x286001 x286002 x286003 x286004) else (if x28 = 9 then (falseworkref18_State.j2 k x1 x3 (x28 == 9) x286000 x286001 x286002 x286003 x286004) else (if x28 = 10 then (falseworkref18_State.j2 k x1 x3 (x28 == 10) x286000 x286001 x286002 x286003 x286004) else (falseworkref18_State.j2 k x1 x3 (x28 == 11) x286000 x286001 x286002 x286003 x286004))))
def falseworkref18_State.j2 : Nat → Int → Int → Bool → Int → ByteArray → List (S75) → List (S98) → Int → Option (Int)
 | 0, _, _, _, _, _, _, _, _ => none
 | k + 1, x1, x3, x43, x286000, x286001, x286002, x286003, x286004 => if x43 = true then ((falseworkref18_column.f k x286000 x286001 x286002 x286003 x286004 x3).bind fun t288 => (if t288 ≥ 0 then (falseworkref18_State.j3 k t288 (decide (x1 < 10)) x286000 x286001 x286002 x286003 x286004) else (falseworkref18_State.j3 k t288 false x286000 x286001 x286002 x286003 x286004))) else (some (-1))
def falseworkref18_State.j3 : Nat → Int → Bool → Int → ByteArray → List (S75) → List (S98) → Int → Option (Int)
 | 0, _, _, _, _, _, _, _ => none
 | k + 1, x12, x56, x286000, x286001, x286002, x286003, x286004 => if x56 = true then (if 0 ≤ x12 then (if x12 < (x286002.length : Int) then (some ((rd_T75 x286002 x12).f3)) else (none)) else (none)) else (if x12 ≥ 0 then (if 0 ≤ x12 then (if x12 < (x286002.length : Int) then (some ((rd_T75 x286002 x12).f4)) else (none)) else (none)) else (some (-1)))
end
def falseworkref18_State.f (k : Nat) (a0_0 : Int) (l0_1 : List (S70)) (a0_2 : Int) (a1 : Int) (a2 : Int) (a3 : Int) : Option (Int) := (falseworkref18_ByID.f k a0_0 l0_1 a0_2 a2).bind fun t282 => (if t282 < 0 then (falseworkref18_State.j0 k a1 a3 t282 true a0_0 l0_1 a0_2) else ((falseworkref6_May.f k a0_0 l0_1 a0_2).bind fun t283 => (falseworkref18_State.j0 k a1 a3 t282 (!t283) a0_0 l0_1 a0_2)))
theorem falseworkref18_State.mono_l : ∀ k, (∀ y0 y1 y2 y3 y4 y5 y6, LeO (falseworkref18_State.j0 k y0 y1 y2 y3 y4 y5 y6) (falseworkref18_State.j0 (k + 1) y0 y1 y2 y3 y4 y5 y6)) ∧ (∀ y0 y1 y2 y3 y4 y5 y6 y7 y8, LeO (falseworkref18_State.j1 k y0 y1 y2 y3 y4 y5 y6 y7 y8) (falseworkref18_State.j1 (k + 1) y0 y1 y2 y3 y4 y5 y6 y7 y8)) ∧ (∀ y0 y1 y2 y3 y4 y5 y6 y7, LeO (falseworkref18_State.j2 k y0 y1 y2 y3 y4 y5 y6 y7) (falseworkref18_State.j2 (k + 1) y0 y1 y2 y3 y4 y5 y6 y7)) ∧ (∀ y0 y1 y2 y3 y4 y5 y6, LeO (falseworkref18_State.j3 k y0 y1 y2 y3 y4 y5 y6) (falseworkref18_State.j3 (k + 1) y0 y1 y2 y3 y4 y5 y6))
 | 0 => ⟨fun _ _ _ _ _ _ _ r h => by simp [falseworkref18_State.j0] at h, fun _ _ _ _ _ _ _ _ _ r h => by simp [falseworkref18_State.j1] at h, fun _ _ _ _ _ _ _ _ r h => by simp [falseworkref18_State.j2] at h, fun _ _ _ _ _ _ _ r h => by simp [falseworkref18_State.j3] at h⟩
 | k + 1 => by
  obtain ⟨ih0, ih1, ih2, ih3⟩ := falseworkref18_State.mono_l k
  refine ⟨?_, ?_, ?_, ?_⟩
  ·intro y0 y1 y2 y3 y4 y5 y6
   unfold falseworkref18_State.j0
   repeat' first
   | (with_reducible exact ih0 _ _ _ _ _ _ _)
   | (with_reducible exact ih1 _ _ _ _ _ _ _ _ _)
   | (with_reducible exact ih2 _ _ _ _ _ _ _ _)
   | (with_reducible exact ih3 _ _ _ _ _ _ _)
   | (with_reducible exact falseworkref18_ByID.mono _ _ _ _ _)
   | (with_reducible exact falseworkref18_column.mono _ _ _ _ _ _ _)
   | (with_reducible exact falseworkref18_index.mono _ _ _ _ _ _ _)
   | (with_reducible exact falseworkref6_May.mono _ _ _ _)
   | (with_reducible exact LeO.refl _)
   | (with_reducible exact LeO.none _)
   | (with_reducible refine LeO.ite ?_ ?_)
   | (with_reducible refine LeO.bind ?_ (fun _ => ?_))
   | exact ih0 _ _ _ _ _ _ _
   | exact ih1 _ _ _ _ _ _ _ _ _
   | exact ih2 _ _ _ _ _ _ _ _
   | exact ih3 _ _ _ _ _ _ _
   | exact falseworkref18_ByID.mono _ _ _ _ _
   | exact falseworkref18_column.mono _ _ _ _ _ _ _
   | exact falseworkref18_index.mono _ _ _ _ _ _ _
   | exact falseworkref6_May.mono _ _ _ _
   | exact LeO.none _
   | refine LeO.ite ?_ ?_
   | refine LeO.bind ?_ (fun _ => ?_)
  ·intro y0 y1 y2 y3 y4 y5 y6 y7 y8
   unfold falseworkref18_State.j1
   repeat' first
   | (with_reducible exact ih0 _ _ _ _ _ _ _)
   | (with_reducible exact ih1 _ _ _ _ _ _ _ _ _)
   | (with_reducible exact ih2 _ _ _ _ _ _ _ _)
   | (with_reducible exact ih3 _ _ _ _ _ _ _)
   | (with_reducible exact falseworkref18_ByID.mono _ _ _ _ _)
   | (with_reducible exact falseworkref18_column.mono _ _ _ _ _ _ _)
   | (with_reducible exact falseworkref18_index.mono _ _ _ _ _ _ _)
   | (with_reducible exact falseworkref6_May.mono _ _ _ _)
   | (with_reducible exact LeO.refl _)
   | (with_reducible exact LeO.none _)
   | (with_reducible refine LeO.ite ?_ ?_)
   | (with_reducible refine LeO.bind ?_ (fun _ => ?_))
   | exact ih0 _ _ _ _ _ _ _
   | exact ih1 _ _ _ _ _ _ _ _ _
   | exact ih2 _ _ _ _ _ _ _ _
   | exact ih3 _ _ _ _ _ _ _
   | exact falseworkref18_ByID.mono _ _ _ _ _
   | exact falseworkref18_column.mono _ _ _ _ _ _ _
   | exact falseworkref18_index.mono _ _ _ _ _ _ _
   | exact falseworkref6_May.mono _ _ _ _
   | exact LeO.none _
   | refine LeO.ite ?_ ?_
   | refine LeO.bind ?_ (fun _ => ?_)
  ·intro y0 y1 y2 y3 y4 y5 y6 y7
   unfold falseworkref18_State.j2
   repeat' first
   | (with_reducible exact ih0 _ _ _ _ _ _ _)
   | (with_reducible exact ih1 _ _ _ _ _ _ _ _ _)
   | (with_reducible exact ih2 _ _ _ _ _ _ _ _)
   | (with_reducible exact ih3 _ _ _ _ _ _ _)
   | (with_reducible exact falseworkref18_ByID.mono _ _ _ _ _)
   | (with_reducible exact falseworkref18_column.mono _ _ _ _ _ _ _)
   | (with_reducible exact falseworkref18_index.mono _ _ _ _ _ _ _)
   | (with_reducible exact falseworkref6_May.mono _ _ _ _)
   | (with_reducible exact LeO.refl _)
   | (with_reducible exact LeO.none _)
   | (with_reducible refine LeO.ite ?_ ?_)
   | (with_reducible refine LeO.bind ?_ (fun _ => ?_))
   | exact ih0 _ _ _ _ _ _ _
   | exact ih1 _ _ _ _ _ _ _ _ _
   | exact ih2 _ _ _ _ _ _ _ _
   | exact ih3 _ _ _ _ _ _ _
   | exact falseworkref18_ByID.mono _ _ _ _ _
   | exact falseworkref18_column.mono _ _ _ _ _ _ _
   | exact falseworkref18_index.mono _ _ _ _ _ _ _
   | exact falseworkref6_May.mono _ _ _ _
   | exact LeO.none _
   | refine LeO.ite ?_ ?_
   | refine LeO.bind ?_ (fun _ => ?_)
  ·intro y0 y1 y2 y3 y4 y5 y6
   unfold falseworkref18_State.j3
   repeat' first
   | (with_reducible exact ih0 _ _ _ _ _ _ _)
   | (with_reducible exact ih1 _ _ _ _ _ _ _ _ _)
   | (with_reducible exact ih2 _ _ _ _ _ _ _ _)
   | (with_reducible exact ih3 _ _ _ _ _ _ _)
   | (with_reducible exact falseworkref18_ByID.mono _ _ _ _ _)
   | (with_reducible exact falseworkref18_column.mono _ _ _ _ _ _ _)
   | (with_reducible exact falseworkref18_index.mono _ _ _ _ _ _ _)
   | (with_reducible exact falseworkref6_May.mono _ _ _ _)
   | (with_reducible exact LeO.refl _)
   | (with_reducible exact LeO.none _)
   | (with_reducible refine LeO.ite ?_ ?_)
   | (with_reducible refine LeO.bind ?_ (fun _ => ?_))
   | exact ih0 _ _ _ _ _ _ _
   | exact ih1 _ _ _ _ _ _ _ _ _
   | exact ih2 _ _ _ _ _ _ _ _
   | exact ih3 _ _ _ _ _ _ _
   | exact falseworkref18_ByID.mono _ _ _ _ _
   | exact falseworkref18_column.mono _ _ _ _ _ _ _
   | exact falseworkref18_index.mono _ _ _ _ _ _ _
   | exact falseworkref6_May.mono _ _ _ _
   | exact LeO.none _
   | refine LeO.ite ?_ ?_
   | refine LeO.bind ?_ (fun _ => ?_)
theorem falseworkref18_State.mono : ∀ a0 a1 a2 a3 a4 a5 k, LeO (falseworkref18_State.f k a0 a1 a2 a3 a4 a5) (falseworkref18_State.f (k + 1) a0 a1 a2 a3 a4 a5) := by
 intro a0 a1 a2 a3 a4 a5 k
 obtain ⟨ih0, ih1, ih2, ih3⟩ := falseworkref18_State.mono_l k
 unfold falseworkref18_State.f
 repeat' first
   | (with_reducible exact ih0 _ _ _ _ _ _ _)
   | (with_reducible exact ih1 _ _ _ _ _ _ _ _ _)
   | (with_reducible exact ih2 _ _ _ _ _ _ _ _)
   | (with_reducible exact ih3 _ _ _ _ _ _ _)
   | (with_reducible exact falseworkref18_ByID.mono _ _ _ _ _)
   | (with_reducible exact falseworkref18_column.mono _ _ _ _ _ _ _)
   | (with_reducible exact falseworkref18_index.mono _ _ _ _ _ _ _)
   | (with_reducible exact falseworkref6_May.mono _ _ _ _)
   | (with_reducible exact LeO.refl _)
   | (with_reducible exact LeO.none _)
   | (with_reducible refine LeO.ite ?_ ?_)
   | (with_reducible refine LeO.bind ?_ (fun _ => ?_))
   | exact ih0 _ _ _ _ _ _ _
   | exact ih1 _ _ _ _ _ _ _ _ _
   | exact ih2 _ _ _ _ _ _ _ _
   | exact ih3 _ _ _ _ _ _ _
   | exact falseworkref18_ByID.mono _ _ _ _ _
   | exact falseworkref18_column.mono _ _ _ _ _ _ _
   | exact falseworkref18_index.mono _ _ _ _ _ _ _
   | exact falseworkref6_May.mono _ _ _ _
   | exact LeO.none _
   | refine LeO.ite ?_ ?_
   | refine LeO.bind ?_ (fun _ => ?_)
set_option maxHeartbeats 8000000 in
set_option maxRecDepth 100000 in
theorem falseworkref18_State.calls (k : Nat) (a0_0 : Int) (A0_1 : Option Addr) (c0_1 : Nat) (l0_1 : List (S70)) (a0_2 : Int) (a1 : Int) (a2 : Int) (a3 : Int) (r : Int) (w : World) (hr0_1 : Kd.C k70 w A0_1 l0_1.length l0_1) (hc0_1 : l0_1.length ≤ c0_1) (h : falseworkref18_State.f k a0_0 l0_1 a0_2 a1 a2 a3 = some r) :
  Calls Tryd.prog 31 #[.agg #[.int .i64 a0_0, .slice A0_1 l0_1.length c0_1, .int .i64 a0_2], .int .i64 a1, .int .i64 a2, .int .i64 a3] w fun e w' => e = .returned (.int .i64 r) ∧ Below w.heap.size w w' := by
 have hu28 := Tryd.underlying28
 have hu70 := Tryd.underlying70
 have HR0_1 := Aside0.mk hr0_1; have HC0_1 := Aside0.mk hc0_1; clear hr0_1 hc0_1; have HB := Aside0.mk (Below.refl w.heap.size w)
 have H : ((falseworkref18_ByID.f k a0_0 l0_1 a0_2 a2).bind fun t282 => (if t282 < 0 then (falseworkref18_State.j0 k a1 a3 t282 true a0_0 l0_1 a0_2) else ((falseworkref6_May.f k a0_0 l0_1 a0_2).bind fun t283 => (falseworkref18_State.j0 k a1 a3 t282 (!t283) a0_0 l0_1 a0_2)))) = some r := h
 clear h; replace H := Option.bind_eq_some_iff.mp H; obtain ⟨t282, A50, H⟩ := H
 replace H : (if t282 < 0 then (falseworkref18_State.j0 k a1 a3 t282 true a0_0 l0_1 a0_2) else ((falseworkref6_May.f k a0_0 l0_1 a0_2).bind fun t283 => (falseworkref18_State.j0 k a1 a3 t282 (!t283) a0_0 l0_1 a0_2))) = some r := H
 have A5 := Aside0.mk A50; clear A50; have HC6 := Aside0.mk H; clear H; go_enter Tryd.func31, Tryd.ntmps31
 go_upto_region 2 with (first | ((with_reducible refine gate_dst (N := 4) rfl ?_); refine box_event ?hg (N := 4) ?hd (cs := #[.int .i64 a0_0, .slice A0_1 l0_1.length c0_1, .int .i64 a0_2]) (t := 28) ?hr ?_; (case hd => rfl); (case hg => rfl); (case hr => first | (go_simp; done) | (go_simp; rfl)); intro gb281 hg w7 hbox hb; have n0_ := Aside0.mk (below_step (by repeat (first | (with_reducible first | exact HB.out | apply below_alloc | apply pw_below_drewN | apply below_drew1) | exact HB.out)) hb); have n1_ := Aside0.mk (hbox); have n2_ := Aside0.mk ((by rw [hg]; exact (below_size (by repeat (first | (with_reducible first | exact HB.out | apply below_alloc | apply pw_below_drewN | apply below_drew1) | exact HB.out))) : w.heap.size ≤ gb281)); have n3_ := Aside0.mk ((by rw [hg]; exact (below_size (by repeat (first | (with_reducible first | exact HB.out | apply below_alloc | apply pw_below_drewN | apply below_drew1) | exact HB.out))) : w.heap.size ≤ gb281)); clear HB; have HB := n0_; have BK281 := n1_; have GW281 := n2_; have GE281 := n3_; clear n0_ n1_ n2_ n3_; clear hb hbox hg; have hcz8_0 : w7.cell? ⟨gb281, 0, none⟩ = some (.int .i64 a0_0) := (Go.Proofs.YtjgomlcdmpcoaaaDoorW.PrintWords.blk_cell BK281.out 0).trans rfl; have hcz8_1 : w7.cell? ⟨gb281, 1, none⟩ = some (.slice A0_1 l0_1.length c0_1) := (Go.Proofs.YtjgomlcdmpcoaaaDoorW.PrintWords.blk_cell BK281.out 1).trans rfl; have hcz8_2 : w7.cell? ⟨gb281, 2, none⟩ = some (.int .i64 a0_2) := (Go.Proofs.YtjgomlcdmpcoaaaDoorW.PrintWords.blk_cell BK281.out 2).trans rfl; have hfz8_0 := blk_frozen BK281.out 0; have hfz8_1 := blk_frozen BK281.out 1; have hfz8_2 := blk_frozen BK281.out 2) | ((with_reducible refine gate_callee (f := 65) rfl ?_); refine goesL_ (some 15) rfl rfl Tryd.func65 (by kernel_rfl) rfl #[.agg #[.int .i64 a0_0, .slice A0_1 l0_1.length c0_1, .int .i64 a0_2], .int .i64 a2] rfl (by (try simp only [List.map_toArray, List.map_cons, List.map_nil]); first | done | rfl | (simp only [List.length_drop, List.length_take]; rfl)) ?_; (with_reducible refine (falseworkref18_ByID.calls k a0_0 _ _ l0_1 a0_2 a2 t282 _ ?side1 ?side2 A5.out).mono ?_); (case side1 => repeat (first | exact (Kd.C_below HR0_1.out HB.out) | (with_reducible refine Kd.C_alloc ?_ _) | (with_reducible refine Kd.C_drewN ?_ _) | (with_reducible refine Kd.C_drew ?_))); (case side2 => exact HC0_1.out); rintro e w9 ⟨rfl, hb⟩; refine ⟨_, rfl, ?_⟩; have n0_ := Aside0.mk (blk_below (g := gb281) (o := .cells #[.int .i64 a0_0, .slice A0_1 l0_1.length c0_1, .int .i64 a0_2] 28 (0, 0)) (by (with_reducible repeat (first | refine blk_drewN ?_ _ | refine blk_drew ?_ | refine blk_alloc ?_ _)); exact BK281.out) hb); have n1_ := Aside0.mk (below_step (by repeat (first | (with_reducible first | exact HB.out | apply below_alloc | apply pw_below_drewN | apply below_drew1 | refine below_set ?_ GE281.out) | exact HB.out)) hb); clear BK281; clear HB; have BK281 := n0_; have HB := n1_; clear n0_ n1_; (try clear hb); (try clear hb2); (try clear hk); (try clear hi)))
 (try simp only [Act.put, List.setIfInBounds_toArray, List.set_cons_zero, List.set_cons_succ])
 go_cut [22] (fun v22 wc => ∃ (kq : Nat) (x22_5 : Bool), v22 = .bool x22_5 ∧ Aside0 (falseworkref18_State.j0 kq a1 a3 t282 x22_5 a0_0 l0_1 a0_2 = some r) ∧ Aside0 (kq ≤ k) ∧ Aside0 (wc.heap[gb281]? = some (.cells #[.int .i64 a0_0, (.slice A0_1 l0_1.length c0_1), .int .i64 a0_2] 28 (0, 0))) ∧ Aside0 (Below w.heap.size w wc))
 case first =>
  have H := HC6.out; clear HC6; by_cases c10 : t282 < 0
  ·rw [if_pos c10] at H
   have c10b0 : decide (t282 < 0) = true := decide_eq_true c10
   clear c10
   (first | rw [c10b0] | (simp only [i64_w, i32_w]; rw [c10b0]) | skip)
   have H' := Aside0.mk H; clear H; go_wp2; go_meet
   case rel => exact ⟨_, (true), (by first | rfl | (simp; done) | (simp [*]; done)), H', ⟨by first | omega | exact Nat.le_refl _⟩, ⟨by (with_reducible repeat (first | refine blk_drewN ?_ _ | refine blk_drew ?_ | refine blk_alloc ?_ _)); exact BK281.out⟩, ⟨by repeat (first | (with_reducible first | exact HB.out | apply below_alloc | apply pw_below_drewN | apply below_drew1 | refine below_set ?_ GE281.out) | exact HB.out)⟩⟩
  ·rw [if_neg c10] at H
   have c10b0 : decide (t282 < 0) = false := decide_eq_false c10
   clear c10
   (first | rw [c10b0] | (simp only [i64_w, i32_w]; rw [c10b0]) | skip)
   replace H := Option.bind_eq_some_iff.mp H; obtain ⟨t283, A110, H⟩ := H
   replace H : (falseworkref18_State.j0 k a1 a3 t282 (!t283) a0_0 l0_1 a0_2) = some r := H
   have A11 := Aside0.mk A110; clear A110; have H' := Aside0.mk H; clear H; have hcz12_0 : w9.cell? ⟨gb281, 0, none⟩ = some (.int .i64 a0_0) := (Go.Proofs.YtjgomlcdmpcoaaaDoorW.PrintWords.blk_cell BK281.out 0).trans rfl
   have hcz12_1 : w9.cell? ⟨gb281, 1, none⟩ = some (.slice A0_1 l0_1.length c0_1) := (Go.Proofs.YtjgomlcdmpcoaaaDoorW.PrintWords.blk_cell BK281.out 1).trans rfl
   have hcz12_2 : w9.cell? ⟨gb281, 2, none⟩ = some (.int .i64 a0_2) := (Go.Proofs.YtjgomlcdmpcoaaaDoorW.PrintWords.blk_cell BK281.out 2).trans rfl
   have hfz12_0 := blk_frozen BK281.out 0
   have hfz12_1 := blk_frozen BK281.out 1
   have hfz12_2 := blk_frozen BK281.out 2
   go_wp2_with (first | (go_at_call 37; (with_reducible refine (falseworkref6_May.calls k a0_0 _ _ l0_1 a0_2 t283 _ ?side1 ?side2 A11.out).mono ?_); (case side1 => repeat (first | exact (Kd.C_below HR0_1.out HB.out) | (with_reducible refine Kd.C_alloc ?_ _) | (with_reducible refine Kd.C_drewN ?_ _) | (with_reducible refine Kd.C_drew ?_))); (case side2 => exact HC0_1.out); rintro e w13 ⟨rfl, hb⟩; have n0_ := Aside0.mk (blk_below (g := gb281) (o := .cells #[.int .i64 a0_0, .slice A0_1 l0_1.length c0_1, .int .i64 a0_2] 28 (0, 0)) (by (with_reducible repeat (first | refine blk_drewN ?_ _ | refine blk_drew ?_ | refine blk_alloc ?_ _)); exact BK281.out) hb); have n1_ := Aside0.mk (below_step (by repeat (first | (with_reducible first | exact HB.out | apply below_alloc | apply pw_below_drewN | apply below_drew1 | refine below_set ?_ GE281.out) | exact HB.out)) hb); clear BK281; clear HB; have BK281 := n0_; have HB := n1_; clear n0_ n1_; (try clear hb); (try clear hb2); (try clear hk); (try clear hi)))
   go_meet
   case rel => exact ⟨_, (!t283), (by first | rfl | (simp; done) | (simp [*]; done)), H', ⟨by first | omega | exact Nat.le_refl _⟩, ⟨by (with_reducible repeat (first | refine blk_drewN ?_ _ | refine blk_drew ?_ | refine blk_alloc ?_ _)); exact BK281.out⟩, ⟨by repeat (first | (with_reducible first | exact HB.out | apply below_alloc | apply pw_below_drewN | apply below_drew1 | refine below_set ?_ GE281.out) | exact HB.out)⟩⟩
 case rest =>
  clear HC6; (try clear c1); (try clear p2); (try clear c3); (try clear c6); (try clear c10); (try clear c10b0); (try clear hcz12_0); (try clear hcz12_1); (try clear hcz12_2); (try clear hcz8_0); (try clear hcz8_1)
  (try clear hcz8_2); (try clear hfz12_0); (try clear hfz12_1); (try clear hfz12_2); (try clear hfz8_0); (try clear hfz8_1); (try clear hfz8_2); obtain ⟨kq, x22_5, rfl, HA, HJ5, BK281, HB⟩ := hcut
  cases kq with
  | zero => exact absurd HA.out (by simp [falseworkref18_State.j0])
  | succ kj5 =>
   have H := HA.out; clear HA; simp only [falseworkref18_State.j0] at H
   by_cases c14 : x22_5 = true
   ·subst c14
    have H1 : (some (-1)) = some r := by rw [if_pos rfl] at H; exact H
    clear H; have H := H1; clear H1; obtain rfl := Option.some.inj H; go_wp2; go_ret; exact ⟨by first | rfl | (simp [errW_none, errW_some] <;> rfl) | (simp [*, errW_none, errW_some] <;> rfl), by repeat (first | (with_reducible first | exact HB.out | apply below_alloc | apply pw_below_drewN | apply below_drew1 | refine below_set ?_ GE281.out) | exact HB.out)⟩
   ·replace c14 := Bool.eq_false_iff.mpr c14
    subst c14; have H1 : (if 0 ≤ t282 then (if t282 < (l0_1.length : Int) then (if a1 = 6 then (falseworkref18_State.j1 kj5 a1 a3 a1 (a1 == 6) ((rd_T70 l0_1 t282).f0) ((rd_T70 l0_1 t282).f1) ((rd_T70 l0_1 t282).f2) ((rd_T70 l0_1 t282).f3) ((rd_T70 l0_1 t282).f4)) else (falseworkref18_State.j1 kj5 a1 a3 a1 (a1 == 7) ((rd_T70 l0_1 t282).f0) ((rd_T70 l0_1 t282).f1) ((rd_T70 l0_1 t282).f2) ((rd_T70 l0_1 t282).f3) ((rd_T70 l0_1 t282).f4))) else (none)) else (none)) = some r := by rw [if_neg (show ¬ (false = true) by decide)] at H; exact H
    clear H; have H := H1; clear H1; by_cases c15 : 0 ≤ t282
    ·rw [if_pos c15] at H
     have c15b0 : decide (0 ≤ t282) = true := decide_eq_true c15
     clear c15; by_cases c16 : t282 < (l0_1.length : Int)
     ·rw [if_pos c16] at H
      have c16b0 : decide (t282 < (l0_1.length : Int)) = true := decide_eq_true c16
      clear c16; have HC17 := Aside0.mk H; clear H; have hcz18_0 : wc.cell? ⟨gb281, 0, none⟩ = some (.int .i64 a0_0) := (Go.Proofs.YtjgomlcdmpcoaaaDoorW.PrintWords.blk_cell BK281.out 0).trans rfl
      have hcz18_1 : wc.cell? ⟨gb281, 1, none⟩ = some (.slice A0_1 l0_1.length c0_1) := (Go.Proofs.YtjgomlcdmpcoaaaDoorW.PrintWords.blk_cell BK281.out 1).trans rfl
      have hcz18_2 : wc.cell? ⟨gb281, 2, none⟩ = some (.int .i64 a0_2) := (Go.Proofs.YtjgomlcdmpcoaaaDoorW.PrintWords.blk_cell BK281.out 2).trans rfl
      have hfz18_0 := blk_frozen BK281.out 0
      have hfz18_1 := blk_frozen BK281.out 1
      have hfz18_2 := blk_frozen BK281.out 2
      have p284 : 0 ≤ (t282 : Int) := of_decide_eq_true (by first | (with_reducible assumption) | assumption)
      have q284 : t282 < (l0_1.length : Int) := of_decide_eq_true (by first | (with_reducible assumption) | assumption)
      obtain ⟨ad284, A284_2, c284_2, A284_3, c284_3, e284, hx284_0, hx284_1, hx284_2, hx284_3, hx284_4, hl284_2, hi284_2, hl284_3, hi284_3⟩ := at_T70 HR0_1.out t282 p284 q284
      cases e284
      replace hx284_0 := (HB.out.cell (World.block_lt_of_cell? w _ hx284_0)).trans hx284_0
      replace hx284_1 := (HB.out.cell (World.block_lt_of_cell? w _ hx284_1)).trans hx284_1
      replace hx284_2 := (HB.out.cell (World.block_lt_of_cell? w _ hx284_2)).trans hx284_2
      replace hx284_3 := (HB.out.cell (World.block_lt_of_cell? w _ hx284_3)).trans hx284_3
      replace hx284_4 := (HB.out.cell (World.block_lt_of_cell? w _ hx284_4)).trans hx284_4
      have HR284_2 := Aside0.mk hi284_2; have HC284_2 := Aside0.mk hl284_2; clear hi284_2 hl284_2; have HR284_3 := Aside0.mk hi284_3; have HC284_3 := Aside0.mk hl284_3; clear hi284_3 hl284_3; replace p284 := eq_true p284
      replace q284 := eq_true q284
      go_upto_if 29 with (first | ((with_reducible refine gate_dst (N := 10) rfl ?_); refine box_event ?hg (N := 10) ?hd (cs := #[.int .i64 0, .string (⟨#[]⟩ : ByteArray), .slice none 0 0, .slice none 0 0, .int .i64 0]) (t := 70) ?hr ?_; (case hd => rfl); (case hg => rfl); (case hr => first | (go_simp; done) | (go_simp; rfl)); intro gb285 hg w19 hbox hb; have n0_ := Aside0.mk (blk_below (g := gb281) (o := .cells #[.int .i64 a0_0, .slice (some ad284) l0_1.length c0_1, .int .i64 a0_2] 28 (0, 0)) (by (with_reducible repeat (first | refine blk_drewN ?_ _ | refine blk_drew ?_ | refine blk_alloc ?_ _)); exact BK281.out) hb); have n1_ := Aside0.mk (below_step (by repeat (first | (with_reducible first | exact HB.out | apply below_alloc | apply pw_below_drewN | apply below_drew1 | refine below_set ?_ GE281.out) | exact HB.out)) hb); have n2_ := Aside0.mk (hbox); have n3_ := Aside0.mk ((by rw [hg]; exact (below_size (by repeat (first | (with_reducible first | exact HB.out | apply below_alloc | apply pw_below_drewN | apply below_drew1 | refine below_set ?_ GE281.out) | exact HB.out))) : w.heap.size ≤ gb285)); have n4_ := Aside0.mk ((by rw [hg]; exact (below_size (by repeat (first | (with_reducible first | exact HB.out | apply below_alloc | apply pw_below_drewN | apply below_drew1 | refine below_set ?_ GE281.out) | exact HB.out))) : w.heap.size ≤ gb285)); have n5_ := Aside0.mk ((by rw [hg]; exact Nat.ne_of_lt (blk_lt (g := gb281) (o := .cells #[.int .i64 a0_0, .slice (some ad284) l0_1.length c0_1, .int .i64 a0_2] 28 (0, 0)) (by (with_reducible repeat (first | refine blk_drewN ?_ _ | refine blk_drew ?_ | refine blk_alloc ?_ _)); exact BK281.out)) : gb281 ≠ gb285)); have n6_ := Aside0.mk ((by rw [hg]; exact Nat.ne_of_gt (blk_lt (g := gb281) (o := .cells #[.int .i64 a0_0, .slice (some ad284) l0_1.length c0_1, .int .i64 a0_2] 28 (0, 0)) (by (with_reducible repeat (first | refine blk_drewN ?_ _ | refine blk_drew ?_ | refine blk_alloc ?_ _)); exact BK281.out)) : gb285 ≠ gb281)); clear BK281; clear HB; have BK281 := n0_; have HB := n1_; have BK285 := n2_; have GW285 := n3_; have GE285 := n4_; have NB281_285 := n5_; have NB285_281 := n6_; clear n0_ n1_ n2_ n3_ n4_ n5_ n6_; clear hb hbox hg; have hnb20 := NB285_281.out; have hnc20 := NB281_285.out; have hcz21_0 : w19.cell? ⟨gb285, 0, none⟩ = some (.int .i64 0) := (Go.Proofs.YtjgomlcdmpcoaaaDoorW.PrintWords.blk_cell BK285.out 0).trans rfl; have hcz21_1 : w19.cell? ⟨gb285, 1, none⟩ = some (.string (⟨#[]⟩ : ByteArray)) := (Go.Proofs.YtjgomlcdmpcoaaaDoorW.PrintWords.blk_cell BK285.out 1).trans rfl; have hcz21_2 : w19.cell? ⟨gb285, 2, none⟩ = some (.slice none 0 0) := (Go.Proofs.YtjgomlcdmpcoaaaDoorW.PrintWords.blk_cell BK285.out 2).trans rfl; have hcz21_3 : w19.cell? ⟨gb285, 3, none⟩ = some (.slice none 0 0) := (Go.Proofs.YtjgomlcdmpcoaaaDoorW.PrintWords.blk_cell BK285.out 3).trans rfl; have hcz21_4 : w19.cell? ⟨gb285, 4, none⟩ = some (.int .i64 0) := (Go.Proofs.YtjgomlcdmpcoaaaDoorW.PrintWords.blk_cell BK285.out 4).trans rfl; have hfz21_0 := blk_frozen BK285.out 0; have hfz21_1 := blk_frozen BK285.out 1; have hfz21_2 := blk_frozen BK285.out 2; have hfz21_3 := blk_frozen BK285.out 3; have hfz21_4 := blk_frozen BK285.out 4))
      (try simp only [Act.put, List.setIfInBounds_toArray, List.set_cons_zero, List.set_cons_succ])
      go_cut [29] (fun v29 wc => ∃ (kq : Nat) (x29_16 : Bool), v29 = .bool x29_16 ∧ Aside0 (falseworkref18_State.j1 kq a1 a3 a1 x29_16 ((rd_T70 l0_1 t282).f0) ((rd_T70 l0_1 t282).f1) ((rd_T70 l0_1 t282).f2) ((rd_T70 l0_1 t282).f3) ((rd_T70 l0_1 t282).f4) = some r) ∧ Aside0 (kq ≤ kj5) ∧ Aside0 (wc.heap[gb281]? = some (.cells #[.int .i64 a0_0, (.slice (some ad284) l0_1.length c0_1), .int .i64 a0_2] 28 (0, 0))) ∧ Aside0 (wc.heap[gb285]? = some (.cells #[.int .i64 ((rd_T70 l0_1 t282).f0), .string ((rd_T70 l0_1 t282).f1), (.slice A284_2 ((rd_T70 l0_1 t282).f2).length c284_2), (.slice A284_3 ((rd_T70 l0_1 t282).f3).length c284_3), .int .i64 ((rd_T70 l0_1 t282).f4)] 70 (0, 0))) ∧ Aside0 (Below w.heap.size w wc))
      case first =>
       have H := HC17.out; clear HC17; by_cases c22 : a1 = 6
       ·rw [if_pos c22] at H
        have c22b0 : (a1 == 6) = true := beq_iff_eq.mpr c22
        have c22b1 : (a1 != 6) = false := bne_eq_false_iff_eq.mpr c22
        clear c22
        (first | rw [c22b0] | (simp only [i64_w, i32_w]; rw [c22b0]) | skip)
        have H' := Aside0.mk H; clear H; go_wp2; go_meet
        case rel => exact ⟨_, ((a1 == 6)), (by first | rfl | (simp; done) | (simp [*]; done)), H', ⟨by have := HJ5.out; first | omega | exact Nat.le_refl _⟩, ⟨by (with_reducible repeat (first | refine blk_drewN ?_ _ | refine blk_drew ?_ | refine blk_alloc ?_ _)); refine blk_far ?_ NB281_285.out _; (with_reducible repeat (first | refine blk_drewN ?_ _ | refine blk_drew ?_ | refine blk_alloc ?_ _)); refine blk_far ?_ NB281_285.out _; (with_reducible repeat (first | refine blk_drewN ?_ _ | refine blk_drew ?_ | refine blk_alloc ?_ _)); refine blk_far ?_ NB281_285.out _; (with_reducible repeat (first | refine blk_drewN ?_ _ | refine blk_drew ?_ | refine blk_alloc ?_ _)); refine blk_far ?_ NB281_285.out _; (with_reducible repeat (first | refine blk_drewN ?_ _ | refine blk_drew ?_ | refine blk_alloc ?_ _)); refine blk_far ?_ NB281_285.out _; (with_reducible repeat (first | refine blk_drewN ?_ _ | refine blk_drew ?_ | refine blk_alloc ?_ _)); exact BK281.out⟩, ⟨by (with_reducible repeat (first | refine blk_drewN ?_ _ | refine blk_drew ?_ | refine blk_alloc ?_ _)); refine blk_put (cs := #[.int .i64 ((rd_T70 l0_1 t282).f0), .string ((rd_T70 l0_1 t282).f1), .slice A284_2 ((rd_T70 l0_1 t282).f2).length c284_2, .slice A284_3 ((rd_T70 l0_1 t282).f3).length c284_3, .int .i64 0]) ?_ 4 _ rfl; (with_reducible repeat (first | refine blk_drewN ?_ _ | refine blk_drew ?_ | refine blk_alloc ?_ _)); refine blk_put (cs := #[.int .i64 ((rd_T70 l0_1 t282).f0), .string ((rd_T70 l0_1 t282).f1), .slice A284_2 ((rd_T70 l0_1 t282).f2).length c284_2, .slice none 0 0, .int .i64 0]) ?_ 3 _ rfl; (with_reducible repeat (first | refine blk_drewN ?_ _ | refine blk_drew ?_ | refine blk_alloc ?_ _)); refine blk_put (cs := #[.int .i64 ((rd_T70 l0_1 t282).f0), .string ((rd_T70 l0_1 t282).f1), .slice none 0 0, .slice none 0 0, .int .i64 0]) ?_ 2 _ rfl; (with_reducible repeat (first | refine blk_drewN ?_ _ | refine blk_drew ?_ | refine blk_alloc ?_ _)); refine blk_put (cs := #[.int .i64 ((rd_T70 l0_1 t282).f0), .string (⟨#[]⟩ : ByteArray), .slice none 0 0, .slice none 0 0, .int .i64 0]) ?_ 1 _ rfl; (with_reducible repeat (first | refine blk_drewN ?_ _ | refine blk_drew ?_ | refine blk_alloc ?_ _)); refine blk_put (cs := #[.int .i64 0, .string (⟨#[]⟩ : ByteArray), .slice none 0 0, .slice none 0 0, .int .i64 0]) ?_ 0 _ rfl; (with_reducible repeat (first | refine blk_drewN ?_ _ | refine blk_drew ?_ | refine blk_alloc ?_ _)); exact BK285.out⟩, ⟨by repeat (first | (with_reducible first | exact HB.out | apply below_alloc | apply pw_below_drewN | apply below_drew1 | refine below_set ?_ GE281.out | refine below_set ?_ GE285.out) | exact HB.out)⟩⟩
       ·rw [if_neg c22] at H
        have c22b0 : (a1 == 6) = false := beq_eq_false_iff_ne.mpr c22
        have c22b1 : (a1 != 6) = true := bne_iff_ne.mpr c22
        (first | rw [c22b0] | (simp only [i64_w, i32_w]; rw [c22b0]) | skip)
        have H' := Aside0.mk H; clear H; go_wp2; go_meet
        case rel => exact ⟨_, ((a1 == 7)), (by first | rfl | (simp; done) | (simp [*]; done)), H', ⟨by have := HJ5.out; first | omega | exact Nat.le_refl _⟩, ⟨by (with_reducible repeat (first | refine blk_drewN ?_ _ | refine blk_drew ?_ | refine blk_alloc ?_ _)); refine blk_far ?_ NB281_285.out _; (with_reducible repeat (first | refine blk_drewN ?_ _ | refine blk_drew ?_ | refine blk_alloc ?_ _)); refine blk_far ?_ NB281_285.out _; (with_reducible repeat (first | refine blk_drewN ?_ _ | refine blk_drew ?_ | refine blk_alloc ?_ _)); refine blk_far ?_ NB281_285.out _; (with_reducible repeat (first | refine blk_drewN ?_ _ | refine blk_drew ?_ | refine blk_alloc ?_ _)); refine blk_far ?_ NB281_285.out _; (with_reducible repeat (first | refine blk_drewN ?_ _ | refine blk_drew ?_ | refine blk_alloc ?_ _)); refine blk_far ?_ NB281_285.out _; (with_reducible repeat (first | refine blk_drewN ?_ _ | refine blk_drew ?_ | refine blk_alloc ?_ _)); exact BK281.out⟩, ⟨by (with_reducible repeat (first | refine blk_drewN ?_ _ | refine blk_drew ?_ | refine blk_alloc ?_ _)); refine blk_put (cs := #[.int .i64 ((rd_T70 l0_1 t282).f0), .string ((rd_T70 l0_1 t282).f1), .slice A284_2 ((rd_T70 l0_1 t282).f2).length c284_2, .slice A284_3 ((rd_T70 l0_1 t282).f3).length c284_3, .int .i64 0]) ?_ 4 _ rfl; (with_reducible repeat (first | refine blk_drewN ?_ _ | refine blk_drew ?_ | refine blk_alloc ?_ _)); refine blk_put (cs := #[.int .i64 ((rd_T70 l0_1 t282).f0), .string ((rd_T70 l0_1 t282).f1), .slice A284_2 ((rd_T70 l0_1 t282).f2).length c284_2, .slice none 0 0, .int .i64 0]) ?_ 3 _ rfl; (with_reducible repeat (first | refine blk_drewN ?_ _ | refine blk_drew ?_ | refine blk_alloc ?_ _)); refine blk_put (cs := #[.int .i64 ((rd_T70 l0_1 t282).f0), .string ((rd_T70 l0_1 t282).f1), .slice none 0 0, .slice none 0 0, .int .i64 0]) ?_ 2 _ rfl; (with_reducible repeat (first | refine blk_drewN ?_ _ | refine blk_drew ?_ | refine blk_alloc ?_ _)); refine blk_put (cs := #[.int .i64 ((rd_T70 l0_1 t282).f0), .string (⟨#[]⟩ : ByteArray), .slice none 0 0, .slice none 0 0, .int .i64 0]) ?_ 1 _ rfl; (with_reducible repeat (first | refine blk_drewN ?_ _ | refine blk_drew ?_ | refine blk_alloc ?_ _)); refine blk_put (cs := #[.int .i64 0, .string (⟨#[]⟩ : ByteArray), .slice none 0 0, .slice none 0 0, .int .i64 0]) ?_ 0 _ rfl; (with_reducible repeat (first | refine blk_drewN ?_ _ | refine blk_drew ?_ | refine blk_alloc ?_ _)); exact BK285.out⟩, ⟨by repeat (first | (with_reducible first | exact HB.out | apply below_alloc | apply pw_below_drewN | apply below_drew1 | refine below_set ?_ GE281.out | refine below_set ?_ GE285.out) | exact HB.out)⟩⟩
      case rest =>
       clear HC17; (try clear c1); (try clear c2); (try clear p2); (try clear q2); (try clear hx2); (try clear c3); (try clear c6); (try clear c10); (try clear c10b0); (try clear c14); (try clear c15)
       (try clear c15b0); (try clear c16); (try clear c16b0); (try clear c20); (try clear c22); (try clear c22b0); (try clear c22b1); (try clear hcz12_0); (try clear hcz12_1); (try clear hcz12_2)
       (try clear hcz18_0); (try clear hcz18_1); (try clear hcz18_2); (try clear hcz21_0); (try clear hcz21_1); (try clear hcz21_2); (try clear hcz21_3); (try clear hcz21_4); (try clear hcz8_0)
       (try clear hcz8_1); (try clear hcz8_2); (try clear hfz12_0); (try clear hfz12_1); (try clear hfz12_2); (try clear hfz18_0); (try clear hfz18_1); (try clear hfz18_2); (try clear hfz21_0); (try clear hfz21_1)
       (try clear hfz21_2); (try clear hfz21_3); (try clear hfz21_4); (try clear hfz8_0); (try clear hfz8_1); (try clear hfz8_2); (try clear hx284_0); (try clear hx284_1); (try clear hx284_2); (try clear hx284_3)
       (try clear hx284_4); (try clear p2); (try clear p284); (try clear q284); obtain ⟨kq, x29_16, rfl, HA, HJ16, BK281, BK285, HB⟩ := hcut
       cases kq with
       | zero => exact absurd HA.out (by simp [falseworkref18_State.j1])
       | succ kj16 =>
        have H := HA.out; clear HA; simp only [falseworkref18_State.j1] at H
        by_cases c23 : x29_16 = true
        ·subst c23
         have H1 : ((falseworkref18_index.f kj16 ((rd_T70 l0_1 t282).f0) ((rd_T70 l0_1 t282).f1) ((rd_T70 l0_1 t282).f2) ((rd_T70 l0_1 t282).f3) ((rd_T70 l0_1 t282).f4) a3).bind fun t286 => (if t286 ≥ 0 then (if 0 ≤ t286 then (if t286 < (((rd_T70 l0_1 t282).f3).length : Int) then (some ((rd_T98 ((rd_T70 l0_1 t282).f3) t286).f4)) else (none)) else (none)) else (some (-1)))) = some r := by rw [if_pos rfl] at H; exact H
         clear H; have H := H1; clear H1; replace H := Option.bind_eq_some_iff.mp H; obtain ⟨t286, A240, H⟩ := H
         replace H : (if t286 ≥ 0 then (if 0 ≤ t286 then (if t286 < (((rd_T70 l0_1 t282).f3).length : Int) then (some ((rd_T98 ((rd_T70 l0_1 t282).f3) t286).f4)) else (none)) else (none)) else (some (-1))) = some r := H
         have A24 := Aside0.mk A240; clear A240; by_cases c25 : t286 ≥ 0
         ·rw [if_pos c25] at H
          have c25b0 : decide (0 ≤ t286) = true := decide_eq_true c25
          clear c25; by_cases c26 : 0 ≤ t286
          ·rw [if_pos c26] at H
           have c26b0 : decide (0 ≤ t286) = true := decide_eq_true c26
           clear c26; by_cases c27 : t286 < (((rd_T70 l0_1 t282).f3).length : Int)
           ·rw [if_pos c27] at H
            have c27b0 : decide (t286 < (((rd_T70 l0_1 t282).f3).length : Int)) = true := decide_eq_true c27
            clear c27; obtain rfl := Option.some.inj H; have hnb28 := NB285_281.out; have hnc28 := NB281_285.out; have hcz29_0 : wc.cell? ⟨gb285, 0, none⟩ = some (.int .i64 ((rd_T70 l0_1 t282).f0)) := (Go.Proofs.YtjgomlcdmpcoaaaDoorW.PrintWords.blk_cell BK285.out 0).trans rfl
            have hcz29_1 : wc.cell? ⟨gb285, 1, none⟩ = some (.string ((rd_T70 l0_1 t282).f1)) := (Go.Proofs.YtjgomlcdmpcoaaaDoorW.PrintWords.blk_cell BK285.out 1).trans rfl
            have hcz29_2 : wc.cell? ⟨gb285, 2, none⟩ = some (.slice A284_2 ((rd_T70 l0_1 t282).f2).length c284_2) := (Go.Proofs.YtjgomlcdmpcoaaaDoorW.PrintWords.blk_cell BK285.out 2).trans rfl
            have hcz29_3 : wc.cell? ⟨gb285, 3, none⟩ = some (.slice A284_3 ((rd_T70 l0_1 t282).f3).length c284_3) := (Go.Proofs.YtjgomlcdmpcoaaaDoorW.PrintWords.blk_cell BK285.out 3).trans rfl
            have hcz29_4 : wc.cell? ⟨gb285, 4, none⟩ = some (.int .i64 ((rd_T70 l0_1 t282).f4)) := (Go.Proofs.YtjgomlcdmpcoaaaDoorW.PrintWords.blk_cell BK285.out 4).trans rfl
            have hfz29_0 := blk_frozen BK285.out 0
            have hfz29_1 := blk_frozen BK285.out 1
            have hfz29_2 := blk_frozen BK285.out 2
            have hfz29_3 := blk_frozen BK285.out 3
            have hfz29_4 := blk_frozen BK285.out 4
            go_wp2_with (first | ((with_reducible refine gate_callee (f := 66) rfl ?_); refine goesL_ (some 34) rfl rfl Tryd.func66 (by kernel_rfl) rfl #[.agg #[.int .i64 ((rd_T70 l0_1 t282).f0), .string ((rd_T70 l0_1 t282).f1), .slice A284_2 ((rd_T70 l0_1 t282).f2).length c284_2, .slice A284_3 ((rd_T70 l0_1 t282).f3).length c284_3, .int .i64 ((rd_T70 l0_1 t282).f4)], .int .i64 a3] rfl (by (try simp only [List.map_toArray, List.map_cons, List.map_nil]); first | done | rfl | (simp only [List.length_drop, List.length_take]; rfl)) ?_; (with_reducible refine (falseworkref18_index.calls kj16 ((rd_T70 l0_1 t282).f0) ((rd_T70 l0_1 t282).f1) _ _ ((rd_T70 l0_1 t282).f2) _ _ ((rd_T70 l0_1 t282).f3) ((rd_T70 l0_1 t282).f4) a3 t286 _ ?side1 ?side2 ?side3 ?side4 A24.out).mono ?_); (case side1 => repeat (first | exact (Kd.C_below HR284_2.out HB.out) | (with_reducible refine Kd.C_alloc ?_ _) | (with_reducible refine Kd.C_drewN ?_ _) | (with_reducible refine Kd.C_drew ?_))); (case side2 => exact HC284_2.out); (case side3 => repeat (first | exact (Kd.C_below HR284_3.out HB.out) | (with_reducible refine Kd.C_alloc ?_ _) | (with_reducible refine Kd.C_drewN ?_ _) | (with_reducible refine Kd.C_drew ?_))); (case side4 => exact HC284_3.out); rintro e w30 ⟨rfl, hb⟩; refine ⟨_, rfl, ?_⟩; have n0_ := Aside0.mk (blk_below (g := gb281) (o := .cells #[.int .i64 a0_0, .slice (some ad284) l0_1.length c0_1, .int .i64 a0_2] 28 (0, 0)) (by (with_reducible repeat (first | refine blk_drewN ?_ _ | refine blk_drew ?_ | refine blk_alloc ?_ _)); exact BK281.out) hb); have n1_ := Aside0.mk (blk_below (g := gb285) (o := .cells #[.int .i64 ((rd_T70 l0_1 t282).f0), .string ((rd_T70 l0_1 t282).f1), .slice A284_2 ((rd_T70 l0_1 t282).f2).length c284_2, .slice A284_3 ((rd_T70 l0_1 t282).f3).length c284_3, .int .i64 ((rd_T70 l0_1 t282).f4)] 70 (0, 0)) (by (with_reducible repeat (first | refine blk_drewN ?_ _ | refine blk_drew ?_ | refine blk_alloc ?_ _)); exact BK285.out) hb); have n2_ := Aside0.mk (below_step (by repeat (first | (with_reducible first | exact HB.out | apply below_alloc | apply pw_below_drewN | apply below_drew1 | refine below_set ?_ GE281.out | refine below_set ?_ GE285.out) | exact HB.out)) hb); clear BK281; clear BK285; clear HB; have BK281 := n0_; have BK285 := n1_; have HB := n2_; clear n0_ n1_ n2_; (try clear hb); (try clear hb2); (try clear hk); (try clear hi); have hcz31_0 : w30.cell? ⟨gb285, 0, none⟩ = some (.int .i64 ((rd_T70 l0_1 t282).f0)) := (Go.Proofs.YtjgomlcdmpcoaaaDoorW.PrintWords.blk_cell BK285.out 0).trans rfl; have hcz31_1 : w30.cell? ⟨gb285, 1, none⟩ = some (.string ((rd_T70 l0_1 t282).f1)) := (Go.Proofs.YtjgomlcdmpcoaaaDoorW.PrintWords.blk_cell BK285.out 1).trans rfl; have hcz31_2 : w30.cell? ⟨gb285, 2, none⟩ = some (.slice A284_2 ((rd_T70 l0_1 t282).f2).length c284_2) := (Go.Proofs.YtjgomlcdmpcoaaaDoorW.PrintWords.blk_cell BK285.out 2).trans rfl; have hcz31_3 : w30.cell? ⟨gb285, 3, none⟩ = some (.slice A284_3 ((rd_T70 l0_1 t282).f3).length c284_3) := (Go.Proofs.YtjgomlcdmpcoaaaDoorW.PrintWords.blk_cell BK285.out 3).trans rfl; have hcz31_4 : w30.cell? ⟨gb285, 4, none⟩ = some (.int .i64 ((rd_T70 l0_1 t282).f4)) := (Go.Proofs.YtjgomlcdmpcoaaaDoorW.PrintWords.blk_cell BK285.out 4).trans rfl; have hfz31_0 := blk_frozen BK285.out 0; have hfz31_1 := blk_frozen BK285.out 1; have hfz31_2 := blk_frozen BK285.out 2; have hfz31_3 := blk_frozen BK285.out 3; have hfz31_4 := blk_frozen BK285.out 4; have p287 : 0 ≤ (t286 : Int) := of_decide_eq_true (by first | (with_reducible assumption) | assumption); have q287 : t286 < (((rd_T70 l0_1 t282).f3).length : Int) := of_decide_eq_true (by first | (with_reducible assumption) | assumption); obtain ⟨ad287, A287_2, c287_2, e287, hx287_0, hx287_1, hx287_2, hx287_3, hx287_4, hl287_2, hi287_2⟩ := at_T98 HR284_3.out t286 p287 q287; cases e287; replace hx287_0 := (HB.out.cell (World.block_lt_of_cell? w _ hx287_0)).trans hx287_0; replace hx287_1 := (HB.out.cell (World.block_lt_of_cell? w _ hx287_1)).trans hx287_1; replace hx287_2 := (HB.out.cell (World.block_lt_of_cell? w _ hx287_2)).trans hx287_2; replace hx287_3 := (HB.out.cell (World.block_lt_of_cell? w _ hx287_3)).trans hx287_3; replace hx287_4 := (HB.out.cell (World.block_lt_of_cell? w _ hx287_4)).trans hx287_4; have HR287_2 := Aside0.mk hi287_2; have HC287_2 := Aside0.mk hl287_2; clear hi287_2 hl287_2; replace p287 := eq_true p287; replace q287 := eq_true q287))
            go_ret; exact ⟨by first | rfl | (simp [errW_none, errW_some] <;> rfl) | (simp [*, errW_none, errW_some] <;> rfl), by repeat (first | (with_reducible first | exact HB.out | apply below_alloc | apply pw_below_drewN | apply below_drew1 | refine below_set ?_ GE281.out | refine below_set ?_ GE285.out) | exact HB.out)⟩
           ·rw [if_neg c27] at H
            exact absurd H (by simp)
          ·rw [if_neg c26] at H
           exact absurd H (by simp)
         ·rw [if_neg c25] at H
          have c25b0 : decide (0 ≤ t286) = false := decide_eq_false c25
          clear c25; obtain rfl := Option.some.inj H; have hnb32 := NB285_281.out; have hnc32 := NB281_285.out; have hcz33_0 : wc.cell? ⟨gb285, 0, none⟩ = some (.int .i64 ((rd_T70 l0_1 t282).f0)) := (Go.Proofs.YtjgomlcdmpcoaaaDoorW.PrintWords.blk_cell BK285.out 0).trans rfl
          have hcz33_1 : wc.cell? ⟨gb285, 1, none⟩ = some (.string ((rd_T70 l0_1 t282).f1)) := (Go.Proofs.YtjgomlcdmpcoaaaDoorW.PrintWords.blk_cell BK285.out 1).trans rfl
          have hcz33_2 : wc.cell? ⟨gb285, 2, none⟩ = some (.slice A284_2 ((rd_T70 l0_1 t282).f2).length c284_2) := (Go.Proofs.YtjgomlcdmpcoaaaDoorW.PrintWords.blk_cell BK285.out 2).trans rfl
          have hcz33_3 : wc.cell? ⟨gb285, 3, none⟩ = some (.slice A284_3 ((rd_T70 l0_1 t282).f3).length c284_3) := (Go.Proofs.YtjgomlcdmpcoaaaDoorW.PrintWords.blk_cell BK285.out 3).trans rfl
          have hcz33_4 : wc.cell? ⟨gb285, 4, none⟩ = some (.int .i64 ((rd_T70 l0_1 t282).f4)) := (Go.Proofs.YtjgomlcdmpcoaaaDoorW.PrintWords.blk_cell BK285.out 4).trans rfl
          have hfz33_0 := blk_frozen BK285.out 0
          have hfz33_1 := blk_frozen BK285.out 1
          have hfz33_2 := blk_frozen BK285.out 2
          have hfz33_3 := blk_frozen BK285.out 3
          have hfz33_4 := blk_frozen BK285.out 4
          go_wp2_with (first | ((with_reducible refine gate_callee (f := 66) rfl ?_); refine goesL_ (some 34) rfl rfl Tryd.func66 (by kernel_rfl) rfl #[.agg #[.int .i64 ((rd_T70 l0_1 t282).f0), .string ((rd_T70 l0_1 t282).f1), .slice A284_2 ((rd_T70 l0_1 t282).f2).length c284_2, .slice A284_3 ((rd_T70 l0_1 t282).f3).length c284_3, .int .i64 ((rd_T70 l0_1 t282).f4)], .int .i64 a3] rfl (by (try simp only [List.map_toArray, List.map_cons, List.map_nil]); first | done | rfl | (simp only [List.length_drop, List.length_take]; rfl)) ?_; (with_reducible refine (falseworkref18_index.calls kj16 ((rd_T70 l0_1 t282).f0) ((rd_T70 l0_1 t282).f1) _ _ ((rd_T70 l0_1 t282).f2) _ _ ((rd_T70 l0_1 t282).f3) ((rd_T70 l0_1 t282).f4) a3 t286 _ ?side1 ?side2 ?side3 ?side4 A24.out).mono ?_); (case side1 => repeat (first | exact (Kd.C_below HR284_2.out HB.out) | (with_reducible refine Kd.C_alloc ?_ _) | (with_reducible refine Kd.C_drewN ?_ _) | (with_reducible refine Kd.C_drew ?_))); (case side2 => exact HC284_2.out); (case side3 => repeat (first | exact (Kd.C_below HR284_3.out HB.out) | (with_reducible refine Kd.C_alloc ?_ _) | (with_reducible refine Kd.C_drewN ?_ _) | (with_reducible refine Kd.C_drew ?_))); (case side4 => exact HC284_3.out); rintro e w34 ⟨rfl, hb⟩; refine ⟨_, rfl, ?_⟩; have n0_ := Aside0.mk (blk_below (g := gb281) (o := .cells #[.int .i64 a0_0, .slice (some ad284) l0_1.length c0_1, .int .i64 a0_2] 28 (0, 0)) (by (with_reducible repeat (first | refine blk_drewN ?_ _ | refine blk_drew ?_ | refine blk_alloc ?_ _)); exact BK281.out) hb); have n1_ := Aside0.mk (blk_below (g := gb285) (o := .cells #[.int .i64 ((rd_T70 l0_1 t282).f0), .string ((rd_T70 l0_1 t282).f1), .slice A284_2 ((rd_T70 l0_1 t282).f2).length c284_2, .slice A284_3 ((rd_T70 l0_1 t282).f3).length c284_3, .int .i64 ((rd_T70 l0_1 t282).f4)] 70 (0, 0)) (by (with_reducible repeat (first | refine blk_drewN ?_ _ | refine blk_drew ?_ | refine blk_alloc ?_ _)); exact BK285.out) hb); have n2_ := Aside0.mk (below_step (by repeat (first | (with_reducible first | exact HB.out | apply below_alloc | apply pw_below_drewN | apply below_drew1 | refine below_set ?_ GE281.out | refine below_set ?_ GE285.out) | exact HB.out)) hb); clear BK281; clear BK285; clear HB; have BK281 := n0_; have BK285 := n1_; have HB := n2_; clear n0_ n1_ n2_; (try clear hb); (try clear hb2); (try clear hk); (try clear hi)))
          go_ret; exact ⟨by first | rfl | (simp [errW_none, errW_some] <;> rfl) | (simp [*, errW_none, errW_some] <;> rfl), by repeat (first | (with_reducible first | exact HB.out | apply below_alloc | apply pw_below_drewN | apply below_drew1 | refine below_set ?_ GE281.out | refine below_set ?_ GE285.out) | exact HB.out)⟩
        ·replace c23 := Bool.eq_false_iff.mpr c23
         subst c23; have H1 : (if a1 = 8 then (falseworkref18_State.j2 kj16 a1 a3 (a1 == 8) ((rd_T70 l0_1 t282).f0) ((rd_T70 l0_1 t282).f1) ((rd_T70 l0_1 t282).f2) ((rd_T70 l0_1 t282).f3) ((rd_T70 l0_1 t282).f4)) else (if a1 = 9 then (falseworkref18_State.j2 kj16 a1 a3 (a1 == 9) ((rd_T70 l0_1 t282).f0) ((rd_T70 l0_1 t282).f1) ((rd_T70 l0_1 t282).f2) ((rd_T70 l0_1 t282).f3) ((rd_T70 l0_1 t282).f4)) else (if a1 = 10 then (falseworkref18_State.j2 kj16 a1 a3 (a1 == 10) ((rd_T70 l0_1 t282).f0) ((rd_T70 l0_1 t282).f1) ((rd_T70 l0_1 t282).f2) ((rd_T70 l0_1 t282).f3) ((rd_T70 l0_1 t282).f4)) else (falseworkref18_State.j2 kj16 a1 a3 (a1 == 11) ((rd_T70 l0_1 t282).f0) ((rd_T70 l0_1 t282).f1) ((rd_T70 l0_1 t282).f2) ((rd_T70 l0_1 t282).f3) ((rd_T70 l0_1 t282).f4))))) = some r := by rw [if_neg (show ¬ (false = true) by decide)] at H; exact H
         clear H; have H := H1; clear H1; have HC35 := Aside0.mk H; clear H; go_upto_if 43 with (fail)
         go_cut [43] (fun v43 wc => ∃ (kq : Nat) (x43_34 : Bool), v43 = .bool x43_34 ∧ Aside0 (falseworkref18_State.j2 kq a1 a3 x43_34 ((rd_T70 l0_1 t282).f0) ((rd_T70 l0_1 t282).f1) ((rd_T70 l0_1 t282).f2) ((rd_T70 l0_1 t282).f3) ((rd_T70 l0_1 t282).f4) = some r) ∧ Aside0 (kq ≤ kj16) ∧ Aside0 (wc.heap[gb281]? = some (.cells #[.int .i64 a0_0, (.slice (some ad284) l0_1.length c0_1), .int .i64 a0_2] 28 (0, 0))) ∧ Aside0 (wc.heap[gb285]? = some (.cells #[.int .i64 ((rd_T70 l0_1 t282).f0), .string ((rd_T70 l0_1 t282).f1), (.slice A284_2 ((rd_T70 l0_1 t282).f2).length c284_2), (.slice A284_3 ((rd_T70 l0_1 t282).f3).length c284_3), .int .i64 ((rd_T70 l0_1 t282).f4)] 70 (0, 0))) ∧ Aside0 (Below w.heap.size w wc))
         case first =>
          have H := HC35.out; clear HC35; by_cases c36 : a1 = 8
          ·rw [if_pos c36] at H
           have c36b0 : (a1 == 8) = true := beq_iff_eq.mpr c36
           have c36b1 : (a1 != 8) = false := bne_eq_false_iff_eq.mpr c36
           clear c36
           (first | rw [c36b0] | (simp only [i64_w, i32_w]; rw [c36b0]) | skip)
           have H' := Aside0.mk H; clear H; go_wp2; go_meet
           case rel => exact ⟨_, ((a1 == 8)), (by first | rfl | (simp; done) | (simp [*]; done)), H', ⟨by have := HJ5.out; have := HJ16.out; first | omega | exact Nat.le_refl _⟩, ⟨by (with_reducible repeat (first | refine blk_drewN ?_ _ | refine blk_drew ?_ | refine blk_alloc ?_ _)); exact BK281.out⟩, ⟨by (with_reducible repeat (first | refine blk_drewN ?_ _ | refine blk_drew ?_ | refine blk_alloc ?_ _)); exact BK285.out⟩, ⟨by repeat (first | (with_reducible first | exact HB.out | apply below_alloc | apply pw_below_drewN | apply below_drew1 | refine below_set ?_ GE281.out | refine below_set ?_ GE285.out) | exact HB.out)⟩⟩
          ·rw [if_neg c36] at H
           have c36b0 : (a1 == 8) = false := beq_eq_false_iff_ne.mpr c36
           have c36b1 : (a1 != 8) = true := bne_iff_ne.mpr c36
           (first | rw [c36b0] | (simp only [i64_w, i32_w]; rw [c36b0]) | skip)
           by_cases c37 : a1 = 9
           ·rw [if_pos c37] at H
            have c37b0 : (a1 == 9) = true := beq_iff_eq.mpr c37
            have c37b1 : (a1 != 9) = false := bne_eq_false_iff_eq.mpr c37
            clear c37; have H' := Aside0.mk H; clear H; go_wp2; go_meet
            case rel => exact ⟨_, ((a1 == 9)), (by first | rfl | (simp; done) | (simp [*]; done)), H', ⟨by have := HJ5.out; have := HJ16.out; first | omega | exact Nat.le_refl _⟩, ⟨by (with_reducible repeat (first | refine blk_drewN ?_ _ | refine blk_drew ?_ | refine blk_alloc ?_ _)); exact BK281.out⟩, ⟨by (with_reducible repeat (first | refine blk_drewN ?_ _ | refine blk_drew ?_ | refine blk_alloc ?_ _)); exact BK285.out⟩, ⟨by repeat (first | (with_reducible first | exact HB.out | apply below_alloc | apply pw_below_drewN | apply below_drew1 | refine below_set ?_ GE281.out | refine below_set ?_ GE285.out) | exact HB.out)⟩⟩
           ·rw [if_neg c37] at H
            have c37b0 : (a1 == 9) = false := beq_eq_false_iff_ne.mpr c37
            have c37b1 : (a1 != 9) = true := bne_iff_ne.mpr c37
            by_cases c38 : a1 = 10
            ·rw [if_pos c38] at H
             have c38b0 : (a1 == 10) = true := beq_iff_eq.mpr c38
             have c38b1 : (a1 != 10) = false := bne_eq_false_iff_eq.mpr c38
             clear c38; have H' := Aside0.mk H; clear H; go_wp2; go_meet
             case rel => exact ⟨_, ((a1 == 10)), (by first | rfl | (simp; done) | (simp [*]; done)), H', ⟨by have := HJ5.out; have := HJ16.out; first | omega | exact Nat.le_refl _⟩, ⟨by (with_reducible repeat (first | refine blk_drewN ?_ _ | refine blk_drew ?_ | refine blk_alloc ?_ _)); exact BK281.out⟩, ⟨by (with_reducible repeat (first | refine blk_drewN ?_ _ | refine blk_drew ?_ | refine blk_alloc ?_ _)); exact BK285.out⟩, ⟨by repeat (first | (with_reducible first | exact HB.out | apply below_alloc | apply pw_below_drewN | apply below_drew1 | refine below_set ?_ GE281.out | refine below_set ?_ GE285.out) | exact HB.out)⟩⟩
            ·rw [if_neg c38] at H
             have c38b0 : (a1 == 10) = false := beq_eq_false_iff_ne.mpr c38
             have c38b1 : (a1 != 10) = true := bne_iff_ne.mpr c38
             have H' := Aside0.mk H; clear H; go_wp2; go_meet
             case rel => exact ⟨_, ((a1 == 11)), (by first | rfl | (simp; done) | (simp [*]; done)), H', ⟨by have := HJ5.out; have := HJ16.out; first | omega | exact Nat.le_refl _⟩, ⟨by (with_reducible repeat (first | refine blk_drewN ?_ _ | refine blk_drew ?_ | refine blk_alloc ?_ _)); exact BK281.out⟩, ⟨by (with_reducible repeat (first | refine blk_drewN ?_ _ | refine blk_drew ?_ | refine blk_alloc ?_ _)); exact BK285.out⟩, ⟨by repeat (first | (with_reducible first | exact HB.out | apply below_alloc | apply pw_below_drewN | apply below_drew1 | refine below_set ?_ GE281.out | refine below_set ?_ GE285.out) | exact HB.out)⟩⟩
         case rest =>
          clear HC35; (try clear c1); (try clear c2); (try clear p2); (try clear q2); (try clear hx2); (try clear c3); (try clear c6); (try clear c10); (try clear c10b0); (try clear c14); (try clear c15)
          (try clear c15b0); (try clear c16); (try clear c16b0); (try clear c20); (try clear c22); (try clear c22b0); (try clear c22b1); (try clear c23); (try clear c25); (try clear c25b0); (try clear c26)
          (try clear c26b0); (try clear c27); (try clear c27b0); (try clear c28); (try clear p28); (try clear q28); (try clear hx28); (try clear c31); (try clear c32); (try clear c36); (try clear c36b0)
          (try clear c36b1); (try clear c37); (try clear c37b0); (try clear c37b1); (try clear c38); (try clear c38b0); (try clear c38b1); (try clear hcz12_0); (try clear hcz12_1); (try clear hcz12_2)
          (try clear hcz18_0); (try clear hcz18_1); (try clear hcz18_2); (try clear hcz21_0); (try clear hcz21_1); (try clear hcz21_2); (try clear hcz21_3); (try clear hcz21_4); (try clear hcz29_0)
          (try clear hcz29_1); (try clear hcz29_2); (try clear hcz29_3); (try clear hcz29_4); (try clear hcz31_0); (try clear hcz31_1); (try clear hcz31_2); (try clear hcz31_3); (try clear hcz31_4)
          (try clear hcz33_0); (try clear hcz33_1); (try clear hcz33_2); (try clear hcz33_3); (try clear hcz33_4); (try clear hcz8_0); (try clear hcz8_1); (try clear hcz8_2); (try clear hfz12_0)
          (try clear hfz12_1); (try clear hfz12_2); (try clear hfz18_0); (try clear hfz18_1); (try clear hfz18_2); (try clear hfz21_0); (try clear hfz21_1); (try clear hfz21_2); (try clear hfz21_3)
          (try clear hfz21_4); (try clear hfz29_0); (try clear hfz29_1); (try clear hfz29_2); (try clear hfz29_3); (try clear hfz29_4); (try clear hfz31_0); (try clear hfz31_1); (try clear hfz31_2)
          (try clear hfz31_3); (try clear hfz31_4); (try clear hfz33_0); (try clear hfz33_1); (try clear hfz33_2); (try clear hfz33_3); (try clear hfz33_4); (try clear hfz8_0); (try clear hfz8_1)
          (try clear hfz8_2); (try clear hx284_0); (try clear hx284_1); (try clear hx284_2); (try clear hx284_3); (try clear hx284_4); (try clear hx287_0); (try clear hx287_1); (try clear hx287_2)
          (try clear hx287_3); (try clear hx287_4); (try clear p2); (try clear p284); (try clear p287); (try clear q2); (try clear q284); (try clear q287); obtain ⟨kq, x43_34, rfl, HA, HJ34, BK281, BK285, HB⟩ := hcut
          cases kq with
          | zero => exact absurd HA.out (by simp [falseworkref18_State.j2])
          | succ kj34 =>
           have H := HA.out; clear HA; simp only [falseworkref18_State.j2] at H
           by_cases c39 : x43_34 = true
           ·subst c39
            have H1 : ((falseworkref18_column.f kj34 ((rd_T70 l0_1 t282).f0) ((rd_T70 l0_1 t282).f1) ((rd_T70 l0_1 t282).f2) ((rd_T70 l0_1 t282).f3) ((rd_T70 l0_1 t282).f4) a3).bind fun t288 => (if t288 ≥ 0 then (falseworkref18_State.j3 kj34 t288 (decide (a1 < 10)) ((rd_T70 l0_1 t282).f0) ((rd_T70 l0_1 t282).f1) ((rd_T70 l0_1 t282).f2) ((rd_T70 l0_1 t282).f3) ((rd_T70 l0_1 t282).f4)) else (falseworkref18_State.j3 kj34 t288 false ((rd_T70 l0_1 t282).f0) ((rd_T70 l0_1 t282).f1) ((rd_T70 l0_1 t282).f2) ((rd_T70 l0_1 t282).f3) ((rd_T70 l0_1 t282).f4)))) = some r := by rw [if_pos rfl] at H; exact H
            clear H; have H := H1; clear H1; replace H := Option.bind_eq_some_iff.mp H; obtain ⟨t288, A400, H⟩ := H
            replace H : (if t288 ≥ 0 then (falseworkref18_State.j3 kj34 t288 (decide (a1 < 10)) ((rd_T70 l0_1 t282).f0) ((rd_T70 l0_1 t282).f1) ((rd_T70 l0_1 t282).f2) ((rd_T70 l0_1 t282).f3) ((rd_T70 l0_1 t282).f4)) else (falseworkref18_State.j3 kj34 t288 false ((rd_T70 l0_1 t282).f0) ((rd_T70 l0_1 t282).f1) ((rd_T70 l0_1 t282).f2) ((rd_T70 l0_1 t282).f3) ((rd_T70 l0_1 t282).f4))) = some r := H
            have A40 := Aside0.mk A400; clear A400; have HC41 := Aside0.mk H; clear H; have hnb42 := NB285_281.out; have hnc42 := NB281_285.out; have hcz43_0 : wc.cell? ⟨gb285, 0, none⟩ = some (.int .i64 ((rd_T70 l0_1 t282).f0)) := (Go.Proofs.YtjgomlcdmpcoaaaDoorW.PrintWords.blk_cell BK285.out 0).trans rfl
            have hcz43_1 : wc.cell? ⟨gb285, 1, none⟩ = some (.string ((rd_T70 l0_1 t282).f1)) := (Go.Proofs.YtjgomlcdmpcoaaaDoorW.PrintWords.blk_cell BK285.out 1).trans rfl
            have hcz43_2 : wc.cell? ⟨gb285, 2, none⟩ = some (.slice A284_2 ((rd_T70 l0_1 t282).f2).length c284_2) := (Go.Proofs.YtjgomlcdmpcoaaaDoorW.PrintWords.blk_cell BK285.out 2).trans rfl
            have hcz43_3 : wc.cell? ⟨gb285, 3, none⟩ = some (.slice A284_3 ((rd_T70 l0_1 t282).f3).length c284_3) := (Go.Proofs.YtjgomlcdmpcoaaaDoorW.PrintWords.blk_cell BK285.out 3).trans rfl
            have hcz43_4 : wc.cell? ⟨gb285, 4, none⟩ = some (.int .i64 ((rd_T70 l0_1 t282).f4)) := (Go.Proofs.YtjgomlcdmpcoaaaDoorW.PrintWords.blk_cell BK285.out 4).trans rfl
            have hfz43_0 := blk_frozen BK285.out 0
            have hfz43_1 := blk_frozen BK285.out 1
            have hfz43_2 := blk_frozen BK285.out 2
            have hfz43_3 := blk_frozen BK285.out 3
            have hfz43_4 := blk_frozen BK285.out 4
            go_upto_region 16 with (first | ((with_reducible refine gate_callee (f := 67) rfl ?_); refine goesL_ (some 50) rfl rfl Tryd.func67 (by kernel_rfl) rfl #[.agg #[.int .i64 ((rd_T70 l0_1 t282).f0), .string ((rd_T70 l0_1 t282).f1), .slice A284_2 ((rd_T70 l0_1 t282).f2).length c284_2, .slice A284_3 ((rd_T70 l0_1 t282).f3).length c284_3, .int .i64 ((rd_T70 l0_1 t282).f4)], .int .i64 a3] rfl (by (try simp only [List.map_toArray, List.map_cons, List.map_nil]); first | done | rfl | (simp only [List.length_drop, List.length_take]; rfl)) ?_; (with_reducible refine (falseworkref18_column.calls kj34 ((rd_T70 l0_1 t282).f0) ((rd_T70 l0_1 t282).f1) _ _ ((rd_T70 l0_1 t282).f2) _ _ ((rd_T70 l0_1 t282).f3) ((rd_T70 l0_1 t282).f4) a3 t288 _ ?side1 ?side2 ?side3 ?side4 A40.out).mono ?_); (case side1 => repeat (first | exact (Kd.C_below HR284_2.out HB.out) | (with_reducible refine Kd.C_alloc ?_ _) | (with_reducible refine Kd.C_drewN ?_ _) | (with_reducible refine Kd.C_drew ?_))); (case side2 => exact HC284_2.out); (case side3 => repeat (first | exact (Kd.C_below HR284_3.out HB.out) | (with_reducible refine Kd.C_alloc ?_ _) | (with_reducible refine Kd.C_drewN ?_ _) | (with_reducible refine Kd.C_drew ?_))); (case side4 => exact HC284_3.out); rintro e w44 ⟨rfl, hb⟩; refine ⟨_, rfl, ?_⟩; have n0_ := Aside0.mk (blk_below (g := gb281) (o := .cells #[.int .i64 a0_0, .slice (some ad284) l0_1.length c0_1, .int .i64 a0_2] 28 (0, 0)) (by (with_reducible repeat (first | refine blk_drewN ?_ _ | refine blk_drew ?_ | refine blk_alloc ?_ _)); exact BK281.out) hb); have n1_ := Aside0.mk (blk_below (g := gb285) (o := .cells #[.int .i64 ((rd_T70 l0_1 t282).f0), .string ((rd_T70 l0_1 t282).f1), .slice A284_2 ((rd_T70 l0_1 t282).f2).length c284_2, .slice A284_3 ((rd_T70 l0_1 t282).f3).length c284_3, .int .i64 ((rd_T70 l0_1 t282).f4)] 70 (0, 0)) (by (with_reducible repeat (first | refine blk_drewN ?_ _ | refine blk_drew ?_ | refine blk_alloc ?_ _)); exact BK285.out) hb); have n2_ := Aside0.mk (below_step (by repeat (first | (with_reducible first | exact HB.out | apply below_alloc | apply pw_below_drewN | apply below_drew1 | refine below_set ?_ GE281.out | refine below_set ?_ GE285.out) | exact HB.out)) hb); clear BK281; clear BK285; clear HB; have BK281 := n0_; have BK285 := n1_; have HB := n2_; clear n0_ n1_ n2_; (try clear hb); (try clear hb2); (try clear hk); (try clear hi)))
            (try simp only [Act.put, List.setIfInBounds_toArray, List.set_cons_zero, List.set_cons_succ])
            go_cut [56] (fun v56 wc => ∃ (kq : Nat) (x56_40 : Bool), v56 = .bool x56_40 ∧ Aside0 (falseworkref18_State.j3 kq t288 x56_40 ((rd_T70 l0_1 t282).f0) ((rd_T70 l0_1 t282).f1) ((rd_T70 l0_1 t282).f2) ((rd_T70 l0_1 t282).f3) ((rd_T70 l0_1 t282).f4) = some r) ∧ Aside0 (kq ≤ kj34) ∧ Aside0 (wc.heap[gb281]? = some (.cells #[.int .i64 a0_0, (.slice (some ad284) l0_1.length c0_1), .int .i64 a0_2] 28 (0, 0))) ∧ Aside0 (wc.heap[gb285]? = some (.cells #[.int .i64 ((rd_T70 l0_1 t282).f0), .string ((rd_T70 l0_1 t282).f1), (.slice A284_2 ((rd_T70 l0_1 t282).f2).length c284_2), (.slice A284_3 ((rd_T70 l0_1 t282).f3).length c284_3), .int .i64 ((rd_T70 l0_1 t282).f4)] 70 (0, 0))) ∧ Aside0 (Below w.heap.size w wc))
            case first =>
             have H := HC41.out; clear HC41; by_cases c45 : t288 ≥ 0
             ·rw [if_pos c45] at H
              have c45b0 : decide (0 ≤ t288) = true := decide_eq_true c45
              clear c45
              (first | rw [c45b0] | (simp only [i64_w, i32_w]; rw [c45b0]) | skip)
              have H' := Aside0.mk H; clear H; go_wp2; go_meet
              case rel => exact ⟨_, (decide (a1 < 10)), (by first | rfl | (simp; done) | (simp [*]; done)), H', ⟨by have := HJ5.out; have := HJ16.out; have := HJ34.out; first | omega | exact Nat.le_refl _⟩, ⟨by (with_reducible repeat (first | refine blk_drewN ?_ _ | refine blk_drew ?_ | refine blk_alloc ?_ _)); exact BK281.out⟩, ⟨by (with_reducible repeat (first | refine blk_drewN ?_ _ | refine blk_drew ?_ | refine blk_alloc ?_ _)); exact BK285.out⟩, ⟨by repeat (first | (with_reducible first | exact HB.out | apply below_alloc | apply pw_below_drewN | apply below_drew1 | refine below_set ?_ GE281.out | refine below_set ?_ GE285.out) | exact HB.out)⟩⟩
             ·rw [if_neg c45] at H
              have c45b0 : decide (0 ≤ t288) = false := decide_eq_false c45
              clear c45
              (first | rw [c45b0] | (simp only [i64_w, i32_w]; rw [c45b0]) | skip)
              have H' := Aside0.mk H; clear H; go_wp2; go_meet
              case rel => exact ⟨_, (false), (by first | rfl | (simp; done) | (simp [*]; done)), H', ⟨by have := HJ5.out; have := HJ16.out; have := HJ34.out; first | omega | exact Nat.le_refl _⟩, ⟨by (with_reducible repeat (first | refine blk_drewN ?_ _ | refine blk_drew ?_ | refine blk_alloc ?_ _)); exact BK281.out⟩, ⟨by (with_reducible repeat (first | refine blk_drewN ?_ _ | refine blk_drew ?_ | refine blk_alloc ?_ _)); exact BK285.out⟩, ⟨by repeat (first | (with_reducible first | exact HB.out | apply below_alloc | apply pw_below_drewN | apply below_drew1 | refine below_set ?_ GE281.out | refine below_set ?_ GE285.out) | exact HB.out)⟩⟩
            case rest =>
             clear HC41; (try clear c1); (try clear c2); (try clear p2); (try clear q2); (try clear hx2); (try clear c3); (try clear c4); (try clear c6); (try clear c10); (try clear c10b0)
             (try clear c14); (try clear c15); (try clear c15b0); (try clear c16); (try clear c16b0); (try clear c20); (try clear c22); (try clear c22b0); (try clear c22b1); (try clear c23)
             (try clear c25); (try clear c25b0); (try clear c26); (try clear c26b0); (try clear c27); (try clear c27b0); (try clear c28); (try clear p28); (try clear q28); (try clear hx28)
             (try clear c31); (try clear c32); (try clear c36); (try clear c36b0); (try clear c36b1); (try clear c37); (try clear c37b0); (try clear c37b1); (try clear c38); (try clear c38b0)
             (try clear c38b1); (try clear c39); (try clear c42); (try clear c45); (try clear c45b0); (try clear hcz12_0); (try clear hcz12_1); (try clear hcz12_2); (try clear hcz18_0); (try clear hcz18_1)
             (try clear hcz18_2); (try clear hcz21_0); (try clear hcz21_1); (try clear hcz21_2); (try clear hcz21_3); (try clear hcz21_4); (try clear hcz29_0); (try clear hcz29_1); (try clear hcz29_2)
             (try clear hcz29_3); (try clear hcz29_4); (try clear hcz31_0); (try clear hcz31_1); (try clear hcz31_2); (try clear hcz31_3); (try clear hcz31_4); (try clear hcz33_0); (try clear hcz33_1)
             (try clear hcz33_2); (try clear hcz33_3); (try clear hcz33_4); (try clear hcz43_0); (try clear hcz43_1); (try clear hcz43_2); (try clear hcz43_3); (try clear hcz43_4); (try clear hcz8_0)
             (try clear hcz8_1); (try clear hcz8_2); (try clear hfz12_0); (try clear hfz12_1); (try clear hfz12_2); (try clear hfz18_0); (try clear hfz18_1); (try clear hfz18_2); (try clear hfz21_0)
             (try clear hfz21_1); (try clear hfz21_2); (try clear hfz21_3); (try clear hfz21_4); (try clear hfz29_0); (try clear hfz29_1); (try clear hfz29_2); (try clear hfz29_3); (try clear hfz29_4)
             (try clear hfz31_0); (try clear hfz31_1); (try clear hfz31_2); (try clear hfz31_3); (try clear hfz31_4); (try clear hfz33_0); (try clear hfz33_1); (try clear hfz33_2); (try clear hfz33_3)
             (try clear hfz33_4); (try clear hfz43_0); (try clear hfz43_1); (try clear hfz43_2); (try clear hfz43_3); (try clear hfz43_4); (try clear hfz8_0); (try clear hfz8_1); (try clear hfz8_2)
             (try clear hx284_0); (try clear hx284_1); (try clear hx284_2); (try clear hx284_3); (try clear hx284_4); (try clear hx287_0); (try clear hx287_1); (try clear hx287_2); (try clear hx287_3)
             (try clear hx287_4); (try clear p2); (try clear p28); (try clear p284); (try clear p287); (try clear q2); (try clear q28); (try clear q284); (try clear q287); obtain ⟨kq, x56_40, rfl, HA, HJ40, BK281, BK285, HB⟩ := hcut
             cases kq with
             | zero => exact absurd HA.out (by simp [falseworkref18_State.j3])
             | succ kj40 =>
              have H := HA.out; clear HA; simp only [falseworkref18_State.j3] at H
              by_cases c46 : x56_40 = true
              ·subst c46
               have H1 : (if 0 ≤ t288 then (if t288 < (((rd_T70 l0_1 t282).f2).length : Int) then (some ((rd_T75 ((rd_T70 l0_1 t282).f2) t288).f3)) else (none)) else (none)) = some r := by rw [if_pos rfl] at H; exact H
               clear H; have H := H1; clear H1; by_cases c47 : 0 ≤ t288
               ·rw [if_pos c47] at H
                have c47b0 : decide (0 ≤ t288) = true := decide_eq_true c47
                clear c47; by_cases c48 : t288 < (((rd_T70 l0_1 t282).f2).length : Int)
                ·rw [if_pos c48] at H
                 have c48b0 : decide (t288 < (((rd_T70 l0_1 t282).f2).length : Int)) = true := decide_eq_true c48
                 clear c48; obtain rfl := Option.some.inj H; have hnb49 := NB285_281.out; have hnc49 := NB281_285.out; have hcz50_0 : wc.cell? ⟨gb285, 0, none⟩ = some (.int .i64 ((rd_T70 l0_1 t282).f0)) := (Go.Proofs.YtjgomlcdmpcoaaaDoorW.PrintWords.blk_cell BK285.out 0).trans rfl
                 have hcz50_1 : wc.cell? ⟨gb285, 1, none⟩ = some (.string ((rd_T70 l0_1 t282).f1)) := (Go.Proofs.YtjgomlcdmpcoaaaDoorW.PrintWords.blk_cell BK285.out 1).trans rfl
                 have hcz50_2 : wc.cell? ⟨gb285, 2, none⟩ = some (.slice A284_2 ((rd_T70 l0_1 t282).f2).length c284_2) := (Go.Proofs.YtjgomlcdmpcoaaaDoorW.PrintWords.blk_cell BK285.out 2).trans rfl
                 have hcz50_3 : wc.cell? ⟨gb285, 3, none⟩ = some (.slice A284_3 ((rd_T70 l0_1 t282).f3).length c284_3) := (Go.Proofs.YtjgomlcdmpcoaaaDoorW.PrintWords.blk_cell BK285.out 3).trans rfl
                 have hcz50_4 : wc.cell? ⟨gb285, 4, none⟩ = some (.int .i64 ((rd_T70 l0_1 t282).f4)) := (Go.Proofs.YtjgomlcdmpcoaaaDoorW.PrintWords.blk_cell BK285.out 4).trans rfl
                 have hfz50_0 := blk_frozen BK285.out 0
                 have hfz50_1 := blk_frozen BK285.out 1
                 have hfz50_2 := blk_frozen BK285.out 2
                 have hfz50_3 := blk_frozen BK285.out 3
                 have hfz50_4 := blk_frozen BK285.out 4
                 have p289 : 0 ≤ (t288 : Int) := of_decide_eq_true (by first | (with_reducible assumption) | assumption)
                 have q289 : t288 < (((rd_T70 l0_1 t282).f2).length : Int) := of_decide_eq_true (by first | (with_reducible assumption) | assumption)
                 obtain ⟨ad289, e289, hx289_0, hx289_1, hx289_2, hx289_3, hx289_4, hx289_5, hx289_6, hx289_7, hx289_8⟩ := at_T75 HR284_2.out t288 p289 q289
                 cases e289
                 replace hx289_0 := (HB.out.cell (World.block_lt_of_cell? w _ hx289_0)).trans hx289_0
                 replace hx289_1 := (HB.out.cell (World.block_lt_of_cell? w _ hx289_1)).trans hx289_1
                 replace hx289_2 := (HB.out.cell (World.block_lt_of_cell? w _ hx289_2)).trans hx289_2
                 replace hx289_3 := (HB.out.cell (World.block_lt_of_cell? w _ hx289_3)).trans hx289_3
                 replace hx289_4 := (HB.out.cell (World.block_lt_of_cell? w _ hx289_4)).trans hx289_4
                 replace hx289_5 := (HB.out.cell (World.block_lt_of_cell? w _ hx289_5)).trans hx289_5
                 replace hx289_6 := (HB.out.cell (World.block_lt_of_cell? w _ hx289_6)).trans hx289_6
                 replace hx289_7 := (HB.out.cell (World.block_lt_of_cell? w _ hx289_7)).trans hx289_7
                 replace hx289_8 := (HB.out.cell (World.block_lt_of_cell? w _ hx289_8)).trans hx289_8
                 replace p289 := eq_true p289
                 replace q289 := eq_true q289
                 go_wp2; go_ret; exact ⟨by first | rfl | (simp [errW_none, errW_some] <;> rfl) | (simp [*, errW_none, errW_some] <;> rfl), by repeat (first | (with_reducible first | exact HB.out | apply below_alloc | apply pw_below_drewN | apply below_drew1 | refine below_set ?_ GE281.out | refine below_set ?_ GE285.out) | exact HB.out)⟩
                ·rw [if_neg c48] at H
                 exact absurd H (by simp)
               ·rw [if_neg c47] at H
                exact absurd H (by simp)
              ·replace c46 := Bool.eq_false_iff.mpr c46
               subst c46; have H1 : (if t288 ≥ 0 then (if 0 ≤ t288 then (if t288 < (((rd_T70 l0_1 t282).f2).length : Int) then (some ((rd_T75 ((rd_T70 l0_1 t282).f2) t288).f4)) else (none)) else (none)) else (some (-1))) = some r := by rw [if_neg (show ¬ (false = true) by decide)] at H; exact H
               clear H; have H := H1; clear H1; by_cases c51 : t288 ≥ 0
               ·rw [if_pos c51] at H
                have c51b0 : decide (0 ≤ t288) = true := decide_eq_true c51
                clear c51; by_cases c52 : 0 ≤ t288
                ·rw [if_pos c52] at H
                 have c52b0 : decide (0 ≤ t288) = true := decide_eq_true c52
                 clear c52; by_cases c53 : t288 < (((rd_T70 l0_1 t282).f2).length : Int)
                 ·rw [if_pos c53] at H
                  have c53b0 : decide (t288 < (((rd_T70 l0_1 t282).f2).length : Int)) = true := decide_eq_true c53
                  clear c53; obtain rfl := Option.some.inj H; have hnb54 := NB285_281.out; have hnc54 := NB281_285.out; have hcz55_0 : wc.cell? ⟨gb285, 0, none⟩ = some (.int .i64 ((rd_T70 l0_1 t282).f0)) := (Go.Proofs.YtjgomlcdmpcoaaaDoorW.PrintWords.blk_cell BK285.out 0).trans rfl
                  have hcz55_1 : wc.cell? ⟨gb285, 1, none⟩ = some (.string ((rd_T70 l0_1 t282).f1)) := (Go.Proofs.YtjgomlcdmpcoaaaDoorW.PrintWords.blk_cell BK285.out 1).trans rfl
                  have hcz55_2 : wc.cell? ⟨gb285, 2, none⟩ = some (.slice A284_2 ((rd_T70 l0_1 t282).f2).length c284_2) := (Go.Proofs.YtjgomlcdmpcoaaaDoorW.PrintWords.blk_cell BK285.out 2).trans rfl
                  have hcz55_3 : wc.cell? ⟨gb285, 3, none⟩ = some (.slice A284_3 ((rd_T70 l0_1 t282).f3).length c284_3) := (Go.Proofs.YtjgomlcdmpcoaaaDoorW.PrintWords.blk_cell BK285.out 3).trans rfl
                  have hcz55_4 : wc.cell? ⟨gb285, 4, none⟩ = some (.int .i64 ((rd_T70 l0_1 t282).f4)) := (Go.Proofs.YtjgomlcdmpcoaaaDoorW.PrintWords.blk_cell BK285.out 4).trans rfl
                  have hfz55_0 := blk_frozen BK285.out 0
                  have hfz55_1 := blk_frozen BK285.out 1
                  have hfz55_2 := blk_frozen BK285.out 2
                  have hfz55_3 := blk_frozen BK285.out 3
                  have hfz55_4 := blk_frozen BK285.out 4
                  have p290 : 0 ≤ (t288 : Int) := of_decide_eq_true (by first | (with_reducible assumption) | assumption)
                  have q290 : t288 < (((rd_T70 l0_1 t282).f2).length : Int) := of_decide_eq_true (by first | (with_reducible assumption) | assumption)
                  obtain ⟨ad290, e290, hx290_0, hx290_1, hx290_2, hx290_3, hx290_4, hx290_5, hx290_6, hx290_7, hx290_8⟩ := at_T75 HR284_2.out t288 p290 q290
                  cases e290
                  replace hx290_0 := (HB.out.cell (World.block_lt_of_cell? w _ hx290_0)).trans hx290_0
                  replace hx290_1 := (HB.out.cell (World.block_lt_of_cell? w _ hx290_1)).trans hx290_1
                  replace hx290_2 := (HB.out.cell (World.block_lt_of_cell? w _ hx290_2)).trans hx290_2
                  replace hx290_3 := (HB.out.cell (World.block_lt_of_cell? w _ hx290_3)).trans hx290_3
                  replace hx290_4 := (HB.out.cell (World.block_lt_of_cell? w _ hx290_4)).trans hx290_4
                  replace hx290_5 := (HB.out.cell (World.block_lt_of_cell? w _ hx290_5)).trans hx290_5
                  replace hx290_6 := (HB.out.cell (World.block_lt_of_cell? w _ hx290_6)).trans hx290_6
                  replace hx290_7 := (HB.out.cell (World.block_lt_of_cell? w _ hx290_7)).trans hx290_7
                  replace hx290_8 := (HB.out.cell (World.block_lt_of_cell? w _ hx290_8)).trans hx290_8
                  replace p290 := eq_true p290
                  replace q290 := eq_true q290
                  go_wp2; go_ret; exact ⟨by first | rfl | (simp [errW_none, errW_some] <;> rfl) | (simp [*, errW_none, errW_some] <;> rfl), by repeat (first | (with_reducible first | exact HB.out | apply below_alloc | apply pw_below_drewN | apply below_drew1 | refine below_set ?_ GE281.out | refine below_set ?_ GE285.out) | exact HB.out)⟩
                 ·rw [if_neg c53] at H
                  exact absurd H (by simp)
                ·rw [if_neg c52] at H
                 exact absurd H (by simp)
               ·rw [if_neg c51] at H
                have c51b0 : decide (0 ≤ t288) = false := decide_eq_false c51
                clear c51; obtain rfl := Option.some.inj H; go_wp2; go_ret; exact ⟨by first | rfl | (simp [errW_none, errW_some] <;> rfl) | (simp [*, errW_none, errW_some] <;> rfl), by repeat (first | (with_reducible first | exact HB.out | apply below_alloc | apply pw_below_drewN | apply below_drew1 | refine below_set ?_ GE281.out | refine below_set ?_ GE285.out) | exact HB.out)⟩
           ·replace c39 := Bool.eq_false_iff.mpr c39
            subst c39; have H1 : (some (-1)) = some r := by rw [if_neg (show ¬ (false = true) by decide)] at H; exact H
            clear H; have H := H1; clear H1; obtain rfl := Option.some.inj H; go_wp2; go_ret; exact ⟨by first | rfl | (simp [errW_none, errW_some] <;> rfl) | (simp [*, errW_none, errW_some] <;> rfl), by repeat (first | (with_reducible first | exact HB.out | apply below_alloc | apply pw_below_drewN | apply below_drew1 | refine below_set ?_ GE281.out | refine below_set ?_ GE285.out) | exact HB.out)⟩
     ·rw [if_neg c16] at H
      exact absurd H (by simp)
    ·rw [if_neg c15] at H
     exact absurd H (by simp)
end Go.Proofs.YtjgomlcdmpcoaaaDoor.D
namespace Go.Proofs.YtjgomlcdmpcoaaaDoor.D
open Go.RowKit Go.Proofs.YtjgomlcdmpcoaaaDoorW.PrintWords Go.Proofs.YtjgomlcdmpcoaaaDoorW.PrintLast Go.Proofs.YtjgomlcdmpcoaaaDoorW.PrintMore
attribute [local go_sem] max2_int min2_int max_two min_two max_three min_three max_four min_four
set_option linter.unusedVariables false
set_option linter.unusedSimpArgs false
def falseworkref18_Table.l0 : Nat → ByteArray → Int → Int → List (S70) → Int → Option (Int)
 | 0, _, _, _, _, _ => none
 | k + 1, x1, x5, x204000, x204001, x204002 => if x5 < (x204001.length : Int) then (if 0 ≤ x5 then (if ((rd_T70 x204001 x5).f1).toList = x1.toList then (some x5) else (falseworkref18_Table.l0 k x1 (wrap64 (x5 + 1)) x204000 x204001 x204002)) else (none)) else (some (-1))
def falseworkref18_Table.f (k : Nat) (a0_0 : Int) (l0_1 : List (S70)) (a0_2 : Int) (a1 : ByteArray) : Option (Int) := falseworkref18_Table.l0 k a1 0 a0_0 l0_1 a0_2
theorem falseworkref18_Table.mono_l : ∀ k, (∀ y0 y1 y2 y3 y4, LeO (falseworkref18_Table.l0 k y0 y1 y2 y3 y4) (falseworkref18_Table.l0 (k + 1) y0 y1 y2 y3 y4))
 | 0 => fun _ _ _ _ _ r h => by simp [falseworkref18_Table.l0] at h
 | k + 1 => by
  have ih0 := falseworkref18_Table.mono_l k
  ·intro y0 y1 y2 y3 y4
   unfold falseworkref18_Table.l0
   repeat' first
   | (with_reducible exact ih0 _ _ _ _ _)
   | (with_reducible exact LeO.refl _)
   | (with_reducible exact LeO.none _)
   | (with_reducible refine LeO.ite ?_ ?_)
   | (with_reducible refine LeO.bind ?_ (fun _ => ?_))
   | exact ih0 _ _ _ _ _
   | exact LeO.none _
   | refine LeO.ite ?_ ?_
   | refine LeO.bind ?_ (fun _ => ?_)
theorem falseworkref18_Table.mono : ∀ a0 a1 a2 a3 k, LeO (falseworkref18_Table.f k a0 a1 a2 a3) (falseworkref18_Table.f (k + 1) a0 a1 a2 a3) := by
 intro a0 a1 a2 a3 k
 have ih0 := falseworkref18_Table.mono_l k
 unfold falseworkref18_Table.f
 repeat' first
   | (with_reducible exact ih0 _ _ _ _ _)
   | (with_reducible exact LeO.refl _)
   | (with_reducible exact LeO.none _)
   | (with_reducible refine LeO.ite ?_ ?_)
   | (with_reducible refine LeO.bind ?_ (fun _ => ?_))
   | exact ih0 _ _ _ _ _
   | exact LeO.none _
   | refine LeO.ite ?_ ?_
   | refine LeO.bind ?_ (fun _ => ?_)
set_option maxHeartbeats 8000000 in
set_option maxRecDepth 100000 in
theorem falseworkref18_Table.calls (k : Nat) (a0_0 : Int) (A0_1 : Option Addr) (c0_1 : Nat) (l0_1 : List (S70)) (a0_2 : Int) (a1 : ByteArray) (r : Int) (w : World) (hr0_1 : Kd.C k70 w A0_1 l0_1.length l0_1) (hc0_1 : l0_1.length ≤ c0_1) (h : falseworkref18_Table.f k a0_0 l0_1 a0_2 a1 = some r) :
  Calls Tryd.prog 55 #[.agg #[.int .i64 a0_0, .slice A0_1 l0_1.length c0_1, .int .i64 a0_2], .string a1] w fun e w' => e = .returned (.int .i64 r) ∧ Below w.heap.size w w' := by
 have hu28 := Tryd.underlying28
 have HR0_1 := Aside0.mk hr0_1; have HC0_1 := Aside0.mk hc0_1; clear hr0_1 hc0_1; have HB := Aside0.mk (Below.refl w.heap.size w)
 have H : (falseworkref18_Table.l0 k a1 0 a0_0 l0_1 a0_2) = some r := h
 clear h; have H' := Aside0.mk H; clear H; go_enter Tryd.func55, Tryd.ntmps55
 go_wp2_with (first | ((with_reducible refine gate_dst (N := 2) rfl ?_); refine box_event ?hg (N := 2) ?hd (cs := #[.int .i64 a0_0, .slice A0_1 l0_1.length c0_1, .int .i64 a0_2]) (t := 28) ?hr ?_; (case hd => rfl); (case hg => rfl); (case hr => first | (go_simp; done) | (go_simp; rfl)); intro gb203 hg w3 hbox hb; have n0_ := Aside0.mk (below_step (by repeat (first | (with_reducible first | exact HB.out | apply below_alloc | apply pw_below_drewN | apply below_drew1) | exact HB.out)) hb); have n1_ := Aside0.mk (hbox); have n2_ := Aside0.mk ((by rw [hg]; exact (below_size (by repeat (first | (with_reducible first | exact HB.out | apply below_alloc | apply pw_below_drewN | apply below_drew1) | exact HB.out))) : w.heap.size ≤ gb203)); have n3_ := Aside0.mk ((by rw [hg]; exact (below_size (by repeat (first | (with_reducible first | exact HB.out | apply below_alloc | apply pw_below_drewN | apply below_drew1) | exact HB.out))) : w.heap.size ≤ gb203)); clear HB; have HB := n0_; have BK203 := n1_; have GW203 := n2_; have GE203 := n3_; clear n0_ n1_ n2_ n3_; clear hb hbox hg))
 go_loopg [5] k (fun kq v5 w' => ∃ (x5_1 : Int), v5 = .int .i64 x5_1 ∧ Aside0 (falseworkref18_Table.l0 kq a1 x5_1 a0_0 l0_1 a0_2 = some r) ∧ Aside0 (kq ≤ k) ∧ Aside0 (w'.heap[gb203]? = some (.cells #[.int .i64 a0_0, (.slice A0_1 l0_1.length c0_1), .int .i64 a0_2] 28 (0, 0))) ∧ Aside0 (Below w.heap.size w w'))
 case atStart => exact ⟨(0), (by first | rfl | (simp; done) | (simp [*]; done)), H', ⟨Nat.le_refl _⟩, ⟨by (with_reducible repeat (first | refine blk_drewN ?_ _ | refine blk_drew ?_ | refine blk_alloc ?_ _)); exact BK203.out⟩, ⟨by repeat (first | (with_reducible first | exact HB.out | apply below_alloc | apply pw_below_drewN | apply below_drew1 | refine below_set ?_ GE203.out) | exact HB.out)⟩⟩
 case round =>
  clear H'; (try clear p2); obtain ⟨x5_1, rfl, HA, HK1, BK203, HB⟩ := hrel
  cases gk with
  | zero => exact absurd HA.out (by simp [falseworkref18_Table.l0])
  | succ k1 =>
   have H := HA.out; clear HA; simp only [falseworkref18_Table.l0] at H
   by_cases c4 : x5_1 < (l0_1.length : Int)
   ·rw [if_pos c4] at H
    have c4b0 : decide (x5_1 < (l0_1.length : Int)) = true := decide_eq_true c4
    clear c4; by_cases c5 : 0 ≤ x5_1
    ·rw [if_pos c5] at H
     have c5b0 : decide (0 ≤ x5_1) = true := decide_eq_true c5
     clear c5; by_cases c6 : ((rd_T70 l0_1 x5_1).f1).toList = a1.toList
     ·rw [if_pos c6] at H
      have c6b0 : (((rd_T70 l0_1 x5_1).f1).toList == a1.toList) = true := beq_iff_eq.mpr c6
      have c6b1 : (((rd_T70 l0_1 x5_1).f1).toList != a1.toList) = false := bne_eq_false_iff_eq.mpr c6
      clear c6; obtain rfl := Option.some.inj H; have hcz7_0 : wr.cell? ⟨gb203, 0, none⟩ = some (.int .i64 a0_0) := (Go.Proofs.YtjgomlcdmpcoaaaDoorW.PrintWords.blk_cell BK203.out 0).trans rfl
      have hcz7_1 : wr.cell? ⟨gb203, 1, none⟩ = some (.slice A0_1 l0_1.length c0_1) := (Go.Proofs.YtjgomlcdmpcoaaaDoorW.PrintWords.blk_cell BK203.out 1).trans rfl
      have hcz7_2 : wr.cell? ⟨gb203, 2, none⟩ = some (.int .i64 a0_2) := (Go.Proofs.YtjgomlcdmpcoaaaDoorW.PrintWords.blk_cell BK203.out 2).trans rfl
      have hfz7_0 := blk_frozen BK203.out 0
      have hfz7_1 := blk_frozen BK203.out 1
      have hfz7_2 := blk_frozen BK203.out 2
      have p204 : 0 ≤ (x5_1 : Int) := of_decide_eq_true (by first | (with_reducible assumption) | assumption)
      have q204 : x5_1 < (l0_1.length : Int) := of_decide_eq_true (by first | (with_reducible assumption) | assumption)
      obtain ⟨ad204, A204_2, c204_2, A204_3, c204_3, e204, hx204_0, hx204_1, hx204_2, hx204_3, hx204_4, hl204_2, hi204_2, hl204_3, hi204_3⟩ := at_T70 HR0_1.out x5_1 p204 q204
      cases e204
      replace hx204_0 := (HB.out.cell (World.block_lt_of_cell? w _ hx204_0)).trans hx204_0
      replace hx204_1 := (HB.out.cell (World.block_lt_of_cell? w _ hx204_1)).trans hx204_1
      replace hx204_2 := (HB.out.cell (World.block_lt_of_cell? w _ hx204_2)).trans hx204_2
      replace hx204_3 := (HB.out.cell (World.block_lt_of_cell? w _ hx204_3)).trans hx204_3
      replace hx204_4 := (HB.out.cell (World.block_lt_of_cell? w _ hx204_4)).trans hx204_4
      have HR204_2 := Aside0.mk hi204_2; have HC204_2 := Aside0.mk hl204_2; clear hi204_2 hl204_2; have HR204_3 := Aside0.mk hi204_3; have HC204_3 := Aside0.mk hl204_3; clear hi204_3 hl204_3; replace p204 := eq_true p204
      replace q204 := eq_true q204
      go_wp2; go_ret; exact ⟨by first | rfl | (simp [errW_none, errW_some] <;> rfl) | (simp [*, errW_none, errW_some] <;> rfl), by repeat (first | (with_reducible first | exact HB.out | apply below_alloc | apply pw_below_drewN | apply below_drew1 | refine below_set ?_ GE203.out) | exact HB.out)⟩
     ·rw [if_neg c6] at H
      have c6b0 : (((rd_T70 l0_1 x5_1).f1).toList == a1.toList) = false := beq_eq_false_iff_ne.mpr c6
      have c6b1 : (((rd_T70 l0_1 x5_1).f1).toList != a1.toList) = true := bne_iff_ne.mpr c6
      have H' := Aside0.mk H; clear H; have hcz8_0 : wr.cell? ⟨gb203, 0, none⟩ = some (.int .i64 a0_0) := (Go.Proofs.YtjgomlcdmpcoaaaDoorW.PrintWords.blk_cell BK203.out 0).trans rfl
      have hcz8_1 : wr.cell? ⟨gb203, 1, none⟩ = some (.slice A0_1 l0_1.length c0_1) := (Go.Proofs.YtjgomlcdmpcoaaaDoorW.PrintWords.blk_cell BK203.out 1).trans rfl
      have hcz8_2 : wr.cell? ⟨gb203, 2, none⟩ = some (.int .i64 a0_2) := (Go.Proofs.YtjgomlcdmpcoaaaDoorW.PrintWords.blk_cell BK203.out 2).trans rfl
      have hfz8_0 := blk_frozen BK203.out 0
      have hfz8_1 := blk_frozen BK203.out 1
      have hfz8_2 := blk_frozen BK203.out 2
      have p204 : 0 ≤ (x5_1 : Int) := of_decide_eq_true (by first | (with_reducible assumption) | assumption)
      have q204 : x5_1 < (l0_1.length : Int) := of_decide_eq_true (by first | (with_reducible assumption) | assumption)
      obtain ⟨ad204, A204_2, c204_2, A204_3, c204_3, e204, hx204_0, hx204_1, hx204_2, hx204_3, hx204_4, hl204_2, hi204_2, hl204_3, hi204_3⟩ := at_T70 HR0_1.out x5_1 p204 q204
      cases e204
      replace hx204_0 := (HB.out.cell (World.block_lt_of_cell? w _ hx204_0)).trans hx204_0
      replace hx204_1 := (HB.out.cell (World.block_lt_of_cell? w _ hx204_1)).trans hx204_1
      replace hx204_2 := (HB.out.cell (World.block_lt_of_cell? w _ hx204_2)).trans hx204_2
      replace hx204_3 := (HB.out.cell (World.block_lt_of_cell? w _ hx204_3)).trans hx204_3
      replace hx204_4 := (HB.out.cell (World.block_lt_of_cell? w _ hx204_4)).trans hx204_4
      have HR204_2 := Aside0.mk hi204_2; have HC204_2 := Aside0.mk hl204_2; clear hi204_2 hl204_2; have HR204_3 := Aside0.mk hi204_3; have HC204_3 := Aside0.mk hl204_3; clear hi204_3 hl204_3; replace p204 := eq_true p204
      replace q204 := eq_true q204
      go_wp2; go_roundg k1
      case measure => have := HK1.out; omega
      case rel => exact ⟨(wrap64 (x5_1 + 1)), (by first | rfl | (simp; done) | (simp [*]; done)), H', ⟨by have := HK1.out; omega⟩, ⟨by (with_reducible repeat (first | refine blk_drewN ?_ _ | refine blk_drew ?_ | refine blk_alloc ?_ _)); exact BK203.out⟩, ⟨by repeat (first | (with_reducible first | exact HB.out | apply below_alloc | apply pw_below_drewN | apply below_drew1 | refine below_set ?_ GE203.out) | exact HB.out)⟩⟩
    ·rw [if_neg c5] at H
     exact absurd H (by simp)
   ·rw [if_neg c4] at H
    have c4b0 : decide (x5_1 < (l0_1.length : Int)) = false := decide_eq_false c4
    clear c4; obtain rfl := Option.some.inj H; have hcz9_0 : wr.cell? ⟨gb203, 0, none⟩ = some (.int .i64 a0_0) := (Go.Proofs.YtjgomlcdmpcoaaaDoorW.PrintWords.blk_cell BK203.out 0).trans rfl
    have hcz9_1 : wr.cell? ⟨gb203, 1, none⟩ = some (.slice A0_1 l0_1.length c0_1) := (Go.Proofs.YtjgomlcdmpcoaaaDoorW.PrintWords.blk_cell BK203.out 1).trans rfl
    have hcz9_2 : wr.cell? ⟨gb203, 2, none⟩ = some (.int .i64 a0_2) := (Go.Proofs.YtjgomlcdmpcoaaaDoorW.PrintWords.blk_cell BK203.out 2).trans rfl
    have hfz9_0 := blk_frozen BK203.out 0
    have hfz9_1 := blk_frozen BK203.out 1
    have hfz9_2 := blk_frozen BK203.out 2
    go_wp2; go_ret; exact ⟨by first | rfl | (simp [errW_none, errW_some] <;> rfl) | (simp [*, errW_none, errW_some] <;> rfl), by repeat (first | (with_reducible first | exact HB.out | apply below_alloc | apply pw_below_drewN | apply below_drew1 | refine below_set ?_ GE203.out) | exact HB.out)⟩
end Go.Proofs.YtjgomlcdmpcoaaaDoor.D
