/- Own texts of this session, packed by its program wip/pp/pack.py: lemmas and walks of functions. -/
import Derived.Test.YtjgomlcdmpcoaaaDoorKCC3
import Derived.Test.YtjgomlcdmpcoaaaDoorKCC14
namespace Go.Proofs.YtjgomlcdmpcoaaaDoor.D
open Go.RowKit Go.Proofs.YtjgomlcdmpcoaaaDoorW.PrintWords Go.Proofs.YtjgomlcdmpcoaaaDoorW.PrintLast Go.Proofs.YtjgomlcdmpcoaaaDoorW.PrintMore
attribute [local go_sem] max2_int min2_int max_two min_two max_three min_three max_four min_four
set_option linter.unusedVariables false
set_option linter.unusedSimpArgs false
mutual
def falseworkref18_twice.l0 : Nat → List ByteArray → Int → Option (Bool)
 | 0, _, _ => none
 | k + 1, x0, x3 => if x3 < (x0.length : Int) then (falseworkref18_twice.l1 k x0 x3 0) else (some false)
def falseworkref18_twice.l1 : Nat → List ByteArray → Int → Int → Option (Bool)
 | 0, _, _, _ => none
 | k + 1, x0, x3, x4 => if x4 < x3 then (if 0 ≤ x4 then (if x4 < (x0.length : Int) then (if 0 ≤ x3 then (if x3 < (x0.length : Int) then (if (rdOf ByteArray.empty x0 x4).toList = (rdOf ByteArray.empty x0 x3).toList then (some true) else (falseworkref18_twice.l1 k x0 x3 (wrap64 (x4 + 1)))) else (none)) else (none)) else (none)) else (none)) else (falseworkref18_twice.l0 k x0 (wrap64 (x3 + 1)))
end
def falseworkref18_twice.f (k : Nat) (l0 : List ByteArray) : Option (Bool) := falseworkref18_twice.l0 k l0 0
theorem falseworkref18_twice.mono_l : ∀ k, (∀ y0 y1, LeO (falseworkref18_twice.l0 k y0 y1) (falseworkref18_twice.l0 (k + 1) y0 y1)) ∧ (∀ y0 y1 y2, LeO (falseworkref18_twice.l1 k y0 y1 y2) (falseworkref18_twice.l1 (k + 1) y0 y1 y2))
 | 0 => ⟨fun _ _ r h => by simp [falseworkref18_twice.l0] at h, fun _ _ _ r h => by simp [falseworkref18_twice.l1] at h⟩
 | k + 1 => by
  obtain ⟨ih0, ih1⟩ := falseworkref18_twice.mono_l k
  refine ⟨?_, ?_⟩
  ·intro y0 y1
   unfold falseworkref18_twice.l0
   repeat' first
   | (with_reducible exact ih0 _ _)
   | (with_reducible exact ih1 _ _ _)
   | (with_reducible exact LeO.refl _)
   | (with_reducible exact LeO.none _)
   | (with_reducible refine LeO.ite ?_ ?_)
   | (with_reducible refine LeO.bind ?_ (fun _ => ?_))
   | exact ih0 _ _
   | exact ih1 _ _ _
   | exact LeO.none _
   | refine LeO.ite ?_ ?_
   | refine LeO.bind ?_ (fun _ => ?_)
  ·intro y0 y1 y2
   unfold falseworkref18_twice.l1
   repeat' first
   | (with_reducible exact ih0 _ _)
   | (with_reducible exact ih1 _ _ _)
   | (with_reducible exact LeO.refl _)
   | (with_reducible exact LeO.none _)
   | (with_reducible refine LeO.ite ?_ ?_)
   | (with_reducible refine LeO.bind ?_ (fun _ => ?_))
   | exact ih0 _ _
   | exact ih1 _ _ _
   | exact LeO.none _
   | refine LeO.ite ?_ ?_
   | refine LeO.bind ?_ (fun _ => ?_)
theorem falseworkref18_twice.mono : ∀ a0 k, LeO (falseworkref18_twice.f k a0) (falseworkref18_twice.f (k + 1) a0) := by
 intro a0 k
 obtain ⟨ih0, ih1⟩ := falseworkref18_twice.mono_l k
 unfold falseworkref18_twice.f
 repeat' first
   | (with_reducible exact ih0 _ _)
   | (with_reducible exact ih1 _ _ _)
   | (with_reducible exact LeO.refl _)
   | (with_reducible exact LeO.none _)
   | (with_reducible refine LeO.ite ?_ ?_)
   | (with_reducible refine LeO.bind ?_ (fun _ => ?_))
   | exact ih0 _ _
   | exact ih1 _ _ _
   | exact LeO.none _
   | refine LeO.ite ?_ ?_
   | refine LeO.bind ?_ (fun _ => ?_)
set_option maxHeartbeats 8000000 in
set_option maxRecDepth 100000 in
theorem falseworkref18_twice.calls (k : Nat) (A0 : Option Addr) (c0 : Nat) (l0 : List ByteArray) (r : Bool) (w : World) (hr0 : Kd.C Kd.string w A0 l0.length l0) (hc0 : l0.length ≤ c0) (h : falseworkref18_twice.f k l0 = some r) :
  Calls Tryd.prog 61 #[.slice A0 l0.length c0] w fun e w' => e = .returned (.bool r) ∧ Drawn0 w w' := by
 have HR0 := Aside0.mk hr0; have HC0 := Aside0.mk hc0; clear hr0 hc0; have H : (falseworkref18_twice.l0 k l0 0) = some r := h
 clear h; have H' := Aside0.mk H; clear H; go_enter Tryd.func61, Tryd.ntmps61
 go_wp2
 repeat (go_quiet (fail); try go_wp2)
 go_loopg [3] k (fun kq v3 w' => ∃ (x3_1 : Int), v3 = .int .i64 x3_1 ∧ Aside0 (falseworkref18_twice.l0 kq l0 x3_1 = some r) ∧ Aside0 (kq ≤ k) ∧ Drawn0 w w')
 case atStart => exact ⟨(0), (by first | rfl | (simp; done) | (simp [*]; done)), H', ⟨Nat.le_refl _⟩, by repeat (first | exact Drawn0.refl _ | apply Drawn0.step)⟩
 case round =>
  clear H'; obtain ⟨x3_1, rfl, HA, HK1, ⟨m1, rfl⟩⟩ := hrel
  cases gk with
  | zero => exact absurd HA.out (by simp [falseworkref18_twice.l0])
  | succ k1 =>
   have H := HA.out; clear HA; simp only [falseworkref18_twice.l0] at H
   by_cases c2 : x3_1 < (l0.length : Int)
   ·rw [if_pos c2] at H
    have c2b0 : decide (x3_1 < (l0.length : Int)) = true := decide_eq_true c2
    clear c2; have H' := Aside0.mk H; clear H; go_wp2
    repeat (go_quiet (fail); try go_wp2)
    go_loopg [4] k1 (fun kq v4 w' => ∃ (x4_2 : Int), v4 = .int .i64 x4_2 ∧ Aside0 (falseworkref18_twice.l1 kq l0 x3_1 x4_2 = some r) ∧ Aside0 (kq ≤ k1) ∧ Drawn0 w w')
    case atStart => exact ⟨(0), (by first | rfl | (simp; done) | (simp [*]; done)), H', ⟨Nat.le_refl _⟩, by repeat (first | exact Drawn0.refl _ | apply Drawn0.step)⟩
    case round =>
     clear H'; (try clear c2); (try clear c2b0); (try clear p2); obtain ⟨x4_2, rfl, HA, HK2, ⟨m2, rfl⟩⟩ := hrel
     cases gk with
     | zero => exact absurd HA.out (by simp [falseworkref18_twice.l1])
     | succ k2 =>
      have H := HA.out; clear HA; simp only [falseworkref18_twice.l1] at H
      by_cases c3 : x4_2 < x3_1
      ·rw [if_pos c3] at H
       have c3b0 : decide (x4_2 < x3_1) = true := decide_eq_true c3
       clear c3; by_cases c4 : 0 ≤ x4_2
       ·rw [if_pos c4] at H
        have c4b0 : decide (0 ≤ x4_2) = true := decide_eq_true c4
        clear c4; by_cases c5 : x4_2 < (l0.length : Int)
        ·rw [if_pos c5] at H
         have c5b0 : decide (x4_2 < (l0.length : Int)) = true := decide_eq_true c5
         clear c5; by_cases c6 : 0 ≤ x3_1
         ·rw [if_pos c6] at H
          have c6b0 : decide (0 ≤ x3_1) = true := decide_eq_true c6
          clear c6; by_cases c7 : x3_1 < (l0.length : Int)
          ·rw [if_pos c7] at H
           have c7b0 : decide (x3_1 < (l0.length : Int)) = true := decide_eq_true c7
           clear c7; by_cases c8 : (rdOf ByteArray.empty l0 x4_2).toList = (rdOf ByteArray.empty l0 x3_1).toList
           ·rw [if_pos c8] at H
            have c8b0 : ((rdOf ByteArray.empty l0 x4_2).toList == (rdOf ByteArray.empty l0 x3_1).toList) = true := beq_iff_eq.mpr c8
            have c8b1 : ((rdOf ByteArray.empty l0 x4_2).toList != (rdOf ByteArray.empty l0 x3_1).toList) = false := bne_eq_false_iff_eq.mpr c8
            clear c8; obtain rfl := Option.some.inj H; have p205 : 0 ≤ (x4_2 : Int) := of_decide_eq_true (by first | (with_reducible assumption) | assumption)
            have q205 : x4_2 < (l0.length : Int) := of_decide_eq_true (by first | (with_reducible assumption) | assumption)
            obtain ⟨ad205, e205, hx205_0⟩ := Kd.at_string HR0.out x4_2 p205 q205
            cases e205
            replace p205 := eq_true p205
            replace q205 := eq_true q205
            have p206 : 0 ≤ (x3_1 : Int) := of_decide_eq_true (by first | (with_reducible assumption) | assumption)
            have q206 : x3_1 < (l0.length : Int) := of_decide_eq_true (by first | (with_reducible assumption) | assumption)
            obtain ⟨ad206, e206, hx206_0⟩ := Kd.at_string HR0.out x3_1 p206 q206
            obtain rfl : ad205 = ad206 := (by injection e206)
            replace p206 := eq_true p206
            replace q206 := eq_true q206
            go_wp2
            repeat (go_quiet (fail); try go_wp2)
            go_ret; exact ⟨by first | rfl | (simp; done) | (simp [*]; done), by repeat (first | exact Drawn0.refl _ | apply Drawn0.step)⟩
           ·rw [if_neg c8] at H
            have c8b0 : ((rdOf ByteArray.empty l0 x4_2).toList == (rdOf ByteArray.empty l0 x3_1).toList) = false := beq_eq_false_iff_ne.mpr c8
            have c8b1 : ((rdOf ByteArray.empty l0 x4_2).toList != (rdOf ByteArray.empty l0 x3_1).toList) = true := bne_iff_ne.mpr c8
            have H' := Aside0.mk H; clear H; have p205 : 0 ≤ (x4_2 : Int) := of_decide_eq_true (by first | (with_reducible assumption) | assumption)
            have q205 : x4_2 < (l0.length : Int) := of_decide_eq_true (by first | (with_reducible assumption) | assumption)
            obtain ⟨ad205, e205, hx205_0⟩ := Kd.at_string HR0.out x4_2 p205 q205
            cases e205
            replace p205 := eq_true p205
            replace q205 := eq_true q205
            have p206 : 0 ≤ (x3_1 : Int) := of_decide_eq_true (by first | (with_reducible assumption) | assumption)
            have q206 : x3_1 < (l0.length : Int) := of_decide_eq_true (by first | (with_reducible assumption) | assumption)
            obtain ⟨ad206, e206, hx206_0⟩ := Kd.at_string HR0.out x3_1 p206 q206
            obtain rfl : ad205 = ad206 := (by injection e206)
            replace p206 := eq_true p206
            replace q206 := eq_true q206
            go_wp2
            repeat (go_quiet (fail); try go_wp2)
            go_roundg k2
            case measure => have := HK1.out; have := HK2.out; omega
            case rel => exact ⟨(wrap64 (x4_2 + 1)), (by first | rfl | (simp; done) | (simp [*]; done)), H', ⟨by have := HK1.out; have := HK2.out; omega⟩, by repeat (first | exact Drawn0.refl _ | apply Drawn0.step)⟩
          ·rw [if_neg c7] at H
           exact absurd H (by simp)
         ·rw [if_neg c6] at H
          exact absurd H (by simp)
        ·rw [if_neg c5] at H
         exact absurd H (by simp)
       ·rw [if_neg c4] at H
        exact absurd H (by simp)
      ·rw [if_neg c3] at H
       have c3b0 : decide (x4_2 < x3_1) = false := decide_eq_false c3
       clear c3; have H' := Aside0.mk H; clear H; go_wp2
       repeat (go_quiet (fail); try go_wp2)
       go_roundg k2
       case measure => have := HK1.out; have := HK2.out; omega
       case rel => exact ⟨(wrap64 (x3_1 + 1)), (by first | rfl | (simp; done) | (simp [*]; done)), H', ⟨by have := HK1.out; have := HK2.out; omega⟩, by repeat (first | exact Drawn0.refl _ | apply Drawn0.step)⟩
   ·rw [if_neg c2] at H
    have c2b0 : decide (x3_1 < (l0.length : Int)) = false := decide_eq_false c2
    clear c2; obtain rfl := Option.some.inj H; go_wp2
    repeat (go_quiet (fail); try go_wp2)
    go_ret; exact ⟨by first | rfl | (simp; done) | (simp [*]; done), by repeat (first | exact Drawn0.refl _ | apply Drawn0.step)⟩
end Go.Proofs.YtjgomlcdmpcoaaaDoor.D
namespace Go.Proofs.YtjgomlcdmpcoaaaDoor.D
open Go.RowKit Go.Proofs.YtjgomlcdmpcoaaaDoorW.PrintWords Go.Proofs.YtjgomlcdmpcoaaaDoorW.PrintLast Go.Proofs.YtjgomlcdmpcoaaaDoorW.PrintMore
attribute [local go_sem] max2_int min2_int max_two min_two max_three min_three max_four min_four
set_option linter.unusedVariables false
set_option linter.unusedSimpArgs false
mutual
def falseworkref18_used.l0 : Nat → Int → Int → Int → ByteArray → List (S75) → List (S98) → Int → Option (Bool)
 | 0, _, _, _, _, _, _, _ => none
 | k + 1, x1, x5, x257000, x257001, x257002, x257003, x257004 => if x5 < (x257003.length : Int) then (falseworkref18_used.l1 k x1 x5 0 x257000 x257001 x257002 x257003 x257004) else (some false)
def falseworkref18_used.l1 : Nat → Int → Int → Int → Int → ByteArray → List (S75) → List (S98) → Int → Option (Bool)
 | 0, _, _, _, _, _, _, _, _ => none
 | k + 1, x1, x5, x6, x257000, x257001, x257002, x257003, x257004 => if 0 ≤ x5 then (if x5 < (x257003.length : Int) then (if x6 < (((rd_T98 x257003 x5).f2).length : Int) then (if 0 ≤ x6 then (if (rd ((rd_T98 x257003 x5).f2) x6) = x1 then (some true) else (falseworkref18_used.l1 k x1 x5 (wrap64 (x6 + 1)) x257000 x257001 x257002 x257003 x257004)) else (none)) else (falseworkref18_used.l0 k x1 (wrap64 (x5 + 1)) x257000 x257001 x257002 x257003 x257004)) else (none)) else (none)
end
def falseworkref18_used.f (k : Nat) (a0_0 : Int) (a0_1 : ByteArray) (l0_2 : List (S75)) (l0_3 : List (S98)) (a0_4 : Int) (a1 : Int) : Option (Bool) := falseworkref18_used.l0 k a1 0 a0_0 a0_1 l0_2 l0_3 a0_4
theorem falseworkref18_used.mono_l : ∀ k, (∀ y0 y1 y2 y3 y4 y5 y6, LeO (falseworkref18_used.l0 k y0 y1 y2 y3 y4 y5 y6) (falseworkref18_used.l0 (k + 1) y0 y1 y2 y3 y4 y5 y6)) ∧ (∀ y0 y1 y2 y3 y4 y5 y6 y7, LeO (falseworkref18_used.l1 k y0 y1 y2 y3 y4 y5 y6 y7) (falseworkref18_used.l1 (k + 1) y0 y1 y2 y3 y4 y5 y6 y7))
 | 0 => ⟨fun _ _ _ _ _ _ _ r h => by simp [falseworkref18_used.l0] at h, fun _ _ _ _ _ _ _ _ r h => by simp [falseworkref18_used.l1] at h⟩
 | k + 1 => by
  obtain ⟨ih0, ih1⟩ := falseworkref18_used.mono_l k
  refine ⟨?_, ?_⟩
  ·intro y0 y1 y2 y3 y4 y5 y6
   unfold falseworkref18_used.l0
   repeat' first
   | (with_reducible exact ih0 _ _ _ _ _ _ _)
   | (with_reducible exact ih1 _ _ _ _ _ _ _ _)
   | (with_reducible exact LeO.refl _)
   | (with_reducible exact LeO.none _)
   | (with_reducible refine LeO.ite ?_ ?_)
   | (with_reducible refine LeO.bind ?_ (fun _ => ?_))
   | exact ih0 _ _ _ _ _ _ _
   | exact ih1 _ _ _ _ _ _ _ _
   | exact LeO.none _
   | refine LeO.ite ?_ ?_
   | refine LeO.bind ?_ (fun _ => ?_)
  ·intro y0 y1 y2 y3 y4 y5 y6 y7
   unfold falseworkref18_used.l1
   repeat' first
   | (with_reducible exact ih0 _ _ _ _ _ _ _)
   | (with_reducible exact ih1 _ _ _ _ _ _ _ _)
   | (with_reducible exact LeO.refl _)
   | (with_reducible exact LeO.none _)
   | (with_reducible refine LeO.ite ?_ ?_)
   | (with_reducible refine LeO.bind ?_ (fun _ => ?_))
   | exact ih0 _ _ _ _ _ _ _
   | exact ih1 _ _ _ _ _ _ _ _
   | exact LeO.none _
   | refine LeO.ite ?_ ?_
   | refine LeO.bind ?_ (fun _ => ?_)
theorem falseworkref18_used.mono : ∀ a0 a1 a2 a3 a4 a5 k, LeO (falseworkref18_used.f k a0 a1 a2 a3 a4 a5) (falseworkref18_used.f (k + 1) a0 a1 a2 a3 a4 a5) := by
 intro a0 a1 a2 a3 a4 a5 k
 obtain ⟨ih0, ih1⟩ := falseworkref18_used.mono_l k
 unfold falseworkref18_used.f
 repeat' first
   | (with_reducible exact ih0 _ _ _ _ _ _ _)
   | (with_reducible exact ih1 _ _ _ _ _ _ _ _)
   | (with_reducible exact LeO.refl _)
   | (with_reducible exact LeO.none _)
   | (with_reducible refine LeO.ite ?_ ?_)
   | (with_reducible refine LeO.bind ?_ (fun _ => ?_))
   | exact ih0 _ _ _ _ _ _ _
   | exact ih1 _ _ _ _ _ _ _ _
   | exact LeO.none _
   | refine LeO.ite ?_ ?_
   | refine LeO.bind ?_ (fun _ => ?_)
set_option maxHeartbeats 8000000 in
set_option maxRecDepth 100000 in
theorem falseworkref18_used.calls (k : Nat) (a0_0 : Int) (a0_1 : ByteArray) (A0_2 : Option Addr) (c0_2 : Nat) (l0_2 : List (S75)) (A0_3 : Option Addr) (c0_3 : Nat) (l0_3 : List (S98)) (a0_4 : Int) (a1 : Int) (r : Bool) (w : World) (hr0_2 : Kd.C k75 w A0_2 l0_2.length l0_2) (hc0_2 : l0_2.length ≤ c0_2) (hr0_3 : Kd.C k98 w A0_3 l0_3.length l0_3) (hc0_3 : l0_3.length ≤ c0_3) (h : falseworkref18_used.f k a0_0 a0_1 l0_2 l0_3 a0_4 a1 = some r) :
  Calls Tryd.prog 68 #[.agg #[.int .i64 a0_0, .string a0_1, .slice A0_2 l0_2.length c0_2, .slice A0_3 l0_3.length c0_3, .int .i64 a0_4], .int .i64 a1] w fun e w' => e = .returned (.bool r) ∧ Below w.heap.size w w' := by
 have hu70 := Tryd.underlying70
 have HR0_2 := Aside0.mk hr0_2; have HC0_2 := Aside0.mk hc0_2; clear hr0_2 hc0_2; have HR0_3 := Aside0.mk hr0_3; have HC0_3 := Aside0.mk hc0_3; clear hr0_3 hc0_3; have HB := Aside0.mk (Below.refl w.heap.size w)
 have H : (falseworkref18_used.l0 k a1 0 a0_0 a0_1 l0_2 l0_3 a0_4) = some r := h
 clear h; have H' := Aside0.mk H; clear H; go_enter Tryd.func68, Tryd.ntmps68
 go_wp2_with (first | ((with_reducible refine gate_dst (N := 2) rfl ?_); refine box_event ?hg (N := 2) ?hd (cs := #[.int .i64 a0_0, .string a0_1, .slice A0_2 l0_2.length c0_2, .slice A0_3 l0_3.length c0_3, .int .i64 a0_4]) (t := 70) ?hr ?_; (case hd => rfl); (case hg => rfl); (case hr => first | (go_simp; done) | (go_simp; rfl)); intro gb256 hg w3 hbox hb; have n0_ := Aside0.mk (below_step (by repeat (first | (with_reducible first | exact HB.out | apply below_alloc | apply pw_below_drewN | apply below_drew1) | exact HB.out)) hb); have n1_ := Aside0.mk (hbox); have n2_ := Aside0.mk ((by rw [hg]; exact (below_size (by repeat (first | (with_reducible first | exact HB.out | apply below_alloc | apply pw_below_drewN | apply below_drew1) | exact HB.out))) : w.heap.size ≤ gb256)); have n3_ := Aside0.mk ((by rw [hg]; exact (below_size (by repeat (first | (with_reducible first | exact HB.out | apply below_alloc | apply pw_below_drewN | apply below_drew1) | exact HB.out))) : w.heap.size ≤ gb256)); clear HB; have HB := n0_; have BK256 := n1_; have GW256 := n2_; have GE256 := n3_; clear n0_ n1_ n2_ n3_; clear hb hbox hg))
 go_loopg [5] k (fun kq v5 w' => ∃ (x5_1 : Int), v5 = .int .i64 x5_1 ∧ Aside0 (falseworkref18_used.l0 kq a1 x5_1 a0_0 a0_1 l0_2 l0_3 a0_4 = some r) ∧ Aside0 (kq ≤ k) ∧ Aside0 (w'.heap[gb256]? = some (.cells #[.int .i64 a0_0, .string a0_1, (.slice A0_2 l0_2.length c0_2), (.slice A0_3 l0_3.length c0_3), .int .i64 a0_4] 70 (0, 0))) ∧ Aside0 (Below w.heap.size w w'))
 case atStart => exact ⟨(0), (by first | rfl | (simp; done) | (simp [*]; done)), H', ⟨Nat.le_refl _⟩, ⟨by (with_reducible repeat (first | refine blk_drewN ?_ _ | refine blk_drew ?_ | refine blk_alloc ?_ _)); exact BK256.out⟩, ⟨by repeat (first | (with_reducible first | exact HB.out | apply below_alloc | apply pw_below_drewN | apply below_drew1 | refine below_set ?_ GE256.out) | exact HB.out)⟩⟩
 case round =>
  clear H'; (try clear p2); obtain ⟨x5_1, rfl, HA, HK1, BK256, HB⟩ := hrel
  cases gk with
  | zero => exact absurd HA.out (by simp [falseworkref18_used.l0])
  | succ k1 =>
   have H := HA.out; clear HA; simp only [falseworkref18_used.l0] at H
   by_cases c4 : x5_1 < (l0_3.length : Int)
   ·rw [if_pos c4] at H
    have c4b0 : decide (x5_1 < (l0_3.length : Int)) = true := decide_eq_true c4
    clear c4; have H' := Aside0.mk H; clear H; have hcz5_0 : wr.cell? ⟨gb256, 0, none⟩ = some (.int .i64 a0_0) := (pwC BK256.out 0).trans rfl
    have hcz5_1 : wr.cell? ⟨gb256, 1, none⟩ = some (.string a0_1) := (pwC BK256.out 1).trans rfl
    have hcz5_2 : wr.cell? ⟨gb256, 2, none⟩ = some (.slice A0_2 l0_2.length c0_2) := (pwC BK256.out 2).trans rfl
    have hcz5_3 : wr.cell? ⟨gb256, 3, none⟩ = some (.slice A0_3 l0_3.length c0_3) := (pwC BK256.out 3).trans rfl
    have hcz5_4 : wr.cell? ⟨gb256, 4, none⟩ = some (.int .i64 a0_4) := (pwC BK256.out 4).trans rfl
    have hfz5_0 := blk_frozen BK256.out 0
    have hfz5_1 := blk_frozen BK256.out 1
    have hfz5_2 := blk_frozen BK256.out 2
    have hfz5_3 := blk_frozen BK256.out 3
    have hfz5_4 := blk_frozen BK256.out 4
    go_wp2; go_loopg [6] k1 (fun kq v6 w' => ∃ (x6_2 : Int), v6 = .int .i64 x6_2 ∧ Aside0 (falseworkref18_used.l1 kq a1 x5_1 x6_2 a0_0 a0_1 l0_2 l0_3 a0_4 = some r) ∧ Aside0 (kq ≤ k1) ∧ Aside0 (w'.heap[gb256]? = some (.cells #[.int .i64 a0_0, .string a0_1, (.slice A0_2 l0_2.length c0_2), (.slice A0_3 l0_3.length c0_3), .int .i64 a0_4] 70 (0, 0))) ∧ Aside0 (Below w.heap.size w w'))
    case atStart => exact ⟨(0), (by first | rfl | (simp; done) | (simp [*]; done)), H', ⟨Nat.le_refl _⟩, ⟨by (with_reducible repeat (first | refine blk_drewN ?_ _ | refine blk_drew ?_ | refine blk_alloc ?_ _)); exact BK256.out⟩, ⟨by repeat (first | (with_reducible first | exact HB.out | apply below_alloc | apply pw_below_drewN | apply below_drew1 | refine below_set ?_ GE256.out) | exact HB.out)⟩⟩
    case round =>
     clear H'; (try clear p2); (try clear c4); (try clear c4b0); (try clear hcz5_0); (try clear hcz5_1); (try clear hcz5_2); (try clear hcz5_3); (try clear hcz5_4); (try clear hfz5_0); (try clear hfz5_1)
     (try clear hfz5_2); (try clear hfz5_3); (try clear hfz5_4); (try clear p2); obtain ⟨x6_2, rfl, HA, HK2, BK256, HB⟩ := hrel
     cases gk with
     | zero => exact absurd HA.out (by simp [falseworkref18_used.l1])
     | succ k2 =>
      have H := HA.out; clear HA; simp only [falseworkref18_used.l1] at H
      by_cases c6 : 0 ≤ x5_1
      ·rw [if_pos c6] at H
       have c6b0 : decide (0 ≤ x5_1) = true := decide_eq_true c6
       clear c6; by_cases c7 : x5_1 < (l0_3.length : Int)
       ·rw [if_pos c7] at H
        have c7b0 : decide (x5_1 < (l0_3.length : Int)) = true := decide_eq_true c7
        clear c7; by_cases c8 : x6_2 < (((rd_T98 l0_3 x5_1).f2).length : Int)
        ·rw [if_pos c8] at H
         have c8b0 : decide (x6_2 < (((rd_T98 l0_3 x5_1).f2).length : Int)) = true := decide_eq_true c8
         clear c8; by_cases c9 : 0 ≤ x6_2
         ·rw [if_pos c9] at H
          have c9b0 : decide (0 ≤ x6_2) = true := decide_eq_true c9
          clear c9; by_cases c10 : (rd ((rd_T98 l0_3 x5_1).f2) x6_2) = a1
          ·rw [if_pos c10] at H
           have c10b0 : ((rd ((rd_T98 l0_3 x5_1).f2) x6_2) == a1) = true := beq_iff_eq.mpr c10
           have c10b1 : ((rd ((rd_T98 l0_3 x5_1).f2) x6_2) != a1) = false := bne_eq_false_iff_eq.mpr c10
           clear c10; obtain rfl := Option.some.inj H; have hcz11_0 : wr.cell? ⟨gb256, 0, none⟩ = some (.int .i64 a0_0) := (pwC BK256.out 0).trans rfl
           have hcz11_1 : wr.cell? ⟨gb256, 1, none⟩ = some (.string a0_1) := (pwC BK256.out 1).trans rfl
           have hcz11_2 : wr.cell? ⟨gb256, 2, none⟩ = some (.slice A0_2 l0_2.length c0_2) := (pwC BK256.out 2).trans rfl
           have hcz11_3 : wr.cell? ⟨gb256, 3, none⟩ = some (.slice A0_3 l0_3.length c0_3) := (pwC BK256.out 3).trans rfl
           have hcz11_4 : wr.cell? ⟨gb256, 4, none⟩ = some (.int .i64 a0_4) := (pwC BK256.out 4).trans rfl
           have hfz11_0 := blk_frozen BK256.out 0
           have hfz11_1 := blk_frozen BK256.out 1
           have hfz11_2 := blk_frozen BK256.out 2
           have hfz11_3 := blk_frozen BK256.out 3
           have hfz11_4 := blk_frozen BK256.out 4
           have p257 : 0 ≤ (x5_1 : Int) := of_decide_eq_true (by first | (with_reducible assumption) | assumption)
           have q257 : x5_1 < (l0_3.length : Int) := of_decide_eq_true (by first | (with_reducible assumption) | assumption)
           obtain ⟨ad257, A257_2, c257_2, e257, hx257_0, hx257_1, hx257_2, hx257_3, hx257_4, hl257_2, hi257_2⟩ := at_T98 HR0_3.out x5_1 p257 q257
           cases e257
           replace hx257_0 := (HB.out.cell (World.block_lt_of_cell? w _ hx257_0)).trans hx257_0
           replace hx257_1 := (HB.out.cell (World.block_lt_of_cell? w _ hx257_1)).trans hx257_1
           replace hx257_2 := (HB.out.cell (World.block_lt_of_cell? w _ hx257_2)).trans hx257_2
           replace hx257_3 := (HB.out.cell (World.block_lt_of_cell? w _ hx257_3)).trans hx257_3
           replace hx257_4 := (HB.out.cell (World.block_lt_of_cell? w _ hx257_4)).trans hx257_4
           have HR257_2 := Aside0.mk hi257_2; have HC257_2 := Aside0.mk hl257_2; clear hi257_2 hl257_2; replace p257 := eq_true p257
           replace q257 := eq_true q257
           have p258 : 0 ≤ (x5_1 : Int) := of_decide_eq_true (by first | (with_reducible assumption) | assumption)
           have q258 : x5_1 < (l0_3.length : Int) := of_decide_eq_true (by first | (with_reducible assumption) | assumption)
           obtain ⟨ad258, A258_2, c258_2, e258, hx258_0, hx258_1, hx258_2, hx258_3, hx258_4, hl258_2, hi258_2⟩ := at_T98 HR0_3.out x5_1 p258 q258
           obtain rfl : ad257 = ad258 := (by injection e258)
           replace hx258_0 := (HB.out.cell (World.block_lt_of_cell? w _ hx258_0)).trans hx258_0
           replace hx258_1 := (HB.out.cell (World.block_lt_of_cell? w _ hx258_1)).trans hx258_1
           replace hx258_2 := (HB.out.cell (World.block_lt_of_cell? w _ hx258_2)).trans hx258_2
           replace hx258_3 := (HB.out.cell (World.block_lt_of_cell? w _ hx258_3)).trans hx258_3
           replace hx258_4 := (HB.out.cell (World.block_lt_of_cell? w _ hx258_4)).trans hx258_4
           have HR258_2 := Aside0.mk hi258_2; have HC258_2 := Aside0.mk hl258_2; clear hi258_2 hl258_2; replace p258 := eq_true p258
           replace q258 := eq_true q258
           have ea_ := Option.some.inj (hx257_2.symm.trans hx258_2)
           injection ea_ with ea_ en_ ec_
           subst ea_; subst ec_; clear en_; have p259 : 0 ≤ (x6_2 : Int) := of_decide_eq_true (by first | (with_reducible assumption) | assumption)
           have q259 : x6_2 < (((rd_T98 l0_3 x5_1).f2).length : Int) := of_decide_eq_true (by first | (with_reducible assumption) | assumption)
           obtain ⟨ad259, e259, hx259_0⟩ := Kd.at_int HR258_2.out x6_2 p259 q259
           cases e259
           replace hx259_0 := (HB.out.cell (World.block_lt_of_cell? w _ hx259_0)).trans hx259_0
           replace p259 := eq_true p259
           replace q259 := eq_true q259
           go_wp2; go_ret; exact ⟨by first | rfl | (simp [errW_none, errW_some] <;> rfl) | (simp [*, errW_none, errW_some] <;> rfl), by repeat (first | (with_reducible first | exact HB.out | apply below_alloc | apply pw_below_drewN | apply below_drew1 | refine below_set ?_ GE256.out) | exact HB.out)⟩
          ·rw [if_neg c10] at H
           have c10b0 : ((rd ((rd_T98 l0_3 x5_1).f2) x6_2) == a1) = false := beq_eq_false_iff_ne.mpr c10
           have c10b1 : ((rd ((rd_T98 l0_3 x5_1).f2) x6_2) != a1) = true := bne_iff_ne.mpr c10
           have H' := Aside0.mk H; clear H; have hcz12_0 : wr.cell? ⟨gb256, 0, none⟩ = some (.int .i64 a0_0) := (pwC BK256.out 0).trans rfl
           have hcz12_1 : wr.cell? ⟨gb256, 1, none⟩ = some (.string a0_1) := (pwC BK256.out 1).trans rfl
           have hcz12_2 : wr.cell? ⟨gb256, 2, none⟩ = some (.slice A0_2 l0_2.length c0_2) := (pwC BK256.out 2).trans rfl
           have hcz12_3 : wr.cell? ⟨gb256, 3, none⟩ = some (.slice A0_3 l0_3.length c0_3) := (pwC BK256.out 3).trans rfl
           have hcz12_4 : wr.cell? ⟨gb256, 4, none⟩ = some (.int .i64 a0_4) := (pwC BK256.out 4).trans rfl
           have hfz12_0 := blk_frozen BK256.out 0
           have hfz12_1 := blk_frozen BK256.out 1
           have hfz12_2 := blk_frozen BK256.out 2
           have hfz12_3 := blk_frozen BK256.out 3
           have hfz12_4 := blk_frozen BK256.out 4
           have p257 : 0 ≤ (x5_1 : Int) := of_decide_eq_true (by first | (with_reducible assumption) | assumption)
           have q257 : x5_1 < (l0_3.length : Int) := of_decide_eq_true (by first | (with_reducible assumption) | assumption)
           obtain ⟨ad257, A257_2, c257_2, e257, hx257_0, hx257_1, hx257_2, hx257_3, hx257_4, hl257_2, hi257_2⟩ := at_T98 HR0_3.out x5_1 p257 q257
           cases e257
           replace hx257_0 := (HB.out.cell (World.block_lt_of_cell? w _ hx257_0)).trans hx257_0
           replace hx257_1 := (HB.out.cell (World.block_lt_of_cell? w _ hx257_1)).trans hx257_1
           replace hx257_2 := (HB.out.cell (World.block_lt_of_cell? w _ hx257_2)).trans hx257_2
           replace hx257_3 := (HB.out.cell (World.block_lt_of_cell? w _ hx257_3)).trans hx257_3
           replace hx257_4 := (HB.out.cell (World.block_lt_of_cell? w _ hx257_4)).trans hx257_4
           have HR257_2 := Aside0.mk hi257_2; have HC257_2 := Aside0.mk hl257_2; clear hi257_2 hl257_2; replace p257 := eq_true p257
           replace q257 := eq_true q257
           have p258 : 0 ≤ (x5_1 : Int) := of_decide_eq_true (by first | (with_reducible assumption) | assumption)
           have q258 : x5_1 < (l0_3.length : Int) := of_decide_eq_true (by first | (with_reducible assumption) | assumption)
           obtain ⟨ad258, A258_2, c258_2, e258, hx258_0, hx258_1, hx258_2, hx258_3, hx258_4, hl258_2, hi258_2⟩ := at_T98 HR0_3.out x5_1 p258 q258
           obtain rfl : ad257 = ad258 := (by injection e258)
           replace hx258_0 := (HB.out.cell (World.block_lt_of_cell? w _ hx258_0)).trans hx258_0
           replace hx258_1 := (HB.out.cell (World.block_lt_of_cell? w _ hx258_1)).trans hx258_1
           replace hx258_2 := (HB.out.cell (World.block_lt_of_cell? w _ hx258_2)).trans hx258_2
           replace hx258_3 := (HB.out.cell (World.block_lt_of_cell? w _ hx258_3)).trans hx258_3
           replace hx258_4 := (HB.out.cell (World.block_lt_of_cell? w _ hx258_4)).trans hx258_4
           have HR258_2 := Aside0.mk hi258_2; have HC258_2 := Aside0.mk hl258_2; clear hi258_2 hl258_2; replace p258 := eq_true p258
           replace q258 := eq_true q258
           have ea_ := Option.some.inj (hx257_2.symm.trans hx258_2)
           injection ea_ with ea_ en_ ec_
           subst ea_; subst ec_; clear en_; have p259 : 0 ≤ (x6_2 : Int) := of_decide_eq_true (by first | (with_reducible assumption) | assumption)
           have q259 : x6_2 < (((rd_T98 l0_3 x5_1).f2).length : Int) := of_decide_eq_true (by first | (with_reducible assumption) | assumption)
           obtain ⟨ad259, e259, hx259_0⟩ := Kd.at_int HR258_2.out x6_2 p259 q259
           cases e259
           replace hx259_0 := (HB.out.cell (World.block_lt_of_cell? w _ hx259_0)).trans hx259_0
           replace p259 := eq_true p259
           replace q259 := eq_true q259
           go_wp2; go_roundg k2
           case measure => have := HK1.out; have := HK2.out; omega
           case rel => exact ⟨(wrap64 (x6_2 + 1)), (by first | rfl | (simp; done) | (simp [*]; done)), H', ⟨by have := HK1.out; have := HK2.out; omega⟩, ⟨by (with_reducible repeat (first | refine blk_drewN ?_ _ | refine blk_drew ?_ | refine blk_alloc ?_ _)); exact BK256.out⟩, ⟨by repeat (first | (with_reducible first | exact HB.out | apply below_alloc | apply pw_below_drewN | apply below_drew1 | refine below_set ?_ GE256.out) | exact HB.out)⟩⟩
         ·rw [if_neg c9] at H
          exact absurd H (by simp)
        ·rw [if_neg c8] at H
         have c8b0 : decide (x6_2 < (((rd_T98 l0_3 x5_1).f2).length : Int)) = false := decide_eq_false c8
         clear c8; have H' := Aside0.mk H; clear H; have hcz13_0 : wr.cell? ⟨gb256, 0, none⟩ = some (.int .i64 a0_0) := (pwC BK256.out 0).trans rfl
         have hcz13_1 : wr.cell? ⟨gb256, 1, none⟩ = some (.string a0_1) := (pwC BK256.out 1).trans rfl
         have hcz13_2 : wr.cell? ⟨gb256, 2, none⟩ = some (.slice A0_2 l0_2.length c0_2) := (pwC BK256.out 2).trans rfl
         have hcz13_3 : wr.cell? ⟨gb256, 3, none⟩ = some (.slice A0_3 l0_3.length c0_3) := (pwC BK256.out 3).trans rfl
         have hcz13_4 : wr.cell? ⟨gb256, 4, none⟩ = some (.int .i64 a0_4) := (pwC BK256.out 4).trans rfl
         have hfz13_0 := blk_frozen BK256.out 0
         have hfz13_1 := blk_frozen BK256.out 1
         have hfz13_2 := blk_frozen BK256.out 2
         have hfz13_3 := blk_frozen BK256.out 3
         have hfz13_4 := blk_frozen BK256.out 4
         have p257 : 0 ≤ (x5_1 : Int) := of_decide_eq_true (by first | (with_reducible assumption) | assumption)
         have q257 : x5_1 < (l0_3.length : Int) := of_decide_eq_true (by first | (with_reducible assumption) | assumption)
         obtain ⟨ad257, A257_2, c257_2, e257, hx257_0, hx257_1, hx257_2, hx257_3, hx257_4, hl257_2, hi257_2⟩ := at_T98 HR0_3.out x5_1 p257 q257
         cases e257
         replace hx257_0 := (HB.out.cell (World.block_lt_of_cell? w _ hx257_0)).trans hx257_0
         replace hx257_1 := (HB.out.cell (World.block_lt_of_cell? w _ hx257_1)).trans hx257_1
         replace hx257_2 := (HB.out.cell (World.block_lt_of_cell? w _ hx257_2)).trans hx257_2
         replace hx257_3 := (HB.out.cell (World.block_lt_of_cell? w _ hx257_3)).trans hx257_3
         replace hx257_4 := (HB.out.cell (World.block_lt_of_cell? w _ hx257_4)).trans hx257_4
         have HR257_2 := Aside0.mk hi257_2; have HC257_2 := Aside0.mk hl257_2; clear hi257_2 hl257_2; replace p257 := eq_true p257
         replace q257 := eq_true q257
         go_wp2; go_roundg k2
         case measure => have := HK1.out; have := HK2.out; omega
         case rel => exact ⟨(wrap64 (x5_1 + 1)), (by first | rfl | (simp; done) | (simp [*]; done)), H', ⟨by have := HK1.out; have := HK2.out; omega⟩, ⟨by (with_reducible repeat (first | refine blk_drewN ?_ _ | refine blk_drew ?_ | refine blk_alloc ?_ _)); exact BK256.out⟩, ⟨by repeat (first | (with_reducible first | exact HB.out | apply below_alloc | apply pw_below_drewN | apply below_drew1 | refine below_set ?_ GE256.out) | exact HB.out)⟩⟩
       ·rw [if_neg c7] at H
        exact absurd H (by simp)
      ·rw [if_neg c6] at H
       exact absurd H (by simp)
   ·rw [if_neg c4] at H
    have c4b0 : decide (x5_1 < (l0_3.length : Int)) = false := decide_eq_false c4
    clear c4; obtain rfl := Option.some.inj H; have hcz14_0 : wr.cell? ⟨gb256, 0, none⟩ = some (.int .i64 a0_0) := (pwC BK256.out 0).trans rfl
    have hcz14_1 : wr.cell? ⟨gb256, 1, none⟩ = some (.string a0_1) := (pwC BK256.out 1).trans rfl
    have hcz14_2 : wr.cell? ⟨gb256, 2, none⟩ = some (.slice A0_2 l0_2.length c0_2) := (pwC BK256.out 2).trans rfl
    have hcz14_3 : wr.cell? ⟨gb256, 3, none⟩ = some (.slice A0_3 l0_3.length c0_3) := (pwC BK256.out 3).trans rfl
    have hcz14_4 : wr.cell? ⟨gb256, 4, none⟩ = some (.int .i64 a0_4) := (pwC BK256.out 4).trans rfl
    have hfz14_0 := blk_frozen BK256.out 0
    have hfz14_1 := blk_frozen BK256.out 1
    have hfz14_2 := blk_frozen BK256.out 2
    have hfz14_3 := blk_frozen BK256.out 3
    have hfz14_4 := blk_frozen BK256.out 4
    go_wp2; go_ret; exact ⟨by first | rfl | (simp [errW_none, errW_some] <;> rfl) | (simp [*, errW_none, errW_some] <;> rfl), by repeat (first | (with_reducible first | exact HB.out | apply below_alloc | apply pw_below_drewN | apply below_drew1 | refine below_set ?_ GE256.out) | exact HB.out)⟩
end Go.Proofs.YtjgomlcdmpcoaaaDoor.D
namespace Go.Proofs.YtjgomlcdmpcoaaaDoor.H
open Go.RowKit Go.Proofs.YtjgomlcdmpcoaaaDoorW.PrintWords Go.Proofs.YtjgomlcdmpcoaaaDoorW.PrintLast Go.Proofs.YtjgomlcdmpcoaaaDoorW.PrintMore
open Go.Proofs.YtjgomlcdmpcoaaaDoor.D Go.Proofs.YtjgomlcdmpcoaaaDoor
set_option linter.unusedVariables false
set_option linter.unusedSimpArgs false
def tName (n : ByteArray) (t : S70) : Bool := decide (t.f1.toList = n.toList)
def tId (i : Int) (t : S70) : Bool := decide (t.f0 = i)
def cId (i : Int) (c : S75) : Bool := decide (c.f0 = i)
def cShown (n : ByteArray) (c : S75) : Bool := decide (c.f1.toList = n.toList) && decide (c.f3 = 4)
def xId (i : Int) (x : S98) : Bool := decide (x.f0 = i)
theorem idxL_lt {α : Type} (p : α → Bool) : ∀ (l : List α) (i : Nat), idxL p l i = -1 ∨ ∃ j : Nat, ∃ h : j < l.length, idxL p l i = ((i + j : Nat) : Int) ∧ p l[j] = true
  | [], i => .inl rfl
  | x :: l, i => by
    unfold idxL
    cases hx : p x with
    | true => exact .inr ⟨0, by simp, by simp, by simpa using hx⟩
    | false =>
      rcases idxL_lt p l (i + 1) with h | ⟨j, hj, h1, h2⟩
      · exact .inl (by simpa using h)
      · exact .inr ⟨j + 1, by simp; omega, by simp [h1]; omega, by simpa using h2⟩
theorem idxL_at {α : Type} (p : α → Bool) (l : List α) : idxL p l 0 = -1 ∨ ∃ j : Nat, ∃ h : j < l.length, idxL p l 0 = (j : Int) ∧ p l[j] = true := by
  rcases idxL_lt p l 0 with h | ⟨j, hj, h1, h2⟩
  · exact .inl h
  · exact .inr ⟨j, hj, by simpa using h1, h2⟩
theorem idxL_cons {α : Type} (p : α → Bool) (x : α) (l : List α) (i : Nat) : idxL p (x :: l) i = if p x then (i : Int) else idxL p l (i + 1) := rfl
theorem table_run (n : ByteArray) (v : Int) (ts : List S70) (nx : Int) (hn : ts.length < 1000000) : ∀ m k i : Nat, i + m = ts.length → m < k →
    falseworkref18_Table.l0 k n i v ts nx = some (idxL (tName n) (ts.drop i) i)
  | 0, k, i, h, hk => by
    obtain ⟨k, rfl⟩ : ∃ k', k = k' + 1 := ⟨k - 1, by omega⟩
    rw [falseworkref18_Table.l0, if_neg (by omega), List.drop_eq_nil_of_le (by omega)]
    rfl
  | m + 1, k, i, h, hk => by
    obtain ⟨k, rfl⟩ : ∃ k', k = k' + 1 := ⟨k - 1, by omega⟩
    have hi : i < ts.length := by omega
    rw [falseworkref18_Table.l0, if_pos (by omega), if_pos (by omega), rd70 _ _ hi, wrap_nat i (by omega), List.drop_eq_getElem_cons hi, table_run n v ts nx hn m k (i + 1) (by omega) (by omega)]
    rw [idxL_cons]
    by_cases e : ts[i].f1.toList = n.toList
    · rw [if_pos e, if_pos (show tName n ts[i] = true from decide_eq_true e)]
    · rw [if_neg e, if_neg (show ¬ tName n ts[i] = true by unfold tName; simp [e])]
theorem shown_run (n : ByteArray) (cs : List S75) (hn : cs.length < 1000000) : ∀ m k i : Nat, i + m = cs.length → m < k →
    falseworkref18_Shown.l0 k cs n i = some (idxL (cShown n) (cs.drop i) i)
  | 0, k, i, h, hk => by
    obtain ⟨k, rfl⟩ : ∃ k', k = k' + 1 := ⟨k - 1, by omega⟩
    rw [falseworkref18_Shown.l0, if_neg (by omega), List.drop_eq_nil_of_le (by omega)]
    rfl
  | m + 1, k, i, h, hk => by
    obtain ⟨k, rfl⟩ : ∃ k', k = k' + 1 := ⟨k - 1, by omega⟩
    have hi : i < cs.length := by omega
    rw [falseworkref18_Shown.l0, if_pos (by omega), if_pos (by omega), rd75 _ _ hi, wrap_nat i (by omega), List.drop_eq_getElem_cons hi, shown_run n cs hn m k (i + 1) (by omega) (by omega)]
    rw [idxL_cons]
    by_cases e : cs[i].f1.toList = n.toList
    · rw [if_pos e]
      by_cases e2 : cs[i].f3 = 4
      · rw [if_pos e2, if_pos (show cShown n cs[i] = true by unfold cShown; simp [e, e2])]
      · rw [if_neg e2, if_neg (show ¬ cShown n cs[i] = true by unfold cShown; simp [e2])]
    · rw [if_neg e, if_neg (show ¬ cShown n cs[i] = true by unfold cShown; simp [e])]
section
variable (t : S70)
def usedB (id : Int) (xs : List S98) : Bool := xs.any fun x => x.f2.any fun y => decide (y = id)
theorem used1_run (id : Int) (i : Nat) (hi : i < t.f3.length) (hn : t.f3[i].f2.length < 1000000) (hx : t.f3.length < 1000000) (K : Nat) (R : Bool) (hR : ∀ k, K < k → falseworkref18_used.l0 k id ((i + 1 : Nat) : Int) t.f0 t.f1 t.f2 t.f3 t.f4 = some R) : ∀ m k j : Nat, j + m = t.f3[i].f2.length → K + m + 1 < k →
    falseworkref18_used.l1 k id i j t.f0 t.f1 t.f2 t.f3 t.f4 = some ((t.f3[i].f2.drop j).any (fun y => decide (y = id)) || R)
  | 0, k, j, h, hk => by
    obtain ⟨k, rfl⟩ : ∃ k', k = k' + 1 := ⟨k - 1, by omega⟩
    rw [falseworkref18_used.l1, if_pos (by omega), if_pos (by omega), rd98 _ _ hi, if_neg (by omega), wrap_nat i (by omega), hR k (by omega), List.drop_eq_nil_of_le (by omega)]
    rfl
  | m + 1, k, j, h, hk => by
    obtain ⟨k, rfl⟩ : ∃ k', k = k' + 1 := ⟨k - 1, by omega⟩
    have hj : j < t.f3[i].f2.length := by omega
    rw [falseworkref18_used.l1, if_pos (by omega), if_pos (by omega), rd98 _ _ hi, if_pos (by omega), if_pos (by omega), rd_nat _ _ hj, wrap_nat j (by omega), used1_run id i hi hn hx K R hR m k (j + 1) (by omega) (by omega)]
    by_cases e : t.f3[i].f2[j] = id
    · rw [if_pos e, List.drop_eq_getElem_cons hj, List.any_cons, decide_eq_true e]; rfl
    · rw [if_neg e, List.drop_eq_getElem_cons hj, List.any_cons, decide_eq_false e, Bool.false_or]
theorem used_run (id : Int) (hx : t.f3.length < 100) (hn : ∀ x ∈ t.f3, x.f2.length < 100) : ∀ m k i : Nat, i + m = t.f3.length → 200 * (m + 1) < k →
    falseworkref18_used.l0 k id i t.f0 t.f1 t.f2 t.f3 t.f4 = some (usedB id (t.f3.drop i))
  | 0, k, i, h, hk => by
    obtain ⟨k, rfl⟩ : ∃ k', k = k' + 1 := ⟨k - 1, by omega⟩
    rw [falseworkref18_used.l0, if_neg (by omega), List.drop_eq_nil_of_le (by omega)]
    rfl
  | m + 1, k, i, h, hk => by
    obtain ⟨k, rfl⟩ : ∃ k', k = k' + 1 := ⟨k - 1, by omega⟩
    have hi : i < t.f3.length := by omega
    have hl := hn _ (List.getElem_mem hi)
    have h1 := used1_run t id i hi (by omega) (by omega) (200 * (m + 1)) (usedB id (t.f3.drop (i + 1))) (fun k hk => used_run id hx hn m k (i + 1) (by omega) hk) t.f3[i].f2.length k 0 (by omega) (by omega)
    rw [falseworkref18_used.l0, if_pos (by omega), List.drop_eq_getElem_cons hi]
    refine h1.trans ?_
    unfold usedB
    rw [List.any_cons, List.drop_zero]
end
def twiceB : List ByteArray → List ByteArray → Bool
  | _, [] => false
  | pre, s :: r => (pre.any fun w => s.toList == w.toList) || twiceB (pre ++ [s]) r
theorem rdB (l : List ByteArray) (i : Nat) (h : i < l.length) : rdOf ByteArray.empty l (i : Int) = l[i] := by unfold rdOf; simp [List.getD, h]
theorem twice1_run (l : List ByteArray) (i : Nat) (hi : i < l.length) (hn : l.length < 1000000) (K : Nat) (R : Bool) (hR : ∀ k, K < k → falseworkref18_twice.l0 k l ((i + 1 : Nat) : Int) = some R) : ∀ m k j : Nat, j + m = i → K + m + 1 < k →
    falseworkref18_twice.l1 k l i j = some (((l.take i).drop j).any (fun w => l[i].toList == w.toList) || R)
  | 0, k, j, h, hk => by
    obtain ⟨k, rfl⟩ : ∃ k', k = k' + 1 := ⟨k - 1, by omega⟩
    rw [falseworkref18_twice.l1, if_neg (by omega), wrap_nat i (by omega), hR k (by omega), List.drop_eq_nil_of_le (by rw [List.length_take]; omega)]
    rfl
  | m + 1, k, j, h, hk => by
    obtain ⟨k, rfl⟩ : ∃ k', k = k' + 1 := ⟨k - 1, by omega⟩
    have hj : j < (l.take i).length := by rw [List.length_take]; omega
    have hj' : j < l.length := by omega
    rw [falseworkref18_twice.l1, if_pos (by omega), if_pos (by omega), if_pos (by omega), if_pos (by omega), if_pos (by omega), rdB _ _ hi, rdB _ _ hj', wrap_nat j (by omega), twice1_run l i hi hn K R hR m k (j + 1) (by omega) (by omega), List.drop_eq_getElem_cons hj]
    rw [List.getElem_take]
    by_cases e : l[j].toList = l[i].toList
    · rw [if_pos e]; simp [e]
    · rw [if_neg e, List.any_cons, beq_eq_false_iff_ne.2 (Ne.symm e), Bool.false_or]
theorem twice_run (l : List ByteArray) (hn : l.length < 100) : ∀ m k i : Nat, i + m = l.length → 200 * (m + 1) < k → falseworkref18_twice.l0 k l i = some (twiceB (l.take i) (l.drop i))
  | 0, k, i, h, hk => by
    obtain ⟨k, rfl⟩ : ∃ k', k = k' + 1 := ⟨k - 1, by omega⟩
    rw [falseworkref18_twice.l0, if_neg (by omega), List.drop_eq_nil_of_le (by omega)]
    rfl
  | m + 1, k, i, h, hk => by
    obtain ⟨k, rfl⟩ : ∃ k', k = k' + 1 := ⟨k - 1, by omega⟩
    have hi : i < l.length := by omega
    have h1 := twice1_run l i hi (by omega) (200 * (m + 1)) (twiceB (l.take (i + 1)) (l.drop (i + 1))) (fun k hk => twice_run l hn m k (i + 1) (by omega) hk) i k 0 (by omega) (by omega)
    rw [falseworkref18_twice.l0, if_pos (by omega), List.drop_eq_getElem_cons hi]
    refine h1.trans ?_
    rw [List.drop_zero, twiceB, List.take_succ_eq_append_getElem hi]
def elemI (t : S70) (kind elem : Int) : Int :=
  if kind = 6 ∨ kind = 7 then (if 0 ≤ idxL (xId elem) t.f3 0 then (rd_T98 t.f3 (idxL (xId elem) t.f3 0)).f4 else -1)
  else if 8 ≤ kind ∧ kind ≤ 11 then (if 0 ≤ idxL (cId elem) t.f2 0 then (if kind < 10 then (rd_T75 t.f2 (idxL (cId elem) t.f2 0)).f3 else (rd_T75 t.f2 (idxL (cId elem) t.f2 0)).f4) else -1)
  else -1
def stateI (v : Int) (ts : List S70) (nx : Int) (kind table elem : Int) : Int :=
  if 0 ≤ idxL (tId table) ts 0 then (if schB v ts nx = true then elemI (rd_T70 ts (idxL (tId table) ts 0)) kind elem else -1) else -1
end Go.Proofs.YtjgomlcdmpcoaaaDoor.H
