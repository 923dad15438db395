/- Own texts of this session, packed by its program wip/pp/pack.py: lemmas and walks of functions. -/
import Derived.Lib.Hide
import Derived.OneCell
import Derived.Deep.RegionHeld3
import Derived.Deep.AppendLies
import Derived.Outline
import Derived.IntWalk
import Derived.Deep.RegionLaw
import Derived.Lib.AppendStr
import Derived.Laws.BitsAllLaws
import Derived.Test.YtjgomlcdmpcoaaaDoorKEnds1
import Derived.Test.YtjgomlcdmpcoaaaDoorKEnds6
import Derived.Test.YtjgomlcdmpcoaaaDoorKEnds7
namespace Go.Proofs.YtjgomlcdmpcoaaaDoor.D
open Go.RowKit Go.Proofs.YtjgomlcdmpcoaaaDoorW.PrintWords Go.Proofs.YtjgomlcdmpcoaaaDoorW.PrintLast Go.Proofs.YtjgomlcdmpcoaaaDoorW.PrintMore
attribute [local go_sem] max2_int min2_int max_two min_two max_three min_three max_four min_four
set_option linter.unusedVariables false
set_option linter.unusedSimpArgs false
def falseworkref18_Shown.l0 : Nat → List (S75) → ByteArray → Int → Option (Int)
 | 0, _, _, _ => none
 | k + 1, x0, x1, x5 => if x5 < (x0.length : Int) then (if 0 ≤ x5 then (if ((rd_T75 x0 x5).f1).toList = x1.toList then (if ((rd_T75 x0 x5).f3) = 4 then (some x5) else (falseworkref18_Shown.l0 k x0 x1 (wrap64 (x5 + 1)))) else (falseworkref18_Shown.l0 k x0 x1 (wrap64 (x5 + 1)))) else (none)) else (some (-1))
def falseworkref18_Shown.f (k : Nat) (l0 : List (S75)) (a1 : ByteArray) : Option (Int) := falseworkref18_Shown.l0 k l0 a1 0
theorem falseworkref18_Shown.mono_l : ∀ k, (∀ y0 y1 y2, LeO (falseworkref18_Shown.l0 k y0 y1 y2) (falseworkref18_Shown.l0 (k + 1) y0 y1 y2))
 | 0 => fun _ _ _ r h => by simp [falseworkref18_Shown.l0] at h
 | k + 1 => by
  have ih0 := falseworkref18_Shown.mono_l k
  ·intro y0 y1 y2
   unfold falseworkref18_Shown.l0
   repeat' first
   | (with_reducible exact ih0 _ _ _)
   | (with_reducible exact LeO.refl _)
   | (with_reducible exact LeO.none _)
   | (with_reducible refine LeO.ite ?_ ?_)
   | (with_reducible refine LeO.bind ?_ (fun _ => ?_))
   | exact ih0 _ _ _
   | exact LeO.none _
   | refine LeO.ite ?_ ?_
   | refine LeO.bind ?_ (fun _ => ?_)
theorem falseworkref18_Shown.mono : ∀ a0 a1 k, LeO (falseworkref18_Shown.f k a0 a1) (falseworkref18_Shown.f (k + 1) a0 a1) := by
 intro a0 a1 k
 have ih0 := falseworkref18_Shown.mono_l k
 unfold falseworkref18_Shown.f
 repeat' first
   | (with_reducible exact ih0 _ _ _)
   | (with_reducible exact LeO.refl _)
   | (with_reducible exact LeO.none _)
   | (with_reducible refine LeO.ite ?_ ?_)
   | (with_reducible refine LeO.bind ?_ (fun _ => ?_))
   | exact ih0 _ _ _
   | exact LeO.none _
   | refine LeO.ite ?_ ?_
   | refine LeO.bind ?_ (fun _ => ?_)
set_option maxHeartbeats 8000000 in
set_option maxRecDepth 100000 in
theorem falseworkref18_Shown.calls (k : Nat) (A0 : Option Addr) (c0 : Nat) (l0 : List (S75)) (a1 : ByteArray) (r : Int) (w : World) (hr0 : Kd.C k75 w A0 l0.length l0) (hc0 : l0.length ≤ c0) (h : falseworkref18_Shown.f k l0 a1 = some r) :
  Calls Tryd.prog 117 #[.slice A0 l0.length c0, .string a1] w fun e w' => e = .returned (.int .i64 r) ∧ Drawn0 w w' := by
 have HR0 := Aside0.mk hr0; have HC0 := Aside0.mk hc0; clear hr0 hc0; have H : (falseworkref18_Shown.l0 k l0 a1 0) = some r := h
 clear h; have H' := Aside0.mk H; clear H; go_enter Tryd.func117, Tryd.ntmps117
 go_wp2; go_loopg [5] k (fun kq v5 w' => ∃ (x5_1 : Int), v5 = .int .i64 x5_1 ∧ Aside0 (falseworkref18_Shown.l0 kq l0 a1 x5_1 = some r) ∧ Aside0 (kq ≤ k) ∧ Drawn0 w w')
 case atStart => exact ⟨(0), (by first | rfl | (simp; done) | (simp [*]; done)), H', ⟨Nat.le_refl _⟩, by repeat (first | exact Drawn0.refl _ | apply Drawn0.step)⟩
 case round =>
  clear H'; (try clear c1); (try clear p2); obtain ⟨x5_1, rfl, HA, HK1, ⟨m1, rfl⟩⟩ := hrel
  cases gk with
  | zero => exact absurd HA.out (by simp [falseworkref18_Shown.l0])
  | succ k1 =>
   have H := HA.out; clear HA; simp only [falseworkref18_Shown.l0] at H
   by_cases c3 : x5_1 < (l0.length : Int)
   ·rw [if_pos c3] at H
    have c3b0 : decide (x5_1 < (l0.length : Int)) = true := decide_eq_true c3
    clear c3; by_cases c4 : 0 ≤ x5_1
    ·rw [if_pos c4] at H
     have c4b0 : decide (0 ≤ x5_1) = true := decide_eq_true c4
     clear c4; by_cases c5 : ((rd_T75 l0 x5_1).f1).toList = a1.toList
     ·rw [if_pos c5] at H
      have c5b0 : (((rd_T75 l0 x5_1).f1).toList == a1.toList) = true := beq_iff_eq.mpr c5
      have c5b1 : (((rd_T75 l0 x5_1).f1).toList != a1.toList) = false := bne_eq_false_iff_eq.mpr c5
      clear c5; by_cases c6 : ((rd_T75 l0 x5_1).f3) = 4
      ·rw [if_pos c6] at H
       have c6b0 : (((rd_T75 l0 x5_1).f3) == 4) = true := beq_iff_eq.mpr c6
       have c6b1 : (((rd_T75 l0 x5_1).f3) != 4) = false := bne_eq_false_iff_eq.mpr c6
       clear c6; obtain rfl := Option.some.inj H; have p237 : 0 ≤ (x5_1 : Int) := of_decide_eq_true (by first | (with_reducible assumption) | assumption)
       have q237 : x5_1 < (l0.length : Int) := of_decide_eq_true (by first | (with_reducible assumption) | assumption)
       obtain ⟨ad237, e237, hx237_0, hx237_1, hx237_2, hx237_3, hx237_4, hx237_5, hx237_6, hx237_7, hx237_8⟩ := at_T75 HR0.out x5_1 p237 q237
       cases e237
       replace p237 := eq_true p237
       replace q237 := eq_true q237
       have p238 : 0 ≤ (x5_1 : Int) := of_decide_eq_true (by first | (with_reducible assumption) | assumption)
       have q238 : x5_1 < (l0.length : Int) := of_decide_eq_true (by first | (with_reducible assumption) | assumption)
       obtain ⟨ad238, e238, hx238_0, hx238_1, hx238_2, hx238_3, hx238_4, hx238_5, hx238_6, hx238_7, hx238_8⟩ := at_T75 HR0.out x5_1 p238 q238
       obtain rfl : ad237 = ad238 := (by injection e238)
       replace p238 := eq_true p238
       replace q238 := eq_true q238
       go_wp2; go_ret; exact ⟨by first | rfl | (simp; done) | (simp [*]; done), by repeat (first | exact Drawn0.refl _ | apply Drawn0.step)⟩
      ·rw [if_neg c6] at H
       have c6b0 : (((rd_T75 l0 x5_1).f3) == 4) = false := beq_eq_false_iff_ne.mpr c6
       have c6b1 : (((rd_T75 l0 x5_1).f3) != 4) = true := bne_iff_ne.mpr c6
       have H' := Aside0.mk H; clear H; have p237 : 0 ≤ (x5_1 : Int) := of_decide_eq_true (by first | (with_reducible assumption) | assumption)
       have q237 : x5_1 < (l0.length : Int) := of_decide_eq_true (by first | (with_reducible assumption) | assumption)
       obtain ⟨ad237, e237, hx237_0, hx237_1, hx237_2, hx237_3, hx237_4, hx237_5, hx237_6, hx237_7, hx237_8⟩ := at_T75 HR0.out x5_1 p237 q237
       cases e237
       replace p237 := eq_true p237
       replace q237 := eq_true q237
       have p238 : 0 ≤ (x5_1 : Int) := of_decide_eq_true (by first | (with_reducible assumption) | assumption)
       have q238 : x5_1 < (l0.length : Int) := of_decide_eq_true (by first | (with_reducible assumption) | assumption)
       obtain ⟨ad238, e238, hx238_0, hx238_1, hx238_2, hx238_3, hx238_4, hx238_5, hx238_6, hx238_7, hx238_8⟩ := at_T75 HR0.out x5_1 p238 q238
       obtain rfl : ad237 = ad238 := (by injection e238)
       replace p238 := eq_true p238
       replace q238 := eq_true q238
       go_wp2; go_roundg k1
       case measure => have := HK1.out; omega
       case rel => exact ⟨(wrap64 (x5_1 + 1)), (by first | rfl | (simp; done) | (simp [*]; done)), H', ⟨by have := HK1.out; omega⟩, by repeat (first | exact Drawn0.refl _ | apply Drawn0.step)⟩
     ·rw [if_neg c5] at H
      have c5b0 : (((rd_T75 l0 x5_1).f1).toList == a1.toList) = false := beq_eq_false_iff_ne.mpr c5
      have c5b1 : (((rd_T75 l0 x5_1).f1).toList != a1.toList) = true := bne_iff_ne.mpr c5
      have H' := Aside0.mk H; clear H; have p237 : 0 ≤ (x5_1 : Int) := of_decide_eq_true (by first | (with_reducible assumption) | assumption)
      have q237 : x5_1 < (l0.length : Int) := of_decide_eq_true (by first | (with_reducible assumption) | assumption)
      obtain ⟨ad237, e237, hx237_0, hx237_1, hx237_2, hx237_3, hx237_4, hx237_5, hx237_6, hx237_7, hx237_8⟩ := at_T75 HR0.out x5_1 p237 q237
      cases e237
      replace p237 := eq_true p237
      replace q237 := eq_true q237
      go_wp2; go_roundg k1
      case measure => have := HK1.out; omega
      case rel => exact ⟨(wrap64 (x5_1 + 1)), (by first | rfl | (simp; done) | (simp [*]; done)), H', ⟨by have := HK1.out; omega⟩, by repeat (first | exact Drawn0.refl _ | apply Drawn0.step)⟩
    ·rw [if_neg c4] at H
     exact absurd H (by simp)
   ·rw [if_neg c3] at H
    have c3b0 : decide (x5_1 < (l0.length : Int)) = false := decide_eq_false c3
    clear c3; obtain rfl := Option.some.inj H; go_wp2; go_ret; exact ⟨by first | rfl | (simp; done) | (simp [*]; done), by repeat (first | exact Drawn0.refl _ | apply Drawn0.step)⟩
end Go.Proofs.YtjgomlcdmpcoaaaDoor.D
namespace Go.Proofs.YtjgomlcdmpcoaaaDoor.D
open Go.RowKit Go.Proofs.YtjgomlcdmpcoaaaDoorW.PrintWords Go.Proofs.YtjgomlcdmpcoaaaDoorW.PrintLast Go.Proofs.YtjgomlcdmpcoaaaDoorW.PrintMore
attribute [local go_sem] max2_int min2_int max_two min_two max_three min_three max_four min_four
set_option linter.unusedVariables false
set_option linter.unusedSimpArgs false
mutual
def falseworkref18_twice.l0 : Nat → List ByteArray → Int → Option (Bool)
 | 0, _, _ => none
 | k + 1, x0, x3 => if x3 < (x0.length : Int) then (falseworkref18_twice.l1 k x0 x3 0) else (some false)
def falseworkref18_twice.l1 : Nat → List ByteArray → Int → Int → Option (Bool)
 | 0, _, _, _ => none
 | k + 1, x0, x3, x4 => if x4 < x3 then (if 0 ≤ x4 then (if x4 < (x0.length : Int) then (if 0 ≤ x3 then (if x3 < (x0.length : Int) then (if (rdOf ByteArray.empty x0 x4).toList = (rdOf ByteArray.empty x0 x3).toList then (some true) else (falseworkref18_twice.l1 k x0 x3 (wrap64 (x4 + 1)))) else (none)) else (none)) else (none)) else (none)) else (falseworkref18_twice.l0 k x0 (wrap64 (x3 + 1)))
end
def falseworkref18_twice.f (k : Nat) (l0 : List ByteArray) : Option (Bool) := falseworkref18_twice.l0 k l0 0
theorem falseworkref18_twice.mono_l : ∀ k, (∀ y0 y1, LeO (falseworkref18_twice.l0 k y0 y1) (falseworkref18_twice.l0 (k + 1) y0 y1)) ∧ (∀ y0 y1 y2, LeO (falseworkref18_twice.l1 k y0 y1 y2) (falseworkref18_twice.l1 (k + 1) y0 y1 y2))
 | 0 => ⟨fun _ _ r h => by simp [falseworkref18_twice.l0] at h, fun _ _ _ r h => by simp [falseworkref18_twice.l1] at h⟩
 | k + 1 => by
  obtain ⟨ih0, ih1⟩ := falseworkref18_twice.mono_l k
  refine ⟨?_, ?_⟩
  ·intro y0 y1
   unfold falseworkref18_twice.l0
   repeat' first
   | (with_reducible exact ih0 _ _)
   | (with_reducible exact ih1 _ _ _)
   | (with_reducible exact LeO.refl _)
   | (with_reducible exact LeO.none _)
   | (with_reducible refine LeO.ite ?_ ?_)
   | (with_reducible refine LeO.bind ?_ (fun _ => ?_))
   | exact ih0 _ _
   | exact ih1 _ _ _
   | exact LeO.none _
   | refine LeO.ite ?_ ?_
   | refine LeO.bind ?_ (fun _ => ?_)
  ·intro y0 y1 y2
   unfold falseworkref18_twice.l1
   repeat' first
   | (with_reducible exact ih0 _ _)
   | (with_reducible exact ih1 _ _ _)
   | (with_reducible exact LeO.refl _)
   | (with_reducible exact LeO.none _)
   | (with_reducible refine LeO.ite ?_ ?_)
   | (with_reducible refine LeO.bind ?_ (fun _ => ?_))
   | exact ih0 _ _
   | exact ih1 _ _ _
   | exact LeO.none _
   | refine LeO.ite ?_ ?_
   | refine LeO.bind ?_ (fun _ => ?_)
theorem falseworkref18_twice.mono : ∀ a0 k, LeO (falseworkref18_twice.f k a0) (falseworkref18_twice.f (k + 1) a0) := by
 intro a0 k
 obtain ⟨ih0, ih1⟩ := falseworkref18_twice.mono_l k
 unfold falseworkref18_twice.f
 repeat' first
   | (with_reducible exact ih0 _ _)
   | (with_reducible exact ih1 _ _ _)
   | (with_reducible exact LeO.refl _)
   | (with_reducible exact LeO.none _)
   | (with_reducible refine LeO.ite ?_ ?_)
   | (with_reducible refine LeO.bind ?_ (fun _ => ?_))
   | exact ih0 _ _
   | exact ih1 _ _ _
   | exact LeO.none _
   | refine LeO.ite ?_ ?_
   | refine LeO.bind ?_ (fun _ => ?_)
set_option maxHeartbeats 8000000 in
set_option maxRecDepth 100000 in
theorem falseworkref18_twice.calls (k : Nat) (A0 : Option Addr) (c0 : Nat) (l0 : List ByteArray) (r : Bool) (w : World) (hr0 : Kd.C Kd.string w A0 l0.length l0) (hc0 : l0.length ≤ c0) (h : falseworkref18_twice.f k l0 = some r) :
  Calls Tryd.prog 61 #[.slice A0 l0.length c0] w fun e w' => e = .returned (.bool r) ∧ Drawn0 w w' := by
 have HR0 := Aside0.mk hr0; have HC0 := Aside0.mk hc0; clear hr0 hc0; have H : (falseworkref18_twice.l0 k l0 0) = some r := h
 clear h; have H' := Aside0.mk H; clear H; go_enter Tryd.func61, Tryd.ntmps61
 go_wp2
 repeat (go_quiet (fail); try go_wp2)
 go_loopg [3] k (fun kq v3 w' => ∃ (x3_1 : Int), v3 = .int .i64 x3_1 ∧ Aside0 (falseworkref18_twice.l0 kq l0 x3_1 = some r) ∧ Aside0 (kq ≤ k) ∧ Drawn0 w w')
 case atStart => exact ⟨(0), (by first | rfl | (simp; done) | (simp [*]; done)), H', ⟨Nat.le_refl _⟩, by repeat (first | exact Drawn0.refl _ | apply Drawn0.step)⟩
 case round =>
  clear H'; obtain ⟨x3_1, rfl, HA, HK1, ⟨m1, rfl⟩⟩ := hrel
  cases gk with
  | zero => exact absurd HA.out (by simp [falseworkref18_twice.l0])
  | succ k1 =>
   have H := HA.out; clear HA; simp only [falseworkref18_twice.l0] at H
   by_cases c2 : x3_1 < (l0.length : Int)
   ·rw [if_pos c2] at H
    have c2b0 : decide (x3_1 < (l0.length : Int)) = true := decide_eq_true c2
    clear c2; have H' := Aside0.mk H; clear H; go_wp2
    repeat (go_quiet (fail); try go_wp2)
    go_loopg [4] k1 (fun kq v4 w' => ∃ (x4_2 : Int), v4 = .int .i64 x4_2 ∧ Aside0 (falseworkref18_twice.l1 kq l0 x3_1 x4_2 = some r) ∧ Aside0 (kq ≤ k1) ∧ Drawn0 w w')
    case atStart => exact ⟨(0), (by first | rfl | (simp; done) | (simp [*]; done)), H', ⟨Nat.le_refl _⟩, by repeat (first | exact Drawn0.refl _ | apply Drawn0.step)⟩
    case round =>
     clear H'; (try clear c2); (try clear c2b0); (try clear p2); obtain ⟨x4_2, rfl, HA, HK2, ⟨m2, rfl⟩⟩ := hrel
     cases gk with
     | zero => exact absurd HA.out (by simp [falseworkref18_twice.l1])
     | succ k2 =>
      have H := HA.out; clear HA; simp only [falseworkref18_twice.l1] at H
      by_cases c3 : x4_2 < x3_1
      ·rw [if_pos c3] at H
       have c3b0 : decide (x4_2 < x3_1) = true := decide_eq_true c3
       clear c3; by_cases c4 : 0 ≤ x4_2
       ·rw [if_pos c4] at H
        have c4b0 : decide (0 ≤ x4_2) = true := decide_eq_true c4
        clear c4; by_cases c5 : x4_2 < (l0.length : Int)
        ·rw [if_pos c5] at H
         have c5b0 : decide (x4_2 < (l0.length : Int)) = true := decide_eq_true c5
         clear c5; by_cases c6 : 0 ≤ x3_1
         ·rw [if_pos c6] at H
          have c6b0 : decide (0 ≤ x3_1) = true := decide_eq_true c6
          clear c6; by_cases c7 : x3_1 < (l0.length : Int)
          ·rw [if_pos c7] at H
           have c7b0 : decide (x3_1 < (l0.length : Int)) = true := decide_eq_true c7
           clear c7; by_cases c8 : (rdOf ByteArray.empty l0 x4_2).toList = (rdOf ByteArray.empty l0 x3_1).toList
           ·rw [if_pos c8] at H
            have c8b0 : ((rdOf ByteArray.empty l0 x4_2).toList == (rdOf ByteArray.empty l0 x3_1).toList) = true := beq_iff_eq.mpr c8
            have c8b1 : ((rdOf ByteArray.empty l0 x4_2).toList != (rdOf ByteArray.empty l0 x3_1).toList) = false := bne_eq_false_iff_eq.mpr c8
            clear c8; obtain rfl := Option.some.inj H; have p205 : 0 ≤ (x4_2 : Int) := of_decide_eq_true (by first | (with_reducible assumption) | assumption)
            have q205 : x4_2 < (l0.length : Int) := of_decide_eq_true (by first | (with_reducible assumption) | assumption)
            obtain ⟨ad205, e205, hx205_0⟩ := Kd.at_string HR0.out x4_2 p205 q205
            cases e205
            replace p205 := eq_true p205
            replace q205 := eq_true q205
            have p206 : 0 ≤ (x3_1 : Int) := of_decide_eq_true (by first | (with_reducible assumption) | assumption)
            have q206 : x3_1 < (l0.length : Int) := of_decide_eq_true (by first | (with_reducible assumption) | assumption)
            obtain ⟨ad206, e206, hx206_0⟩ := Kd.at_string HR0.out x3_1 p206 q206
            obtain rfl : ad205 = ad206 := (by injection e206)
            replace p206 := eq_true p206
            replace q206 := eq_true q206
            go_wp2
            repeat (go_quiet (fail); try go_wp2)
            go_ret; exact ⟨by first | rfl | (simp; done) | (simp [*]; done), by repeat (first | exact Drawn0.refl _ | apply Drawn0.step)⟩
           ·rw [if_neg c8] at H
            have c8b0 : ((rdOf ByteArray.empty l0 x4_2).toList == (rdOf ByteArray.empty l0 x3_1).toList) = false := beq_eq_false_iff_ne.mpr c8
            have c8b1 : ((rdOf ByteArray.empty l0 x4_2).toList != (rdOf ByteArray.empty l0 x3_1).toList) = true := bne_iff_ne.mpr c8
            have H' := Aside0.mk H; clear H; have p205 : 0 ≤ (x4_2 : Int) := of_decide_eq_true (by first | (with_reducible assumption) | assumption)
            have q205 : x4_2 < (l0.length : Int) := of_decide_eq_true (by first | (with_reducible assumption) | assumption)
            obtain ⟨ad205, e205, hx205_0⟩ := Kd.at_string HR0.out x4_2 p205 q205
            cases e205
            replace p205 := eq_true p205
            replace q205 := eq_true q205
            have p206 : 0 ≤ (x3_1 : Int) := of_decide_eq_true (by first | (with_reducible assumption) | assumption)
            have q206 : x3_1 < (l0.length : Int) := of_decide_eq_true (by first | (with_reducible assumption) | assumption)
            obtain ⟨ad206, e206, hx206_0⟩ := Kd.at_string HR0.out x3_1 p206 q206
            obtain rfl : ad205 = ad206 := (by injection e206)
            replace p206 := eq_true p206
            replace q206 := eq_true q206
            go_wp2
            repeat (go_quiet (fail); try go_wp2)
            go_roundg k2
            case measure => have := HK1.out; have := HK2.out; omega
            case rel => exact ⟨(wrap64 (x4_2 + 1)), (by first | rfl | (simp; done) | (simp [*]; done)), H', ⟨by have := HK1.out; have := HK2.out; omega⟩, by repeat (first | exact Drawn0.refl _ | apply Drawn0.step)⟩
          ·rw [if_neg c7] at H
           exact absurd H (by simp)
         ·rw [if_neg c6] at H
          exact absurd H (by simp)
        ·rw [if_neg c5] at H
         exact absurd H (by simp)
       ·rw [if_neg c4] at H
        exact absurd H (by simp)
      ·rw [if_neg c3] at H
       have c3b0 : decide (x4_2 < x3_1) = false := decide_eq_false c3
       clear c3; have H' := Aside0.mk H; clear H; go_wp2
       repeat (go_quiet (fail); try go_wp2)
       go_roundg k2
       case measure => have := HK1.out; have := HK2.out; omega
       case rel => exact ⟨(wrap64 (x3_1 + 1)), (by first | rfl | (simp; done) | (simp [*]; done)), H', ⟨by have := HK1.out; have := HK2.out; omega⟩, by repeat (first | exact Drawn0.refl _ | apply Drawn0.step)⟩
   ·rw [if_neg c2] at H
    have c2b0 : decide (x3_1 < (l0.length : Int)) = false := decide_eq_false c2
    clear c2; obtain rfl := Option.some.inj H; go_wp2
    repeat (go_quiet (fail); try go_wp2)
    go_ret; exact ⟨by first | rfl | (simp; done) | (simp [*]; done), by repeat (first | exact Drawn0.refl _ | apply Drawn0.step)⟩
end Go.Proofs.YtjgomlcdmpcoaaaDoor.D
namespace Go.Proofs.YtjgomlcdmpcoaaaDoor.D
open Go.RowKit Go.Proofs.YtjgomlcdmpcoaaaDoorW.PrintWords Go.Proofs.YtjgomlcdmpcoaaaDoorW.PrintLast Go.Proofs.YtjgomlcdmpcoaaaDoorW.PrintMore
attribute [local go_sem] max2_int min2_int max_two min_two max_three min_three max_four min_four
set_option linter.unusedVariables false
set_option linter.unusedSimpArgs false
mutual
def falseworkref18_used.l0 : Nat → Int → Int → Int → ByteArray → List (S75) → List (S98) → Int → Option (Bool)
 | 0, _, _, _, _, _, _, _ => none
 | k + 1, x1, x5, x257000, x257001, x257002, x257003, x257004 => if x5 < (x257003.length : Int) then (falseworkref18_used.l1 k x1 x5 0 x257000 x257001 x257002 x257003 x257004) else (some false)
def falseworkref18_used.l1 : Nat → Int → Int → Int → Int → ByteArray → List (S75) → List (S98) → Int → Option (Bool)
 | 0, _, _, _, _, _, _, _, _ => none
 | k + 1, x1, x5, x6, x257000, x257001, x257002, x257003, x257004 => if 0 ≤ x5 then (if x5 < (x257003.length : Int) then (if x6 < (((rd_T98 x257003 x5).f2).length : Int) then (if 0 ≤ x6 then (if (rd ((rd_T98 x257003 x5).f2) x6) = x1 then (some true) else (falseworkref18_used.l1 k x1 x5 (wrap64 (x6 + 1)) x257000 x257001 x257002 x257003 x257004)) else (none)) else (falseworkref18_used.l0 k x1 (wrap64 (x5 + 1)) x257000 x257001 x257002 x257003 x257004)) else (none)) else (none)
end
def falseworkref18_used.f (k : Nat) (a0_0 : Int) (a0_1 : ByteArray) (l0_2 : List (S75)) (l0_3 : List (S98)) (a0_4 : Int) (a1 : Int) : Option (Bool) := falseworkref18_used.l0 k a1 0 a0_0 a0_1 l0_2 l0_3 a0_4
theorem falseworkref18_used.mono_l : ∀ k, (∀ y0 y1 y2 y3 y4 y5 y6, LeO (falseworkref18_used.l0 k y0 y1 y2 y3 y4 y5 y6) (falseworkref18_used.l0 (k + 1) y0 y1 y2 y3 y4 y5 y6)) ∧ (∀ y0 y1 y2 y3 y4 y5 y6 y7, LeO (falseworkref18_used.l1 k y0 y1 y2 y3 y4 y5 y6 y7) (falseworkref18_used.l1 (k + 1) y0 y1 y2 y3 y4 y5 y6 y7))
 | 0 => ⟨fun _ _ _ _ _ _ _ r h => by simp [falseworkref18_used.l0] at h, fun _ _ _ _ _ _ _ _ r h => by simp [falseworkref18_used.l1] at h⟩
 | k + 1 => by
  obtain ⟨ih0, ih1⟩ := falseworkref18_used.mono_l k
  refine ⟨?_, ?_⟩
  ·intro y0 y1 y2 y3 y4 y5 y6
   unfold falseworkref18_used.l0
   repeat' first
   | (with_reducible exact ih0 _ _ _ _ _ _ _)
   | (with_reducible exact ih1 _ _ _ _ _ _ _ _)
   | (with_reducible exact LeO.refl _)
   | (with_reducible exact LeO.none _)
   | (with_reducible refine LeO.ite ?_ ?_)
   | (with_reducible refine LeO.bind ?_ (fun _ => ?_))
   | exact ih0 _ _ _ _ _ _ _
   | exact ih1 _ _ _ _ _ _ _ _
   | exact LeO.none _
   | refine LeO.ite ?_ ?_
   | refine LeO.bind ?_ (fun _ => ?_)
  ·intro y0 y1 y2 y3 y4 y5 y6 y7
   unfold falseworkref18_used.l1
   repeat' first
   | (with_reducible exact ih0 _ _ _ _ _ _ _)
   | (with_reducible exact ih1 _ _ _ _ _ _ _ _)
   | (with_reducible exact LeO.refl _)
   | (with_reducible exact LeO.none _)
   | (with_reducible refine LeO.ite ?_ ?_)
   | (with_reducible refine LeO.bind ?_ (fun _ => ?_))
   | exact ih0 _ _ _ _ _ _ _
   | exact ih1 _ _ _ _ _ _ _ _
   | exact LeO.none _
   | refine LeO.ite ?_ ?_
   | refine LeO.bind ?_ (fun _ => ?_)
theorem falseworkref18_used.mono : ∀ a0 a1 a2 a3 a4 a5 k, LeO (falseworkref18_used.f k a0 a1 a2 a3 a4 a5) (falseworkref18_used.f (k + 1) a0 a1 a2 a3 a4 a5) := by
 intro a0 a1 a2 a3 a4 a5 k
 obtain ⟨ih0, ih1⟩ := falseworkref18_used.mono_l k
 unfold falseworkref18_used.f
 repeat' first
   | (with_reducible exact ih0 _ _ _ _ _ _ _)
   | (with_reducible exact ih1 _ _ _ _ _ _ _ _)
   | (with_reducible exact LeO.refl _)
   | (with_reducible exact LeO.none _)
   | (with_reducible refine LeO.ite ?_ ?_)
   | (with_reducible refine LeO.bind ?_ (fun _ => ?_))
   | exact ih0 _ _ _ _ _ _ _
   | exact ih1 _ _ _ _ _ _ _ _
   | exact LeO.none _
   | refine LeO.ite ?_ ?_
   | refine LeO.bind ?_ (fun _ => ?_)
set_option maxHeartbeats 8000000 in
set_option maxRecDepth 100000 in
theorem falseworkref18_used.calls (k : Nat) (a0_0 : Int) (a0_1 : ByteArray) (A0_2 : Option Addr) (c0_2 : Nat) (l0_2 : List (S75)) (A0_3 : Option Addr) (c0_3 : Nat) (l0_3 : List (S98)) (a0_4 : Int) (a1 : Int) (r : Bool) (w : World) (hr0_2 : Kd.C k75 w A0_2 l0_2.length l0_2) (hc0_2 : l0_2.length ≤ c0_2) (hr0_3 : Kd.C k98 w A0_3 l0_3.length l0_3) (hc0_3 : l0_3.length ≤ c0_3) (h : falseworkref18_used.f k a0_0 a0_1 l0_2 l0_3 a0_4 a1 = some r) :
  Calls Tryd.prog 68 #[.agg #[.int .i64 a0_0, .string a0_1, .slice A0_2 l0_2.length c0_2, .slice A0_3 l0_3.length c0_3, .int .i64 a0_4], .int .i64 a1] w fun e w' => e = .returned (.bool r) ∧ Below w.heap.size w w' := by
 have hu70 := Tryd.underlying70
 have HR0_2 := Aside0.mk hr0_2; have HC0_2 := Aside0.mk hc0_2; clear hr0_2 hc0_2; have HR0_3 := Aside0.mk hr0_3; have HC0_3 := Aside0.mk hc0_3; clear hr0_3 hc0_3; have HB := Aside0.mk (Below.refl w.heap.size w)
 have H : (falseworkref18_used.l0 k a1 0 a0_0 a0_1 l0_2 l0_3 a0_4) = some r := h
 clear h; have H' := Aside0.mk H; clear H; go_enter Tryd.func68, Tryd.ntmps68
 go_wp2_with (first | ((with_reducible refine gate_dst (N := 2) rfl ?_); refine box_event ?hg (N := 2) ?hd (cs := #[.int .i64 a0_0, .string a0_1, .slice A0_2 l0_2.length c0_2, .slice A0_3 l0_3.length c0_3, .int .i64 a0_4]) (t := 70) ?hr ?_; (case hd => rfl); (case hg => rfl); (case hr => first | (go_simp; done) | (go_simp; rfl)); intro gb256 hg w3 hbox hb; have n0_ := Aside0.mk (below_step (by repeat (first | (with_reducible first | exact HB.out | apply below_alloc | apply pw_below_drewN | apply below_drew1) | exact HB.out)) hb); have n1_ := Aside0.mk (hbox); have n2_ := Aside0.mk ((by rw [hg]; exact (below_size (by repeat (first | (with_reducible first | exact HB.out | apply below_alloc | apply pw_below_drewN | apply below_drew1) | exact HB.out))) : w.heap.size ≤ gb256)); have n3_ := Aside0.mk ((by rw [hg]; exact (below_size (by repeat (first | (with_reducible first | exact HB.out | apply below_alloc | apply pw_below_drewN | apply below_drew1) | exact HB.out))) : w.heap.size ≤ gb256)); clear HB; have HB := n0_; have BK256 := n1_; have GW256 := n2_; have GE256 := n3_; clear n0_ n1_ n2_ n3_; clear hb hbox hg))
 go_loopg [5] k (fun kq v5 w' => ∃ (x5_1 : Int), v5 = .int .i64 x5_1 ∧ Aside0 (falseworkref18_used.l0 kq a1 x5_1 a0_0 a0_1 l0_2 l0_3 a0_4 = some r) ∧ Aside0 (kq ≤ k) ∧ Aside0 (w'.heap[gb256]? = some (.cells #[.int .i64 a0_0, .string a0_1, (.slice A0_2 l0_2.length c0_2), (.slice A0_3 l0_3.length c0_3), .int .i64 a0_4] 70 (0, 0))) ∧ Aside0 (Below w.heap.size w w'))
 case atStart => exact ⟨(0), (by first | rfl | (simp; done) | (simp [*]; done)), H', ⟨Nat.le_refl _⟩, ⟨by (with_reducible repeat (first | refine blk_drewN ?_ _ | refine blk_drew ?_ | refine blk_alloc ?_ _)); exact BK256.out⟩, ⟨by repeat (first | (with_reducible first | exact HB.out | apply below_alloc | apply pw_below_drewN | apply below_drew1 | refine below_set ?_ GE256.out) | exact HB.out)⟩⟩
 case round =>
  clear H'; (try clear p2); obtain ⟨x5_1, rfl, HA, HK1, BK256, HB⟩ := hrel
  cases gk with
  | zero => exact absurd HA.out (by simp [falseworkref18_used.l0])
  | succ k1 =>
   have H := HA.out; clear HA; simp only [falseworkref18_used.l0] at H
   by_cases c4 : x5_1 < (l0_3.length : Int)
   ·rw [if_pos c4] at H
    have c4b0 : decide (x5_1 < (l0_3.length : Int)) = true := decide_eq_true c4
    clear c4; have H' := Aside0.mk H; clear H; have hcz5_0 : wr.cell? ⟨gb256, 0, none⟩ = some (.int .i64 a0_0) := (Go.Proofs.YtjgomlcdmpcoaaaDoorW.PrintWords.blk_cell BK256.out 0).trans rfl
    have hcz5_1 : wr.cell? ⟨gb256, 1, none⟩ = some (.string a0_1) := (Go.Proofs.YtjgomlcdmpcoaaaDoorW.PrintWords.blk_cell BK256.out 1).trans rfl
    have hcz5_2 : wr.cell? ⟨gb256, 2, none⟩ = some (.slice A0_2 l0_2.length c0_2) := (Go.Proofs.YtjgomlcdmpcoaaaDoorW.PrintWords.blk_cell BK256.out 2).trans rfl
    have hcz5_3 : wr.cell? ⟨gb256, 3, none⟩ = some (.slice A0_3 l0_3.length c0_3) := (Go.Proofs.YtjgomlcdmpcoaaaDoorW.PrintWords.blk_cell BK256.out 3).trans rfl
    have hcz5_4 : wr.cell? ⟨gb256, 4, none⟩ = some (.int .i64 a0_4) := (Go.Proofs.YtjgomlcdmpcoaaaDoorW.PrintWords.blk_cell BK256.out 4).trans rfl
    have hfz5_0 := blk_frozen BK256.out 0
    have hfz5_1 := blk_frozen BK256.out 1
    have hfz5_2 := blk_frozen BK256.out 2
    have hfz5_3 := blk_frozen BK256.out 3
    have hfz5_4 := blk_frozen BK256.out 4
    go_wp2; go_loopg [6] k1 (fun kq v6 w' => ∃ (x6_2 : Int), v6 = .int .i64 x6_2 ∧ Aside0 (falseworkref18_used.l1 kq a1 x5_1 x6_2 a0_0 a0_1 l0_2 l0_3 a0_4 = some r) ∧ Aside0 (kq ≤ k1) ∧ Aside0 (w'.heap[gb256]? = some (.cells #[.int .i64 a0_0, .string a0_1, (.slice A0_2 l0_2.length c0_2), (.slice A0_3 l0_3.length c0_3), .int .i64 a0_4] 70 (0, 0))) ∧ Aside0 (Below w.heap.size w w'))
    case atStart => exact ⟨(0), (by first | rfl | (simp; done) | (simp [*]; done)), H', ⟨Nat.le_refl _⟩, ⟨by (with_reducible repeat (first | refine blk_drewN ?_ _ | refine blk_drew ?_ | refine blk_alloc ?_ _)); exact BK256.out⟩, ⟨by repeat (first | (with_reducible first | exact HB.out | apply below_alloc | apply pw_below_drewN | apply below_drew1 | refine below_set ?_ GE256.out) | exact HB.out)⟩⟩
    case round =>
     clear H'; (try clear p2); (try clear c4); (try clear c4b0); (try clear hcz5_0); (try clear hcz5_1); (try clear hcz5_2); (try clear hcz5_3); (try clear hcz5_4); (try clear hfz5_0); (try clear hfz5_1)
     (try clear hfz5_2); (try clear hfz5_3); (try clear hfz5_4); (try clear p2); obtain ⟨x6_2, rfl, HA, HK2, BK256, HB⟩ := hrel
     cases gk with
     | zero => exact absurd HA.out (by simp [falseworkref18_used.l1])
     | succ k2 =>
      have H := HA.out; clear HA; simp only [falseworkref18_used.l1] at H
      by_cases c6 : 0 ≤ x5_1
      ·rw [if_pos c6] at H
       have c6b0 : decide (0 ≤ x5_1) = true := decide_eq_true c6
       clear c6; by_cases c7 : x5_1 < (l0_3.length : Int)
       ·rw [if_pos c7] at H
        have c7b0 : decide (x5_1 < (l0_3.length : Int)) = true := decide_eq_true c7
        clear c7; by_cases c8 : x6_2 < (((rd_T98 l0_3 x5_1).f2).length : Int)
        ·rw [if_pos c8] at H
         have c8b0 : decide (x6_2 < (((rd_T98 l0_3 x5_1).f2).length : Int)) = true := decide_eq_true c8
         clear c8; by_cases c9 : 0 ≤ x6_2
         ·rw [if_pos c9] at H
          have c9b0 : decide (0 ≤ x6_2) = true := decide_eq_true c9
          clear c9; by_cases c10 : (rd ((rd_T98 l0_3 x5_1).f2) x6_2) = a1
          ·rw [if_pos c10] at H
           have c10b0 : ((rd ((rd_T98 l0_3 x5_1).f2) x6_2) == a1) = true := beq_iff_eq.mpr c10
           have c10b1 : ((rd ((rd_T98 l0_3 x5_1).f2) x6_2) != a1) = false := bne_eq_false_iff_eq.mpr c10
           clear c10; obtain rfl := Option.some.inj H; have hcz11_0 : wr.cell? ⟨gb256, 0, none⟩ = some (.int .i64 a0_0) := (Go.Proofs.YtjgomlcdmpcoaaaDoorW.PrintWords.blk_cell BK256.out 0).trans rfl
           have hcz11_1 : wr.cell? ⟨gb256, 1, none⟩ = some (.string a0_1) := (Go.Proofs.YtjgomlcdmpcoaaaDoorW.PrintWords.blk_cell BK256.out 1).trans rfl
           have hcz11_2 : wr.cell? ⟨gb256, 2, none⟩ = some (.slice A0_2 l0_2.length c0_2) := (Go.Proofs.YtjgomlcdmpcoaaaDoorW.PrintWords.blk_cell BK256.out 2).trans rfl
           have hcz11_3 : wr.cell? ⟨gb256, 3, none⟩ = some (.slice A0_3 l0_3.length c0_3) := (Go.Proofs.YtjgomlcdmpcoaaaDoorW.PrintWords.blk_cell BK256.out 3).trans rfl
           have hcz11_4 : wr.cell? ⟨gb256, 4, none⟩ = some (.int .i64 a0_4) := (Go.Proofs.YtjgomlcdmpcoaaaDoorW.PrintWords.blk_cell BK256.out 4).trans rfl
           have hfz11_0 := blk_frozen BK256.out 0
           have hfz11_1 := blk_frozen BK256.out 1
           have hfz11_2 := blk_frozen BK256.out 2
           have hfz11_3 := blk_frozen BK256.out 3
           have hfz11_4 := blk_frozen BK256.out 4
           have p257 : 0 ≤ (x5_1 : Int) := of_decide_eq_true (by first | (with_reducible assumption) | assumption)
           have q257 : x5_1 < (l0_3.length : Int) := of_decide_eq_true (by first | (with_reducible assumption) | assumption)
           obtain ⟨ad257, A257_2, c257_2, e257, hx257_0, hx257_1, hx257_2, hx257_3, hx257_4, hl257_2, hi257_2⟩ := at_T98 HR0_3.out x5_1 p257 q257
           cases e257
           replace hx257_0 := (HB.out.cell (World.block_lt_of_cell? w _ hx257_0)).trans hx257_0
           replace hx257_1 := (HB.out.cell (World.block_lt_of_cell? w _ hx257_1)).trans hx257_1
           replace hx257_2 := (HB.out.cell (World.block_lt_of_cell? w _ hx257_2)).trans hx257_2
           replace hx257_3 := (HB.out.cell (World.block_lt_of_cell? w _ hx257_3)).trans hx257_3
           replace hx257_4 := (HB.out.cell (World.block_lt_of_cell? w _ hx257_4)).trans hx257_4
           have HR257_2 := Aside0.mk hi257_2; have HC257_2 := Aside0.mk hl257_2; clear hi257_2 hl257_2; replace p257 := eq_true p257
           replace q257 := eq_true q257
           have p258 : 0 ≤ (x5_1 : Int) := of_decide_eq_true (by first | (with_reducible assumption) | assumption)
           have q258 : x5_1 < (l0_3.length : Int) := of_decide_eq_true (by first | (with_reducible assumption) | assumption)
           obtain ⟨ad258, A258_2, c258_2, e258, hx258_0, hx258_1, hx258_2, hx258_3, hx258_4, hl258_2, hi258_2⟩ := at_T98 HR0_3.out x5_1 p258 q258
           obtain rfl : ad257 = ad258 := (by injection e258)
           replace hx258_0 := (HB.out.cell (World.block_lt_of_cell? w _ hx258_0)).trans hx258_0
           replace hx258_1 := (HB.out.cell (World.block_lt_of_cell? w _ hx258_1)).trans hx258_1
           replace hx258_2 := (HB.out.cell (World.block_lt_of_cell? w _ hx258_2)).trans hx258_2
           replace hx258_3 := (HB.out.cell (World.block_lt_of_cell? w _ hx258_3)).trans hx258_3
           replace hx258_4 := (HB.out.cell (World.block_lt_of_cell? w _ hx258_4)).trans hx258_4
           have HR258_2 := Aside0.mk hi258_2; have HC258_2 := Aside0.mk hl258_2; clear hi258_2 hl258_2; replace p258 := eq_true p258
           replace q258 := eq_true q258
           have ea_ := Option.some.inj (hx257_2.symm.trans hx258_2)
           injection ea_ with ea_ en_ ec_
           subst ea_; subst ec_; clear en_; have p259 : 0 ≤ (x6_2 : Int) := of_decide_eq_true (by first | (with_reducible assumption) | assumption)
           have q259 : x6_2 < (((rd_T98 l0_3 x5_1).f2).length : Int) := of_decide_eq_true (by first | (with_reducible assumption) | assumption)
           obtain ⟨ad259, e259, hx259_0⟩ := Kd.at_int HR258_2.out x6_2 p259 q259
           cases e259
           replace hx259_0 := (HB.out.cell (World.block_lt_of_cell? w _ hx259_0)).trans hx259_0
           replace p259 := eq_true p259
           replace q259 := eq_true q259
           go_wp2; go_ret; exact ⟨by first | rfl | (simp [errW_none, errW_some] <;> rfl) | (simp [*, errW_none, errW_some] <;> rfl), by repeat (first | (with_reducible first | exact HB.out | apply below_alloc | apply pw_below_drewN | apply below_drew1 | refine below_set ?_ GE256.out) | exact HB.out)⟩
          ·rw [if_neg c10] at H
           have c10b0 : ((rd ((rd_T98 l0_3 x5_1).f2) x6_2) == a1) = false := beq_eq_false_iff_ne.mpr c10
           have c10b1 : ((rd ((rd_T98 l0_3 x5_1).f2) x6_2) != a1) = true := bne_iff_ne.mpr c10
           have H' := Aside0.mk H; clear H; have hcz12_0 : wr.cell? ⟨gb256, 0, none⟩ = some (.int .i64 a0_0) := (Go.Proofs.YtjgomlcdmpcoaaaDoorW.PrintWords.blk_cell BK256.out 0).trans rfl
           have hcz12_1 : wr.cell? ⟨gb256, 1, none⟩ = some (.string a0_1) := (Go.Proofs.YtjgomlcdmpcoaaaDoorW.PrintWords.blk_cell BK256.out 1).trans rfl
           have hcz12_2 : wr.cell? ⟨gb256, 2, none⟩ = some (.slice A0_2 l0_2.length c0_2) := (Go.Proofs.YtjgomlcdmpcoaaaDoorW.PrintWords.blk_cell BK256.out 2).trans rfl
           have hcz12_3 : wr.cell? ⟨gb256, 3, none⟩ = some (.slice A0_3 l0_3.length c0_3) := (Go.Proofs.YtjgomlcdmpcoaaaDoorW.PrintWords.blk_cell BK256.out 3).trans rfl
           have hcz12_4 : wr.cell? ⟨gb256, 4, none⟩ = some (.int .i64 a0_4) := (Go.Proofs.YtjgomlcdmpcoaaaDoorW.PrintWords.blk_cell BK256.out 4).trans rfl
           have hfz12_0 := blk_frozen BK256.out 0
           have hfz12_1 := blk_frozen BK256.out 1
           have hfz12_2 := blk_frozen BK256.out 2
           have hfz12_3 := blk_frozen BK256.out 3
           have hfz12_4 := blk_frozen BK256.out 4
           have p257 : 0 ≤ (x5_1 : Int) := of_decide_eq_true (by first | (with_reducible assumption) | assumption)
           have q257 : x5_1 < (l0_3.length : Int) := of_decide_eq_true (by first | (with_reducible assumption) | assumption)
           obtain ⟨ad257, A257_2, c257_2, e257, hx257_0, hx257_1, hx257_2, hx257_3, hx257_4, hl257_2, hi257_2⟩ := at_T98 HR0_3.out x5_1 p257 q257
           cases e257
           replace hx257_0 := (HB.out.cell (World.block_lt_of_cell? w _ hx257_0)).trans hx257_0
           replace hx257_1 := (HB.out.cell (World.block_lt_of_cell? w _ hx257_1)).trans hx257_1
           replace hx257_2 := (HB.out.cell (World.block_lt_of_cell? w _ hx257_2)).trans hx257_2
           replace hx257_3 := (HB.out.cell (World.block_lt_of_cell? w _ hx257_3)).trans hx257_3
           replace hx257_4 := (HB.out.cell (World.block_lt_of_cell? w _ hx257_4)).trans hx257_4
           have HR257_2 := Aside0.mk hi257_2; have HC257_2 := Aside0.mk hl257_2; clear hi257_2 hl257_2; replace p257 := eq_true p257
           replace q257 := eq_true q257
           have p258 : 0 ≤ (x5_1 : Int) := of_decide_eq_true (by first | (with_reducible assumption) | assumption)
           have q258 : x5_1 < (l0_3.length : Int) := of_decide_eq_true (by first | (with_reducible assumption) | assumption)
           obtain ⟨ad258, A258_2, c258_2, e258, hx258_0, hx258_1, hx258_2, hx258_3, hx258_4, hl258_2, hi258_2⟩ := at_T98 HR0_3.out x5_1 p258 q258
           obtain rfl : ad257 = ad258 := (by injection e258)
           replace hx258_0 := (HB.out.cell (World.block_lt_of_cell? w _ hx258_0)).trans hx258_0
           replace hx258_1 := (HB.out.cell (World.block_lt_of_cell? w _ hx258_1)).trans hx258_1
           replace hx258_2 := (HB.out.cell (World.block_lt_of_cell? w _ hx258_2)).trans hx258_2
           replace hx258_3 := (HB.out.cell (World.block_lt_of_cell? w _ hx258_3)).trans hx258_3
           replace hx258_4 := (HB.out.cell (World.block_lt_of_cell? w _ hx258_4)).trans hx258_4
           have HR258_2 := Aside0.mk hi258_2; have HC258_2 := Aside0.mk hl258_2; clear hi258_2 hl258_2; replace p258 := eq_true p258
           replace q258 := eq_true q258
           have ea_ := Option.some.inj (hx257_2.symm.trans hx258_2)
           injection ea_ with ea_ en_ ec_
           subst ea_; subst ec_; clear en_; have p259 : 0 ≤ (x6_2 : Int) := of_decide_eq_true (by first | (with_reducible assumption) | assumption)
           have q259 : x6_2 < (((rd_T98 l0_3 x5_1).f2).length : Int) := of_decide_eq_true (by first | (with_reducible assumption) | assumption)
           obtain ⟨ad259, e259, hx259_0⟩ := Kd.at_int HR258_2.out x6_2 p259 q259
           cases e259
           replace hx259_0 := (HB.out.cell (World.block_lt_of_cell? w _ hx259_0)).trans hx259_0
           replace p259 := eq_true p259
           replace q259 := eq_true q259
           go_wp2; go_roundg k2
           case measure => have := HK1.out; have := HK2.out; omega
           case rel => exact ⟨(wrap64 (x6_2 + 1)), (by first | rfl | (simp; done) | (simp [*]; done)), H', ⟨by have := HK1.out; have := HK2.out; omega⟩, ⟨by (with_reducible repeat (first | refine blk_drewN ?_ _ | refine blk_drew ?_ | refine blk_alloc ?_ _)); exact BK256.out⟩, ⟨by repeat (first | (with_reducible first | exact HB.out | apply below_alloc | apply pw_below_drewN | apply below_drew1 | refine below_set ?_ GE256.out) | exact HB.out)⟩⟩
         ·rw [if_neg c9] at H
          exact absurd H (by simp)
        ·rw [if_neg c8] at H
         have c8b0 : decide (x6_2 < (((rd_T98 l0_3 x5_1).f2).length : Int)) = false := decide_eq_false c8
         clear c8; have H' := Aside0.mk H; clear H; have hcz13_0 : wr.cell? ⟨gb256, 0, none⟩ = some (.int .i64 a0_0) := (Go.Proofs.YtjgomlcdmpcoaaaDoorW.PrintWords.blk_cell BK256.out 0).trans rfl
         have hcz13_1 : wr.cell? ⟨gb256, 1, none⟩ = some (.string a0_1) := (Go.Proofs.YtjgomlcdmpcoaaaDoorW.PrintWords.blk_cell BK256.out 1).trans rfl
         have hcz13_2 : wr.cell? ⟨gb256, 2, none⟩ = some (.slice A0_2 l0_2.length c0_2) := (Go.Proofs.YtjgomlcdmpcoaaaDoorW.PrintWords.blk_cell BK256.out 2).trans rfl
         have hcz13_3 : wr.cell? ⟨gb256, 3, none⟩ = some (.slice A0_3 l0_3.length c0_3) := (Go.Proofs.YtjgomlcdmpcoaaaDoorW.PrintWords.blk_cell BK256.out 3).trans rfl
         have hcz13_4 : wr.cell? ⟨gb256, 4, none⟩ = some (.int .i64 a0_4) := (Go.Proofs.YtjgomlcdmpcoaaaDoorW.PrintWords.blk_cell BK256.out 4).trans rfl
         have hfz13_0 := blk_frozen BK256.out 0
         have hfz13_1 := blk_frozen BK256.out 1
         have hfz13_2 := blk_frozen BK256.out 2
         have hfz13_3 := blk_frozen BK256.out 3
         have hfz13_4 := blk_frozen BK256.out 4
         have p257 : 0 ≤ (x5_1 : Int) := of_decide_eq_true (by first | (with_reducible assumption) | assumption)
         have q257 : x5_1 < (l0_3.length : Int) := of_decide_eq_true (by first | (with_reducible assumption) | assumption)
         obtain ⟨ad257, A257_2, c257_2, e257, hx257_0, hx257_1, hx257_2, hx257_3, hx257_4, hl257_2, hi257_2⟩ := at_T98 HR0_3.out x5_1 p257 q257
         cases e257
         replace hx257_0 := (HB.out.cell (World.block_lt_of_cell? w _ hx257_0)).trans hx257_0
         replace hx257_1 := (HB.out.cell (World.block_lt_of_cell? w _ hx257_1)).trans hx257_1
         replace hx257_2 := (HB.out.cell (World.block_lt_of_cell? w _ hx257_2)).trans hx257_2
         replace hx257_3 := (HB.out.cell (World.block_lt_of_cell? w _ hx257_3)).trans hx257_3
         replace hx257_4 := (HB.out.cell (World.block_lt_of_cell? w _ hx257_4)).trans hx257_4
         have HR257_2 := Aside0.mk hi257_2; have HC257_2 := Aside0.mk hl257_2; clear hi257_2 hl257_2; replace p257 := eq_true p257
         replace q257 := eq_true q257
         go_wp2; go_roundg k2
         case measure => have := HK1.out; have := HK2.out; omega
         case rel => exact ⟨(wrap64 (x5_1 + 1)), (by first | rfl | (simp; done) | (simp [*]; done)), H', ⟨by have := HK1.out; have := HK2.out; omega⟩, ⟨by (with_reducible repeat (first | refine blk_drewN ?_ _ | refine blk_drew ?_ | refine blk_alloc ?_ _)); exact BK256.out⟩, ⟨by repeat (first | (with_reducible first | exact HB.out | apply below_alloc | apply pw_below_drewN | apply below_drew1 | refine below_set ?_ GE256.out) | exact HB.out)⟩⟩
       ·rw [if_neg c7] at H
        exact absurd H (by simp)
      ·rw [if_neg c6] at H
       exact absurd H (by simp)
   ·rw [if_neg c4] at H
    have c4b0 : decide (x5_1 < (l0_3.length : Int)) = false := decide_eq_false c4
    clear c4; obtain rfl := Option.some.inj H; have hcz14_0 : wr.cell? ⟨gb256, 0, none⟩ = some (.int .i64 a0_0) := (Go.Proofs.YtjgomlcdmpcoaaaDoorW.PrintWords.blk_cell BK256.out 0).trans rfl
    have hcz14_1 : wr.cell? ⟨gb256, 1, none⟩ = some (.string a0_1) := (Go.Proofs.YtjgomlcdmpcoaaaDoorW.PrintWords.blk_cell BK256.out 1).trans rfl
    have hcz14_2 : wr.cell? ⟨gb256, 2, none⟩ = some (.slice A0_2 l0_2.length c0_2) := (Go.Proofs.YtjgomlcdmpcoaaaDoorW.PrintWords.blk_cell BK256.out 2).trans rfl
    have hcz14_3 : wr.cell? ⟨gb256, 3, none⟩ = some (.slice A0_3 l0_3.length c0_3) := (Go.Proofs.YtjgomlcdmpcoaaaDoorW.PrintWords.blk_cell BK256.out 3).trans rfl
    have hcz14_4 : wr.cell? ⟨gb256, 4, none⟩ = some (.int .i64 a0_4) := (Go.Proofs.YtjgomlcdmpcoaaaDoorW.PrintWords.blk_cell BK256.out 4).trans rfl
    have hfz14_0 := blk_frozen BK256.out 0
    have hfz14_1 := blk_frozen BK256.out 1
    have hfz14_2 := blk_frozen BK256.out 2
    have hfz14_3 := blk_frozen BK256.out 3
    have hfz14_4 := blk_frozen BK256.out 4
    go_wp2; go_ret; exact ⟨by first | rfl | (simp [errW_none, errW_some] <;> rfl) | (simp [*, errW_none, errW_some] <;> rfl), by repeat (first | (with_reducible first | exact HB.out | apply below_alloc | apply pw_below_drewN | apply below_drew1 | refine below_set ?_ GE256.out) | exact HB.out)⟩
end Go.Proofs.YtjgomlcdmpcoaaaDoor.D
namespace Go.Proofs.YtjgomlcdmpcoaaaDoor.H
open Go.RowKit Go.Proofs.YtjgomlcdmpcoaaaDoorW.PrintWords Go.Proofs.YtjgomlcdmpcoaaaDoorW.PrintLast Go.Proofs.YtjgomlcdmpcoaaaDoorW.PrintMore
open Go.Proofs.YtjgomlcdmpcoaaaDoor.D Go.Proofs.YtjgomlcdmpcoaaaDoor
set_option linter.unusedVariables false
set_option linter.unusedSimpArgs false
def tName (n : ByteArray) (t : S70) : Bool := decide (t.f1.toList = n.toList)
def tId (i : Int) (t : S70) : Bool := decide (t.f0 = i)
def cId (i : Int) (c : S75) : Bool := decide (c.f0 = i)
def cShown (n : ByteArray) (c : S75) : Bool := decide (c.f1.toList = n.toList) && decide (c.f3 = 4)
def xId (i : Int) (x : S98) : Bool := decide (x.f0 = i)
theorem idxL_lt {α : Type} (p : α → Bool) : ∀ (l : List α) (i : Nat), idxL p l i = -1 ∨ ∃ j : Nat, ∃ h : j < l.length, idxL p l i = ((i + j : Nat) : Int) ∧ p l[j] = true
  | [], i => .inl rfl
  | x :: l, i => by
    unfold idxL
    cases hx : p x with
    | true => exact .inr ⟨0, by simp, by simp, by simpa using hx⟩
    | false =>
      rcases idxL_lt p l (i + 1) with h | ⟨j, hj, h1, h2⟩
      · exact .inl (by simpa using h)
      · exact .inr ⟨j + 1, by simp; omega, by simp [h1]; omega, by simpa using h2⟩
theorem idxL_at {α : Type} (p : α → Bool) (l : List α) : idxL p l 0 = -1 ∨ ∃ j : Nat, ∃ h : j < l.length, idxL p l 0 = (j : Int) ∧ p l[j] = true := by
  rcases idxL_lt p l 0 with h | ⟨j, hj, h1, h2⟩
  · exact .inl h
  · exact .inr ⟨j, hj, by simpa using h1, h2⟩
theorem idxL_cons {α : Type} (p : α → Bool) (x : α) (l : List α) (i : Nat) : idxL p (x :: l) i = if p x then (i : Int) else idxL p l (i + 1) := rfl
theorem table_run (n : ByteArray) (v : Int) (ts : List S70) (nx : Int) (hn : ts.length < 1000000) : ∀ m k i : Nat, i + m = ts.length → m < k →
    falseworkref18_Table.l0 k n i v ts nx = some (idxL (tName n) (ts.drop i) i)
  | 0, k, i, h, hk => by
    obtain ⟨k, rfl⟩ : ∃ k', k = k' + 1 := ⟨k - 1, by omega⟩
    rw [falseworkref18_Table.l0, if_neg (by omega), List.drop_eq_nil_of_le (by omega)]
    rfl
  | m + 1, k, i, h, hk => by
    obtain ⟨k, rfl⟩ : ∃ k', k = k' + 1 := ⟨k - 1, by omega⟩
    have hi : i < ts.length := by omega
    rw [falseworkref18_Table.l0, if_pos (by omega), if_pos (by omega), rd70 _ _ hi, wrap_nat i (by omega), List.drop_eq_getElem_cons hi, table_run n v ts nx hn m k (i + 1) (by omega) (by omega)]
    rw [idxL_cons]
    by_cases e : ts[i].f1.toList = n.toList
    · rw [if_pos e, if_pos (show tName n ts[i] = true from decide_eq_true e)]
    · rw [if_neg e, if_neg (show ¬ tName n ts[i] = true by unfold tName; simp [e])]
theorem byId_run (n : Int) (v : Int) (ts : List S70) (nx : Int) (hn : ts.length < 1000000) : ∀ m k i : Nat, i + m = ts.length → m < k →
    falseworkref18_ByID.l0 k n i v ts nx = some (idxL (tId n) (ts.drop i) i)
  | 0, k, i, h, hk => by
    obtain ⟨k, rfl⟩ : ∃ k', k = k' + 1 := ⟨k - 1, by omega⟩
    rw [falseworkref18_ByID.l0, if_neg (by omega), List.drop_eq_nil_of_le (by omega)]
    rfl
  | m + 1, k, i, h, hk => by
    obtain ⟨k, rfl⟩ : ∃ k', k = k' + 1 := ⟨k - 1, by omega⟩
    have hi : i < ts.length := by omega
    rw [falseworkref18_ByID.l0, if_pos (by omega), if_pos (by omega), rd70 _ _ hi, wrap_nat i (by omega), List.drop_eq_getElem_cons hi, byId_run n v ts nx hn m k (i + 1) (by omega) (by omega)]
    rw [idxL_cons]
    by_cases e : ts[i].f0 = n
    · rw [if_pos e, if_pos (show tId n ts[i] = true from decide_eq_true e)]
    · rw [if_neg e, if_neg (show ¬ tId n ts[i] = true by unfold tId; simp [e])]
theorem shown_run (n : ByteArray) (cs : List S75) (hn : cs.length < 1000000) : ∀ m k i : Nat, i + m = cs.length → m < k →
    falseworkref18_Shown.l0 k cs n i = some (idxL (cShown n) (cs.drop i) i)
  | 0, k, i, h, hk => by
    obtain ⟨k, rfl⟩ : ∃ k', k = k' + 1 := ⟨k - 1, by omega⟩
    rw [falseworkref18_Shown.l0, if_neg (by omega), List.drop_eq_nil_of_le (by omega)]
    rfl
  | m + 1, k, i, h, hk => by
    obtain ⟨k, rfl⟩ : ∃ k', k = k' + 1 := ⟨k - 1, by omega⟩
    have hi : i < cs.length := by omega
    rw [falseworkref18_Shown.l0, if_pos (by omega), if_pos (by omega), rd75 _ _ hi, wrap_nat i (by omega), List.drop_eq_getElem_cons hi, shown_run n cs hn m k (i + 1) (by omega) (by omega)]
    rw [idxL_cons]
    by_cases e : cs[i].f1.toList = n.toList
    · rw [if_pos e]
      by_cases e2 : cs[i].f3 = 4
      · rw [if_pos e2, if_pos (show cShown n cs[i] = true by unfold cShown; simp [e, e2])]
      · rw [if_neg e2, if_neg (show ¬ cShown n cs[i] = true by unfold cShown; simp [e2])]
    · rw [if_neg e, if_neg (show ¬ cShown n cs[i] = true by unfold cShown; simp [e])]
section
variable (t : S70)
theorem column_run (n : Int) (hn : t.f2.length < 1000000) : ∀ m k i : Nat, i + m = t.f2.length → m < k →
    falseworkref18_column.l0 k n i t.f0 t.f1 t.f2 t.f3 t.f4 = some (idxL (cId n) (t.f2.drop i) i)
  | 0, k, i, h, hk => by
    obtain ⟨k, rfl⟩ : ∃ k', k = k' + 1 := ⟨k - 1, by omega⟩
    rw [falseworkref18_column.l0, if_neg (by omega), List.drop_eq_nil_of_le (by omega)]
    rfl
  | m + 1, k, i, h, hk => by
    obtain ⟨k, rfl⟩ : ∃ k', k = k' + 1 := ⟨k - 1, by omega⟩
    have hi : i < t.f2.length := by omega
    rw [falseworkref18_column.l0, if_pos (by omega), if_pos (by omega), rd75 _ _ hi, wrap_nat i (by omega), List.drop_eq_getElem_cons hi, column_run n hn m k (i + 1) (by omega) (by omega)]
    rw [idxL_cons]
    by_cases e : t.f2[i].f0 = n
    · rw [if_pos e, if_pos (show cId n t.f2[i] = true from decide_eq_true e)]
    · rw [if_neg e, if_neg (show ¬ cId n t.f2[i] = true by unfold cId; simp [e])]
theorem index_run (n : Int) (hn : t.f3.length < 1000000) : ∀ m k i : Nat, i + m = t.f3.length → m < k →
    falseworkref18_index.l0 k n i t.f0 t.f1 t.f2 t.f3 t.f4 = some (idxL (xId n) (t.f3.drop i) i)
  | 0, k, i, h, hk => by
    obtain ⟨k, rfl⟩ : ∃ k', k = k' + 1 := ⟨k - 1, by omega⟩
    rw [falseworkref18_index.l0, if_neg (by omega), List.drop_eq_nil_of_le (by omega)]
    rfl
  | m + 1, k, i, h, hk => by
    obtain ⟨k, rfl⟩ : ∃ k', k = k' + 1 := ⟨k - 1, by omega⟩
    have hi : i < t.f3.length := by omega
    rw [falseworkref18_index.l0, if_pos (by omega), if_pos (by omega), rd98 _ _ hi, wrap_nat i (by omega), List.drop_eq_getElem_cons hi, index_run n hn m k (i + 1) (by omega) (by omega)]
    rw [idxL_cons]
    by_cases e : t.f3[i].f0 = n
    · rw [if_pos e, if_pos (show xId n t.f3[i] = true from decide_eq_true e)]
    · rw [if_neg e, if_neg (show ¬ xId n t.f3[i] = true by unfold xId; simp [e])]
def usedB (id : Int) (xs : List S98) : Bool := xs.any fun x => x.f2.any fun y => decide (y = id)
theorem used1_run (id : Int) (i : Nat) (hi : i < t.f3.length) (hn : t.f3[i].f2.length < 1000000) (hx : t.f3.length < 1000000) (K : Nat) (R : Bool) (hR : ∀ k, K < k → falseworkref18_used.l0 k id ((i + 1 : Nat) : Int) t.f0 t.f1 t.f2 t.f3 t.f4 = some R) : ∀ m k j : Nat, j + m = t.f3[i].f2.length → K + m + 1 < k →
    falseworkref18_used.l1 k id i j t.f0 t.f1 t.f2 t.f3 t.f4 = some ((t.f3[i].f2.drop j).any (fun y => decide (y = id)) || R)
  | 0, k, j, h, hk => by
    obtain ⟨k, rfl⟩ : ∃ k', k = k' + 1 := ⟨k - 1, by omega⟩
    rw [falseworkref18_used.l1, if_pos (by omega), if_pos (by omega), rd98 _ _ hi, if_neg (by omega), wrap_nat i (by omega), hR k (by omega), List.drop_eq_nil_of_le (by omega)]
    rfl
  | m + 1, k, j, h, hk => by
    obtain ⟨k, rfl⟩ : ∃ k', k = k' + 1 := ⟨k - 1, by omega⟩
    have hj : j < t.f3[i].f2.length := by omega
    rw [falseworkref18_used.l1, if_pos (by omega), if_pos (by omega), rd98 _ _ hi, if_pos (by omega), if_pos (by omega), rd_nat _ _ hj, wrap_nat j (by omega), used1_run id i hi hn hx K R hR m k (j + 1) (by omega) (by omega)]
    by_cases e : t.f3[i].f2[j] = id
    · rw [if_pos e, List.drop_eq_getElem_cons hj, List.any_cons, decide_eq_true e]; rfl
    · rw [if_neg e, List.drop_eq_getElem_cons hj, List.any_cons, decide_eq_false e, Bool.false_or]
theorem used_run (id : Int) (hx : t.f3.length < 100) (hn : ∀ x ∈ t.f3, x.f2.length < 100) : ∀ m k i : Nat, i + m = t.f3.length → 200 * (m + 1) < k →
    falseworkref18_used.l0 k id i t.f0 t.f1 t.f2 t.f3 t.f4 = some (usedB id (t.f3.drop i))
  | 0, k, i, h, hk => by
    obtain ⟨k, rfl⟩ : ∃ k', k = k' + 1 := ⟨k - 1, by omega⟩
    rw [falseworkref18_used.l0, if_neg (by omega), List.drop_eq_nil_of_le (by omega)]
    rfl
  | m + 1, k, i, h, hk => by
    obtain ⟨k, rfl⟩ : ∃ k', k = k' + 1 := ⟨k - 1, by omega⟩
    have hi : i < t.f3.length := by omega
    have hl := hn _ (List.getElem_mem hi)
    have h1 := used1_run t id i hi (by omega) (by omega) (200 * (m + 1)) (usedB id (t.f3.drop (i + 1))) (fun k hk => used_run id hx hn m k (i + 1) (by omega) hk) t.f3[i].f2.length k 0 (by omega) (by omega)
    rw [falseworkref18_used.l0, if_pos (by omega), List.drop_eq_getElem_cons hi]
    refine h1.trans ?_
    unfold usedB
    rw [List.any_cons, List.drop_zero]
end
def twiceB : List ByteArray → List ByteArray → Bool
  | _, [] => false
  | pre, s :: r => (pre.any fun w => s.toList == w.toList) || twiceB (pre ++ [s]) r
theorem rdB (l : List ByteArray) (i : Nat) (h : i < l.length) : rdOf ByteArray.empty l (i : Int) = l[i] := by unfold rdOf; simp [List.getD, h]
theorem twice1_run (l : List ByteArray) (i : Nat) (hi : i < l.length) (hn : l.length < 1000000) (K : Nat) (R : Bool) (hR : ∀ k, K < k → falseworkref18_twice.l0 k l ((i + 1 : Nat) : Int) = some R) : ∀ m k j : Nat, j + m = i → K + m + 1 < k →
    falseworkref18_twice.l1 k l i j = some (((l.take i).drop j).any (fun w => l[i].toList == w.toList) || R)
  | 0, k, j, h, hk => by
    obtain ⟨k, rfl⟩ : ∃ k', k = k' + 1 := ⟨k - 1, by omega⟩
    rw [falseworkref18_twice.l1, if_neg (by omega), wrap_nat i (by omega), hR k (by omega), List.drop_eq_nil_of_le (by rw [List.length_take]; omega)]
    rfl
  | m + 1, k, j, h, hk => by
    obtain ⟨k, rfl⟩ : ∃ k', k = k' + 1 := ⟨k - 1, by omega⟩
    have hj : j < (l.take i).length := by rw [List.length_take]; omega
    have hj' : j < l.length := by omega
    rw [falseworkref18_twice.l1, if_pos (by omega), if_pos (by omega), if_pos (by omega), if_pos (by omega), if_pos (by omega), rdB _ _ hi, rdB _ _ hj', wrap_nat j (by omega), twice1_run l i hi hn K R hR m k (j + 1) (by omega) (by omega), List.drop_eq_getElem_cons hj]
    rw [List.getElem_take]
    by_cases e : l[j].toList = l[i].toList
    · rw [if_pos e]; simp [e]
    · rw [if_neg e, List.any_cons, beq_eq_false_iff_ne.2 (Ne.symm e), Bool.false_or]
theorem twice_run (l : List ByteArray) (hn : l.length < 100) : ∀ m k i : Nat, i + m = l.length → 200 * (m + 1) < k → falseworkref18_twice.l0 k l i = some (twiceB (l.take i) (l.drop i))
  | 0, k, i, h, hk => by
    obtain ⟨k, rfl⟩ : ∃ k', k = k' + 1 := ⟨k - 1, by omega⟩
    rw [falseworkref18_twice.l0, if_neg (by omega), List.drop_eq_nil_of_le (by omega)]
    rfl
  | m + 1, k, i, h, hk => by
    obtain ⟨k, rfl⟩ : ∃ k', k = k' + 1 := ⟨k - 1, by omega⟩
    have hi : i < l.length := by omega
    have h1 := twice1_run l i hi (by omega) (200 * (m + 1)) (twiceB (l.take (i + 1)) (l.drop (i + 1))) (fun k hk => twice_run l hn m k (i + 1) (by omega) hk) i k 0 (by omega) (by omega)
    rw [falseworkref18_twice.l0, if_pos (by omega), List.drop_eq_getElem_cons hi]
    refine h1.trans ?_
    rw [List.drop_zero, twiceB, List.take_succ_eq_append_getElem hi]
def elemI (t : S70) (kind elem : Int) : Int :=
  if kind = 6 ∨ kind = 7 then (if 0 ≤ idxL (xId elem) t.f3 0 then (rd_T98 t.f3 (idxL (xId elem) t.f3 0)).f4 else -1)
  else if 8 ≤ kind ∧ kind ≤ 11 then (if 0 ≤ idxL (cId elem) t.f2 0 then (if kind < 10 then (rd_T75 t.f2 (idxL (cId elem) t.f2 0)).f3 else (rd_T75 t.f2 (idxL (cId elem) t.f2 0)).f4) else -1)
  else -1
def stateI (v : Int) (ts : List S70) (nx : Int) (kind table elem : Int) : Int :=
  if 0 ≤ idxL (tId table) ts 0 then (if schB v ts nx = true then elemI (rd_T70 ts (idxL (tId table) ts 0)) kind elem else -1) else -1
end Go.Proofs.YtjgomlcdmpcoaaaDoor.H
namespace Go.Proofs.YtjgomlcdmpcoaaaDoor.H
open Go.RowKit Go.Proofs.YtjgomlcdmpcoaaaDoorW.PrintWords Go.Proofs.YtjgomlcdmpcoaaaDoorW.PrintLast Go.Proofs.YtjgomlcdmpcoaaaDoorW.PrintMore
set_option linter.unusedVariables false
def WB (T : TypeId) (w : World) (g : Nat) (bs : List Int) : Prop :=
  ∃ v, w.heap[g]? = some (.cells #[v] T (0, 0)) ∧ w.ownsRow (g + 1) 5 1 v bs.length (nums .u8 bs)
structure Wr (g : Nat) (w w' : World) : Prop where
  below : Below g w w'
  block : ∀ i, i < w.heap.size → i ≠ g → (∀ cs fr, w.heap[i]? ≠ some (.cells cs 5 fr)) → w'.heap[i]? = w.heap[i]?
theorem Wr.refl (g : Nat) (w : World) : Wr g w w := ⟨Below.refl _ _, fun _ _ _ _ => rfl⟩
theorem Wr.trans {g : Nat} {a b c : World} (h : Wr g a b) (k : Wr g b c) : Wr g a c :=
  ⟨h.below.trans k.below, fun i hi hne ht => by
    have e := h.block i hi hne ht
    rw [k.block i (Nat.lt_of_lt_of_le hi h.below.size) hne (fun cs fr => by rw [e]; exact ht cs fr), e]⟩
theorem Wr.of_below {g : Nat} {w w' : World} (h : Below w.heap.size w w') (hg : g ≤ w.heap.size) : Wr g w w' := ⟨h.mono hg, fun i hi _ _ => h.block i hi⟩
theorem Wr.cells {g : Nat} {w w' : World} (h : Wr g w w') {i : Nat} {cs : Array Value} {t : TypeId} {fr : Nat × Nat} (hi : w.heap[i]? = some (.cells cs t fr)) (ht : t ≠ 5) (hne : i ≠ g) : w'.heap[i]? = some (.cells cs t fr) := by
  rw [h.block i (lt_of_block hi) hne (fun cs' fr' e => by rw [hi] at e; injection e with e; injection e with _ e _; exact ht e)]
  exact hi
theorem Wr.size {g : Nat} {w w' : World} (h : Wr g w w') : w.heap.size ≤ w'.heap.size := h.below.size
theorem WB.lt {T : TypeId} {w : World} {g : Nat} {bs : List Int} (h : WB T w g bs) : g < w.heap.size := by
  obtain ⟨v, h, _⟩ := h
  exact lt_of_block h
theorem WB.below {T : TypeId} {w w' : World} {g : Nat} {bs : List Int} (h : WB T w g bs) (hb : Below w.heap.size w w') : WB T w' g bs := by
  obtain ⟨v, h1, h2⟩ := h
  exact ⟨v, blk_below h1 hb, pw_own_below h2 hb⟩
theorem blk_cell {w : World} {i j : Nat} {cs : Array Value} {t : TypeId} {fr : Nat × Nat} {v : Value} (hi : w.heap[i]? = some (.cells cs t fr)) (hj : cs[j]? = some v) : w.cell? ⟨i, j, none⟩ = some v := by
  simp [World.cell?, hi, hj]
theorem WB.new (T : TypeId) (w : World) : WB T (w.alloc (.cells #[.slice none 0 0] T)) w.heap.size [] :=
  ⟨_, heap_alloc_new w _, by simp [nums], .inl ⟨rfl, rfl⟩⟩
def e8 (n : Int) : List Int := [n / 72057594037927936 % 256, n / 281474976710656 % 256, n / 1099511627776 % 256, n / 4294967296 % 256, n / 16777216 % 256, n / 65536 % 256, n / 256 % 256, n % 256]
theorem e8_len (n : Int) : (e8 n).length = 8 := rfl
end Go.Proofs.YtjgomlcdmpcoaaaDoor.H
namespace Go.Proofs.YtjgomlcdmpcoaaaDoor.H
open Go.RowKit Go.Proofs.YtjgomlcdmpcoaaaDoorW.PrintWords Go.Proofs.YtjgomlcdmpcoaaaDoorW.PrintLast Go.Proofs.YtjgomlcdmpcoaaaDoorW.PrintMore
open Go.Proofs.YtjgomlcdmpcoaaaDoor.D Go.Proofs.YtjgomlcdmpcoaaaDoor
set_option linter.unusedVariables false
def un64 (n : Int) : Int := n % 18446744073709551616
def tru (b : Bool) : Int := if b then 1 else 0
end Go.Proofs.YtjgomlcdmpcoaaaDoor.H
namespace Go.Proofs.YtjgomlcdmpcoaaaDoor.H
open Go.RowKit Go.Proofs.YtjgomlcdmpcoaaaDoorW.PrintWords Go.Proofs.YtjgomlcdmpcoaaaDoorW.PrintLast Go.Proofs.YtjgomlcdmpcoaaaDoorW.PrintMore
open Go.Proofs.YtjgomlcdmpcoaaaDoor.D Go.Proofs.YtjgomlcdmpcoaaaDoor
set_option linter.unusedVariables false
def tx (s : ByteArray) : List Int := e8 (un64 s.size) ++ bytesOf s
theorem tx_len (s : ByteArray) : (tx s).length = 8 + s.size := by unfold tx; rw [List.length_append, e8_len, bytesOf_length]
end Go.Proofs.YtjgomlcdmpcoaaaDoor.H
namespace Go.Proofs.YtjgomlcdmpcoaaaDoor.H
open Go.RowKit Go.Proofs.YtjgomlcdmpcoaaaDoorW.PrintWords Go.Proofs.YtjgomlcdmpcoaaaDoorW.PrintLast Go.Proofs.YtjgomlcdmpcoaaaDoorW.PrintMore
open Go.Proofs.YtjgomlcdmpcoaaaDoor.D Go.Proofs.YtjgomlcdmpcoaaaDoor
set_option linter.unusedVariables false
set_option linter.unusedSimpArgs false
def colL (x : S75) : List Int := e8 (un64 x.f0) ++ (tx x.f1 ++ (e8 (un64 x.f2) ++ (e8 (un64 x.f3) ++ (e8 (un64 x.f4) ++ (e8 (un64 x.f5.f0) ++ (e8 (un64 x.f5.f1) ++ (e8 x.f5.f2 ++ tx x.f5.f3)))))))
theorem colL_len (x : S75) : (colL x).length = 72 + x.f1.size + x.f5.f3.size := by unfold colL; simp only [List.length_append, e8_len, tx_len]; omega
end Go.Proofs.YtjgomlcdmpcoaaaDoor.H
namespace Go.Proofs.YtjgomlcdmpcoaaaDoor.H
open Go.RowKit Go.Proofs.YtjgomlcdmpcoaaaDoorW.PrintWords Go.Proofs.YtjgomlcdmpcoaaaDoorW.PrintLast Go.Proofs.YtjgomlcdmpcoaaaDoorW.PrintMore
open Go.Proofs.YtjgomlcdmpcoaaaDoor.D Go.Proofs.YtjgomlcdmpcoaaaDoor
set_option linter.unusedVariables false
set_option linter.unusedSimpArgs false
def St (T : TypeId) (g : Nat) (w0 W : World) (cur : List Int) (L : List (Nat × Array Value × TypeId)) : Prop :=
  WB T W g cur ∧ Wr g w0 W ∧ ∀ p ∈ L, p.2.2 ≠ 5 ∧ p.1 ≠ g ∧ W.heap[p.1]? = some (.cells p.2.1 p.2.2 (0, 0))
section
variable {T : TypeId} {g : Nat} {w0 W W2 : World} {cur cur2 : List Int} {L : List (Nat × Array Value × TypeId)} {p : Nat × Array Value × TypeId}
theorem St.step (h : St T g w0 W cur L) (ha : WB T W2 g cur2) (hb : Wr g W W2) : St T g w0 W2 cur2 L :=
  ⟨ha, h.2.1.trans hb, fun p hp => let q := h.2.2 p hp; ⟨q.1, q.2.1, hb.cells q.2.2 q.1 q.2.1⟩⟩
theorem St.lt (h : St T g w0 W cur L) : g < W.heap.size := h.1.lt
theorem St.box (h : St T g w0 W cur L) (cs : Array Value) (t : TypeId) (ht : t ≠ 5) : St T g w0 (W.alloc (.cells cs t)) cur ((W.heap.size, cs, t) :: L) := by
  have hb := below_alloc (Below.refl _ W) (.cells cs t)
  refine ⟨h.1.below hb, h.2.1.trans (Wr.of_below hb (Nat.le_of_lt h.1.lt)), fun p hp => ?_⟩
  rcases List.mem_cons.1 hp with rfl | hp
  · exact ⟨ht, (Nat.ne_of_lt h.1.lt).symm, heap_alloc_new W _⟩
  · have q := h.2.2 p hp
    exact ⟨q.1, q.2.1, blk_alloc q.2.2 _⟩
end
def colsL (l : List S75) : List Int := l.flatMap colL
def intL (n : Int) : List Int := e8 (un64 n)
def intsL (l : List Int) : List Int := l.flatMap intL
def indL (x : S98) : List Int := e8 (un64 x.f0) ++ (tx x.f1 ++ (e8 (un64 x.f2.length) ++ (intsL x.f2 ++ (e8 (tru x.f3) ++ e8 (un64 x.f4)))))
def indsL (l : List S98) : List Int := l.flatMap indL
def tabL (t : S70) : List Int := e8 (un64 t.f0) ++ (tx t.f1 ++ (e8 (un64 t.f2.length) ++ (colsL t.f2 ++ (e8 (un64 t.f3.length) ++ (indsL t.f3 ++ e8 (un64 t.f4))))))
theorem indL_len (x : S98) : (indL x).length = 40 + x.f1.size + (intsL x.f2).length := by unfold indL; simp only [List.length_append, e8_len, tx_len]; omega
theorem tabL_len (t : S70) : (tabL t).length = 40 + t.f1.size + (colsL t.f2).length + (indsL t.f3).length := by unfold tabL; simp only [List.length_append, e8_len, tx_len]; omega
end Go.Proofs.YtjgomlcdmpcoaaaDoor.H
namespace Go.Proofs.YtjgomlcdmpcoaaaDoor.H
open Go.RowKit Go.Proofs.YtjgomlcdmpcoaaaDoorW.PrintWords Go.Proofs.YtjgomlcdmpcoaaaDoorW.PrintLast Go.Proofs.YtjgomlcdmpcoaaaDoorW.PrintMore
set_option linter.unusedVariables false
def cr1 (c : Int) : Int := if (bits .and .u32 c 1 == 1) = true then bits .xor .u32 (c / 2) 2197175160 else c / 2
def crN : Nat → Int → Int
  | 0, c => c
  | n + 1, c => crN n (cr1 c)
def crB (c b : Int) : Int := crN 8 (bits .xor .u32 c (b % 4294967296))
def crL (c : Int) (l : List UInt8) : Int := l.foldl (fun c b => crB c (b.toNat : Int)) c
def sumI (s : ByteArray) : Int := bits .xor .u32 IntKind.u32.max (crL 4294967295 s.data.toList)
end Go.Proofs.YtjgomlcdmpcoaaaDoor.H
namespace Go.Proofs.YtjgomlcdmpcoaaaDoor.H
open Go.RowKit Go.Proofs.YtjgomlcdmpcoaaaDoorW.PrintWords Go.Proofs.YtjgomlcdmpcoaaaDoorW.PrintLast Go.Proofs.YtjgomlcdmpcoaaaDoorW.PrintMore
set_option linter.unusedVariables false
def four (c : Int) : List Int := [c / 16777216, c / 65536 % 256, c / 256 % 256, c % 256]
def sealB (s : ByteArray) : ByteArray := s ++ strOfNums (four (sumI s))
end Go.Proofs.YtjgomlcdmpcoaaaDoor.H
namespace Go.Proofs.YtjgomlcdmpcoaaaDoor.H
open Go.RowKit Go.Proofs.YtjgomlcdmpcoaaaDoorW.PrintWords Go.Proofs.YtjgomlcdmpcoaaaDoorW.PrintLast Go.Proofs.YtjgomlcdmpcoaaaDoorW.PrintMore
open Go.Proofs.YtjgomlcdmpcoaaaDoor.D Go.Proofs.YtjgomlcdmpcoaaaDoor
set_option linter.unusedVariables false
set_option linter.unusedSimpArgs false
def tabsL (l : List S70) : List Int := l.flatMap tabL
def putL (v : Int) (ts : List S70) (nx : Int) : List Int := e8 (un64 v) ++ (e8 (un64 ts.length) ++ (tabsL ts ++ e8 (un64 nx)))
theorem putL_len (v : Int) (ts : List S70) (nx : Int) : (putL v ts nx).length = 24 + (tabsL ts).length := by unfold putL; simp only [List.length_append, e8_len]; omega
theorem nameB_size {s : ByteArray} (h : nameB s = true) : s.size ≤ 16 := by
  rw [nameB_if] at h
  simp only [Bool.and_eq_true, decide_eq_true_eq] at h
  exact h.2.1
theorem toList_size {s : ByteArray} (h : s.toList = []) : s.size = 0 := by
  rw [ByteArray.toList_eq] at h
  have : s.data.toList.length = 0 := by rw [h]; rfl
  rw [Array.length_toList] at this
  exact this
theorem valB_size {v : S73} (h : valB v = true) : v.f3.size ≤ 40 := by
  unfold valB mayB at h
  repeat' split at h
  all_goals simp only [Bool.and_eq_true, beq_iff_eq, decide_eq_true_eq, Bool.false_eq_true] at h
  all_goals first
    | (have := toList_size h.2.2; omega)
    | (have := toList_size h.2; omega)
    | exact h.1
theorem columnB_len {c : S75} (h : columnB c = true) : (colL c).length ≤ 128 := by
  unfold columnB at h
  simp only [Bool.and_eq_true] at h
  have h1 := nameB_size h.1
  have h2 := valB_size h.2.2.2.2.2.1
  rw [colL_len]
  omega
theorem fm_max {α : Type} (f : α → List Int) (m : Nat) : ∀ l : List α, (∀ x ∈ l, (f x).length ≤ m) → (l.flatMap f).length ≤ l.length * m
  | [], _ => by simp
  | x :: l, h => by
    have h1 := fm_max f m l (fun y hy => h y (List.mem_cons_of_mem _ hy))
    have h2 := h x List.mem_cons_self
    rw [List.flatMap_cons, List.length_append, List.length_cons, Nat.succ_mul]
    omega
theorem indexB_len {t : S70} {x : S98} (h : indexB t x = true) : (indL x).length ≤ 120 := by
  unfold indexB at h
  simp only [Bool.and_eq_true, decide_eq_true_eq] at h
  have h1 := nameB_size h.1
  have h2 : (intsL x.f2).length ≤ x.f2.length * 8 := fm_max intL 8 x.f2 (fun y _ => Nat.le_refl _)
  have h3 := h.2.2.1
  rw [indL_len]
  omega
theorem tcolsB_all {next : Int} : ∀ (l : List S75) (ids : List Int) (ns : List (List UInt8)), tcolsB next ids ns l = true → ∀ c ∈ l, columnB c = true
  | [], _, _, _, c, hc => by cases hc
  | x :: l, ids, ns, h, c, hc => by
    unfold tcolsB at h
    simp only [Bool.and_eq_true] at h
    rcases List.mem_cons.1 hc with rfl | hc
    · exact h.2.2.1
    · exact tcolsB_all l _ _ h.2.2.2 c hc
theorem tindsB_all {t : S70} : ∀ (l : List S98) (ids : List Int) (ns : List (List UInt8)), tindsB t ids ns l = true → ∀ c ∈ l, indexB t c = true
  | [], _, _, _, c, hc => by cases hc
  | x :: l, ids, ns, h, c, hc => by
    unfold tindsB at h
    simp only [Bool.and_eq_true] at h
    rcases List.mem_cons.1 hc with rfl | hc
    · exact h.2.2.1
    · exact tindsB_all l _ _ h.2.2.2 c hc
theorem tableB_len {t : S70} (h : tableB t = true) : (tabL t).length ≤ 2000 := by
  unfold tableB at h
  simp only [Bool.and_eq_true, decide_eq_true_eq] at h
  obtain ⟨_, _, _, h4, h5, h6, h7, h8, _⟩ := h
  have a1 := nameB_size h6
  have a2 : (colsL t.f2).length ≤ t.f2.length * 128 := fm_max colL 128 t.f2 (fun c hc => columnB_len (tcolsB_all _ _ _ h7 c hc))
  have a3 : (indsL t.f3).length ≤ t.f3.length * 120 := fm_max indL 120 t.f3 (fun c hc => indexB_len (tindsB_all _ _ _ h8 c hc))
  rw [tabL_len]
  omega
theorem tabsB_all {nx : Int} : ∀ (l : List S70) (last : Int) (ns : List (List UInt8)), tabsB nx last ns l = true → ∀ t ∈ l, tableB t = true
  | [], _, _, _, c, hc => by cases hc
  | x :: l, ids, ns, h, c, hc => by
    unfold tabsB at h
    simp only [Bool.and_eq_true] at h
    rcases List.mem_cons.1 hc with rfl | hc
    · exact h.2.2.2.1
    · exact tabsB_all l _ _ h.2.2.2.2 c hc
theorem schB_len {v : Int} {ts : List S70} {nx : Int} (h : schB v ts nx = true) : (putL v ts nx).length ≤ 10000 ∧ ts.length ≤ 4 := by
  unfold schB at h
  simp only [Bool.and_eq_true, decide_eq_true_eq] at h
  obtain ⟨_, _, _, _, h5, h6⟩ := h
  have a2 : (tabsL ts).length ≤ ts.length * 2000 := fm_max tabL 2000 ts (fun c hc => tableB_len (tabsB_all _ _ _ h6 c hc))
  rw [putL_len]
  omega
def putS (v : Int) (ts : List S70) (nx : Int) : ByteArray := if schB v ts nx = true then sealB (strOfNums (putL v ts nx)) else ⟨#[]⟩
end Go.Proofs.YtjgomlcdmpcoaaaDoor.H
namespace Go.Proofs.YtjgomlcdmpcoaaaDoor.H
open Go.RowKit Go.Proofs.YtjgomlcdmpcoaaaDoorW.PrintWords Go.Proofs.YtjgomlcdmpcoaaaDoorW.PrintLast Go.Proofs.YtjgomlcdmpcoaaaDoorW.PrintMore
open Go.Proofs.YtjgomlcdmpcoaaaDoor.D Go.Proofs.YtjgomlcdmpcoaaaDoor
set_option linter.unusedVariables false
set_option linter.unusedSimpArgs false
theorem tableB_lens {t : S70} (h : tableB t = true) : 1 ≤ t.f2.length ∧ t.f2.length ≤ 8 ∧ t.f3.length ≤ 4 ∧ ∀ x ∈ t.f3, 1 ≤ x.f2.length ∧ x.f2.length ≤ 8 := by
  unfold tableB at h
  simp only [Bool.and_eq_true, decide_eq_true_eq] at h
  obtain ⟨_, _, h3, h4, h5, h6, h7, h8, _⟩ := h
  refine ⟨h3, h4, h5, fun x hx => ?_⟩
  have := tindsB_all _ _ _ h8 x hx
  unfold indexB at this
  simp only [Bool.and_eq_true, decide_eq_true_eq] at this
  exact ⟨this.2.1, this.2.2.1⟩
theorem schB_tab {v : Int} {ts : List S70} {nx : Int} (h : schB v ts nx = true) : ∀ t ∈ ts, tableB t = true := by
  unfold schB at h
  simp only [Bool.and_eq_true, decide_eq_true_eq] at h
  exact tabsB_all _ _ _ h.2.2.2.2.2
theorem ref_elem (t : S70) (h2 : t.f2.length < 1000) (h3 : t.f3.length < 1000) (kind elem : Int) (k : Nat) (hk : 1010 < k) (i : Int) (v : Int) (ts : List S70) (nx : Int) (h0 : 0 ≤ i) (h1 : i < ts.length) (ht : rd_T70 ts i = t) :
    falseworkref18_State.j0 k kind elem i false v ts nx = some (elemI t kind elem) := by
  obtain ⟨k, rfl⟩ : ∃ k', k = k' + 1 + 1 + 1 + 1 := ⟨k - 4, by omega⟩
  have hj3 : ∀ x : Int, (x = -1 ∨ ∃ j : Nat, ∃ h : j < t.f2.length, x = (j : Int)) → ∀ b : Bool, falseworkref18_State.j3 (k + 1) x (decide (0 ≤ x) && b) t.f0 t.f1 t.f2 t.f3 t.f4 = some (if 0 ≤ x then (if b = true then (rd_T75 t.f2 x).f3 else (rd_T75 t.f2 x).f4) else -1) := by
    intro x hx b
    rw [falseworkref18_State.j3]
    rcases hx with rfl | ⟨j, hj, rfl⟩
    · simp
    · have e1 : (0 : Int) ≤ j := by omega
      have e2 : (j : Int) < t.f2.length := by omega
      rw [decide_eq_true e1, Bool.true_and]
      cases b
      · rw [if_neg (by simp), if_pos (by omega), if_pos e1, if_pos e2, if_pos e1, if_neg (by simp)]
      · rw [if_pos rfl, if_pos e1, if_pos e2, if_pos e1, if_pos rfl]
  have hcol := idxL_at (cId elem) t.f2
  have hix := idxL_at (xId elem) t.f3
  have hcr := column_run t elem (by omega) t.f2.length (k + 1) 0 (by omega) (by omega)
  have hir := index_run t elem (by omega) t.f3.length (k + 1 + 1) 0 (by omega) (by omega)
  rw [List.drop_zero] at hcr hir
  have hcr' : falseworkref18_column.f (k + 1) t.f0 t.f1 t.f2 t.f3 t.f4 elem = some (idxL (cId elem) t.f2 0) := hcr
  have hir' : falseworkref18_index.f (k + 1 + 1) t.f0 t.f1 t.f2 t.f3 t.f4 elem = some (idxL (xId elem) t.f3 0) := hir
  have hj2 : ∀ b : Bool, falseworkref18_State.j2 (k + 1 + 1) kind elem b t.f0 t.f1 t.f2 t.f3 t.f4 = some (if b = true then (if 0 ≤ idxL (cId elem) t.f2 0 then (if kind < 10 then (rd_T75 t.f2 (idxL (cId elem) t.f2 0)).f3 else (rd_T75 t.f2 (idxL (cId elem) t.f2 0)).f4) else -1) else -1) := by
    intro b
    rw [falseworkref18_State.j2]
    cases b
    · rw [if_neg (by simp), if_neg (by simp)]
    · rw [if_pos rfl, if_pos rfl, hcr', Option.bind_some]
      have h := hj3 (idxL (cId elem) t.f2 0) (hcol.elim .inl fun ⟨j, hj, e, _⟩ => .inr ⟨j, hj, e⟩) (decide (kind < 10))
      by_cases hp : 0 ≤ idxL (cId elem) t.f2 0
      · rw [decide_eq_true hp, Bool.true_and] at h
        rw [if_pos hp, h]
        by_cases hq : kind < 10 <;> simp [hq]
      · rw [decide_eq_false hp, Bool.false_and] at h
        rw [if_neg hp, h]
        by_cases hq : kind < 10 <;> simp [hq, hp]
  have hj1 : ∀ b : Bool, falseworkref18_State.j1 (k + 1 + 1 + 1) kind elem kind b t.f0 t.f1 t.f2 t.f3 t.f4 = some (if b = true then (if 0 ≤ idxL (xId elem) t.f3 0 then (rd_T98 t.f3 (idxL (xId elem) t.f3 0)).f4 else -1) else if 8 ≤ kind ∧ kind ≤ 11 then (if 0 ≤ idxL (cId elem) t.f2 0 then (if kind < 10 then (rd_T75 t.f2 (idxL (cId elem) t.f2 0)).f3 else (rd_T75 t.f2 (idxL (cId elem) t.f2 0)).f4) else -1) else -1) := by
    intro b
    rw [falseworkref18_State.j1]
    cases b
    · simp only [hj2, Bool.false_eq_true, if_false]
      by_cases a8 : kind = 8
      · subst a8; simp
      by_cases a9 : kind = 9
      · subst a9; simp
      by_cases a10 : kind = 10
      · subst a10; simp
      by_cases a11 : kind = 11
      · subst a11; simp
      rw [if_neg a8, if_neg a9, if_neg a10, if_neg (show ¬ (kind == 11) = true by simpa using a11), if_neg (show ¬ (8 ≤ kind ∧ kind ≤ 11) by omega)]
    · rw [if_pos rfl, if_pos rfl, hir', Option.bind_some]
      rcases hix with e | ⟨j, hj, e, _⟩
      · rw [e]; simp
      · rw [e, if_pos (by omega), if_pos (by omega), if_pos (by omega), if_pos (by omega)]
  rw [falseworkref18_State.j0, if_neg (by simp), if_pos h0, if_pos h1, ht, hj1, hj1]
  unfold elemI
  by_cases a6 : kind = 6
  · subst a6; simp
  by_cases a7 : kind = 7
  · subst a7; simp
  rw [if_neg a6, if_neg (show ¬ (kind == 7) = true by simpa using a7), if_neg (show ¬ (kind = 6 ∨ kind = 7) by omega)]
theorem ref_state (v : Int) (ts : List S70) (nx : Int) (hn : ts.length < 1000) (hw : ∀ t ∈ ts, ∀ c ∈ t.f2, ValWf c.f5) (kind table elem : Int) (k : Nat) (hk : 10000 < k) :
    falseworkref18_State.f k v ts nx kind table elem = some (stateI v ts nx kind table elem) := by
  have hb := byId_run table v ts nx (by omega) ts.length k 0 (by omega) (by omega)
  rw [List.drop_zero] at hb
  have hb' : falseworkref18_ByID.f k v ts nx table = some (idxL (tId table) ts 0) := hb
  unfold falseworkref18_State.f stateI
  rw [hb', Option.bind_some, ref_may v ts nx hw k (by omega), Option.bind_some]
  have hj0 : ∀ i, falseworkref18_State.j0 k kind elem i true v ts nx = some (-1) := by
    intro i
    obtain ⟨k, rfl⟩ : ∃ k', k = k' + 1 := ⟨k - 1, by omega⟩
    rw [falseworkref18_State.j0, if_pos rfl]
  rcases idxL_at (tId table) ts with e | ⟨j, hj, e, _⟩
  · rw [e, if_pos (by omega), if_neg (by omega), hj0]
  · rw [e, if_neg (by omega), if_pos (by omega)]
    cases hs : schB v ts nx with
    | false => rw [if_neg (by simp)]; exact hj0 _
    | true =>
      rw [if_pos rfl]
      have hm : ts[j] ∈ ts := List.getElem_mem hj
      obtain ⟨_, a2, a3, _⟩ := tableB_lens (schB_tab hs _ hm)
      exact ref_elem (rd_T70 ts j) (by rw [rd70 _ _ hj]; omega) (by rw [rd70 _ _ hj]; omega) kind elem k (by omega) j v ts nx (by omega) (by omega) rfl
theorem rstate_calls (v : Int) (ts : List S70) (nx : Int) (hn : ts.length < 1000) (hw : ∀ t ∈ ts, ∀ c ∈ t.f2, ValWf c.f5) (kind table elem : Int) (A : Option Addr) (c : Nat) (w : World) (hc : ts.length ≤ c) (g2 : k70.C w A ts.length ts) :
    Calls Tryd.prog 31 #[.agg #[.int .i64 v, .slice A ts.length c, .int .i64 nx], .int .i64 kind, .int .i64 table, .int .i64 elem] w fun e w' => e = .returned (.int .i64 (stateI v ts nx kind table elem)) ∧ Below w.heap.size w w' :=
  falseworkref18_State.calls 10001 v A c ts nx kind table elem _ w g2 hc (ref_state v ts nx hn hw kind table elem 10001 (by omega))
end Go.Proofs.YtjgomlcdmpcoaaaDoor.H
namespace Go.Proofs.YtjgomlcdmpcoaaaDoor.H
open Go.RowKit Go.Proofs.YtjgomlcdmpcoaaaDoorW.PrintWords Go.Proofs.YtjgomlcdmpcoaaaDoorW.PrintLast Go.Proofs.YtjgomlcdmpcoaaaDoorW.PrintMore
open Go.Proofs.YtjgomlcdmpcoaaaDoor.D Go.Proofs.YtjgomlcdmpcoaaaDoor
set_option linter.unusedVariables false
set_option linter.unusedSimpArgs false
def Small (ts : List S70) : Prop := ts.length ≤ 100 ∧ ∀ t ∈ ts, t.f2.length ≤ 100 ∧ t.f3.length ≤ 100 ∧ ∀ x ∈ t.f3, x.f2.length ≤ 100
structure CopySt (w wr : World) (bx : Array Value) (v nx : Int) (u : Value) (l : List S70) : Prop where
  below : Below w.heap.size w wr
  b0 : wr.heap[w.heap.size]? = some (.cells bx 28 (0, 0))
  b1 : wr.heap[w.heap.size + 1]? = some (.cells #[.int .i64 0, .slice none 0 0, .int .i64 0] 28 (0, 0))
  b2 : wr.heap[w.heap.size + 1 + 1]? = some (.cells #[.int .i64 v, u, .int .i64 nx] 28 (0, 0))
  s : Kd.S k70 70 wr w.heap.size (fun _ => True) u l
theorem CopySt.new (w : World) (bx : Array Value) (v nx : Int) : CopySt w (((w.alloc (.cells bx 28)).alloc (.cells #[.int .i64 0, .slice none 0 0, .int .i64 0] 28)).alloc (.cells #[.int .i64 v, .slice none 0 0, .int .i64 nx] 28)) bx v nx (.slice none 0 0) [] := by
  have h1 := heap_alloc_new w (.cells bx 28)
  have h2 := heap_alloc_new (w.alloc (.cells bx 28)) (.cells #[.int .i64 0, .slice none 0 0, .int .i64 0] 28)
  have h3 := heap_alloc_new ((w.alloc (.cells bx 28)).alloc (.cells #[.int .i64 0, .slice none 0 0, .int .i64 0] 28)) (.cells #[.int .i64 v, .slice none 0 0, .int .i64 nx] 28)
  have e1 : (w.alloc (.cells bx 28)).heap.size = w.heap.size + 1 := by simp
  have e2 : ((w.alloc (.cells bx 28)).alloc (.cells #[.int .i64 0, .slice none 0 0, .int .i64 0] 28)).heap.size = w.heap.size + 1 + 1 := by simp
  rw [e1] at h2
  rw [e2] at h3
  exact ⟨below_alloc (below_alloc (below_alloc (Below.refl _ _) _) _) _, blk_alloc (blk_alloc h1 _) _, blk_alloc h2 _, h3, Kd.S_nil _ _ _ _ _⟩
structure CopyIt (wr W : World) (t : S70) (cv iv : Value) (xs : List S98) : Prop where
  below : Below wr.heap.size wr W
  box : W.heap[wr.heap.size]? = some (.cells #[.int .i64 t.f0, .string t.f1, cv, iv, .int .i64 t.f4] 70 (0, 0))
  cols : k75.R 75 W wr.heap.size (fun _ => True) cv t.f2
  inds : k98.R 98 W wr.heap.size (fun _ => True) iv xs
section
variable {wr W W' : World} {t : S70} {cv iv : Value} {xs : List S98}
theorem CopyIt.step (h : CopyIt wr W t cv iv xs) (hb : Below W.heap.size W W') : CopyIt wr W' t cv iv xs :=
  ⟨below_then h.below h.below.size hb, blk_below h.box hb, Kd.R_below h.cols hb, Kd.R_below h.inds hb⟩
theorem CopyIt.start {cv0 iv0 : Value} (hb : Below wr.heap.size wr W) (hx : W.heap[wr.heap.size]? = some (.cells #[.int .i64 t.f0, .string t.f1, cv0, iv0, .int .i64 t.f4] 70 (0, 0))) (hc : k75.R 75 W wr.heap.size (fun _ => True) cv t.f2) :
    CopyIt wr ((W.setCell ⟨wr.heap.size, 2, none⟩ cv).setCell ⟨wr.heap.size, 3, none⟩ (.slice none 0 0)) t cv (.slice none 0 0) [] := by
  have h1 := blk_put hx 2 cv rfl
  exact ⟨(hb.setCell (Nat.le_refl _) _).setCell (Nat.le_refl _) _, blk_put h1 3 _ rfl, Kd.R_set (Kd.R_set hc hx (by decide) 2 _) h1 (by decide) 3 _, Kd.R_nil _ _ _ _ _⟩
theorem CopyIt.next {W1 : World} {iv1 : Value} {x : S98} (h : CopyIt wr W t cv iv xs) (hb : Below wr.heap.size wr W1) (hg : W.grownBy W1 iv.ownBlock) (hi : k98.R 98 W1 wr.heap.size (fun _ => True) iv1 (xs ++ [x])) :
    CopyIt wr (W1.setCell ⟨wr.heap.size, 3, none⟩ iv1) t cv iv1 (xs ++ [x]) := by
  have hx := blk_grown h.box hg (Kd.R_ne h.inds h.box (by decide))
  have hc : k75.R 75 W1 wr.heap.size (fun _ => True) cv t.f2 := Kd.R_over' h.cols (Kd.R_typed h.inds) (by decide) hg
  exact ⟨hb.setCell (Nat.le_refl _) _, blk_put hx 3 _ rfl, Kd.R_set hc hx (by decide) 3 _, Kd.R_set hi hx (by decide) 3 _⟩
end
theorem CopySt.step {w wr W : World} {bx : Array Value} {v nx : Int} {u : Value} {l : List S70} (h : CopySt w wr bx v nx u l) (hb : Below wr.heap.size wr W) : CopySt w W bx v nx u l :=
  ⟨below_then h.below h.below.size hb, blk_below h.b0 hb, blk_below h.b1 hb, blk_below h.b2 hb, Kd.S_below h.s hb⟩
theorem CopySt.next {w wr W W1 : World} {bx : Array Value} {v nx : Int} {u u1 : Value} {l : List S70} {t : S70} (h : CopySt w wr bx v nx u l) (hb : Below wr.heap.size wr W) (hW : Below w.heap.size w W1) (hg : W.grownBy W1 u.ownBlock) (hs : Kd.S k70 70 W1 w.heap.size (fun _ => True) u1 (l ++ [t])) :
    CopySt w (W1.setCell ⟨w.heap.size + 1 + 1, 1, none⟩ u1) bx v nx u1 (l ++ [t]) := by
  have h' := h.step hb
  have ne : ∀ {g : Nat} {cs : Array Value}, W.heap[g]? = some (.cells cs 28 (0, 0)) → some g ≠ u.ownBlock := fun hx => Kd.S_ne h'.s hx (by decide)
  have x0 := blk_grown h'.b0 hg (ne h'.b0)
  have x1 := blk_grown h'.b1 hg (ne h'.b1)
  have x2 := blk_grown h'.b2 hg (ne h'.b2)
  exact ⟨hW.setCell (by show w.heap.size ≤ w.heap.size + 1 + 1; omega) _, blk_far x0 (by show w.heap.size ≠ w.heap.size + 1 + 1; omega) _, blk_far x1 (by show w.heap.size + 1 ≠ w.heap.size + 1 + 1; omega) _, blk_put x2 1 _ rfl, Kd.S_set hs x2 (by decide) 1 _⟩
theorem CopySt.done {w wo : World} {bx : Array Value} {v nx : Int} {u : Value} {l : List S70} (h : CopySt w wo bx v nx u l) (a b c : Value) :
    Kd.S k70 70 (((wo.setCell ⟨w.heap.size + 1, 0, none⟩ a).setCell ⟨w.heap.size + 1, 1, none⟩ b).setCell ⟨w.heap.size + 1, 2, none⟩ c) w.heap.size (fun _ => True) u l ∧
      Below w.heap.size w (((wo.setCell ⟨w.heap.size + 1, 0, none⟩ a).setCell ⟨w.heap.size + 1, 1, none⟩ b).setCell ⟨w.heap.size + 1, 2, none⟩ c) := by
  have h1 := blk_put h.b1 0 a rfl
  have h2 := blk_put h1 1 b rfl
  exact ⟨Kd.S_set (Kd.S_set (Kd.S_set h.s h.b1 (by decide) 0 a) h1 (by decide) 1 b) h2 (by decide) 2 c, ((h.below.setCell (Nat.le_succ _) _).setCell (Nat.le_succ _) _).setCell (Nat.le_succ _) _⟩
set_option maxRecDepth 100000 in
set_option maxHeartbeats 4000000 in
theorem copy_calls (v : Int) (ts : List S70) (nx : Int) (hs : Small ts) (A : Option Addr) (c : Nat) (w : World) (hc : ts.length ≤ c) (g2 : k70.C w A ts.length ts) :
    Calls Tryd.prog 48 #[.agg #[.int .i64 v, .slice A ts.length c, .int .i64 nx]] w fun e w' => ∃ u, e = .returned (.agg #[.int .i64 v, u, .int .i64 nx]) ∧ Kd.S k70 70 w' w.heap.size (fun _ => True) u ts ∧ Below w.heap.size w w' := by
  have HC := Aside0.mk g2
  have HS := Aside0.mk hs
  have hn := hs.1
  have HT := Aside0.mk (CopySt.new w #[.int .i64 v, .slice A ts.length c, .int .i64 nx] v nx)
  clear g2 hs
  go_enter Tryd.func48, Tryd.ntmps48
  go_wp2
  go_loopg [4] ts.length (fun gg u4 wr => ∃ kk : Nat, ∃ u : Value, kk ≤ ts.length ∧ ts.length - kk ≤ gg ∧ u4 = .int .i64 kk ∧ Aside0 (CopySt w wr #[.int .i64 v, .slice A ts.length c, .int .i64 nx] v nx u (ts.take kk)))
  case atStart => exact ⟨0, _, Nat.zero_le _, by omega, rfl, HT⟩
  case round =>
    clear HT
    obtain ⟨kk, u, hkk, hgk, rfl, HR⟩ := hrel
    obtain ⟨wo, rfl⟩ : ∃ wo : World, wo = wr := ⟨_, rfl⟩
    have k1 := (blk_cell HR.out.b0 (j := 1) (v := .slice A ts.length c)) rfl
    by_cases hlt : kk < ts.length
    · have hltz : (kk : Int) < (ts.length : Int) := by omega
      have hBW := HR.out.below
      obtain ⟨ad, A2, c2, A3, c3, eA, h0, h1, h2, h3, h4, hd2, hcols, hd3, hinds⟩ := at_T70 HC.out (kk : Int) (by omega) (by omega)
      have hx : rd_T70 ts (kk : Int) = ts[kk] := rd70 _ _ hlt
      rw [hx] at h0 h1 h2 h3 h4 hd2 hcols hd3 hinds
      simp only [Int.toNat_natCast] at h0 h1 h2 h3 h4
      have H3 := Aside0.mk h3
      replace h0 := pw_cell_below hBW h0
      replace h1 := pw_cell_below hBW h1
      replace h2 := pw_cell_below hBW h2
      replace h3 := pw_cell_below hBW h3
      replace h4 := pw_cell_below hBW h4
      cases eA
      have hS := (HS.out.2 _ (List.getElem_mem hlt))
      have hT := Lib.hid (List.take_succ_eq_append_getElem hlt)
      generalize ts[kk] = t at h0 h1 h2 h3 h4 hd2 hcols hd3 hinds hS hT H3
      have HI2 := Aside0.mk hcols
      have HI3 := Aside0.mk hinds
      have hl2 := hS.1
      have hl3 := hS.2.1
      have HS2 := Aside0.mk hS.2.2
      have HX0 := Aside0.mk (heap_alloc_new wo (.cells #[.int .i64 t.f0, .string t.f1, .slice A2 t.f2.length c2, .slice A3 t.f3.length c3, .int .i64 t.f4] 70))
      clear hx hcols hinds hBW hS
      go_wp2_with (first
        | ((with_reducible refine gate_dst (N := 22) rfl ?_); refine Kd.R_lit k75 (w0 := wo) wo.heap.size 75 ?hg (N := 22) ?hd (xs := ([] : List S75)) (inner := []) (ok := fun _ => True) (okp := fun _ => True) ?hr (Reps.none _ _) (fun _ hk => hk) trivial (below_alloc (Below.refl _ _) _) (by simp) (by simp) ?_; (case hd => rfl); (case hg => rfl); (case hr => first | (go_simp; done) | (go_simp; rfl)); intro v1 w1 ho1 hb1 hg1 hn1; have HV := Aside0.mk ho1; have HB1 := Aside0.mk hb1; have HX1 := Aside0.mk (blk_grown HX0.out hg1 (by simp)); have a2 := blk_cell (j := 2) (v := .slice A2 t.f2.length c2) HX1.out rfl; clear ho1 hb1 hg1 hn1)
        | ((with_reducible refine gate_builtin (b := .append) (xs := #[.tmp 22, .tmp 24]) rfl ?_); at_builtin; refine Kd.R_append_rows k75 (w0 := wo) wo.heap.size rfl (.tmp 22) (.tmp 24) 67 75 (.agg #[(.int .i64 0), (.string ⟨#[]⟩), (.int .i64 0), (.int .i64 0), (.int .i64 0), (.int .i64 0), (.int .i64 0), (.int .u64 0), (.string ⟨#[]⟩)]) 88 rfl Tryd.underlying67 info75 rfl (by decide) (by omega) v1 [] t.f2 _ _ _ (fun _ => True) (fun _ => False) rfl rfl HV.out (Kd.C_below HI2.out (below_then HR.out.below HR.out.below.size HB1.out)) (fun _ _ h => h) (fun _ h => h.elim) (fun _ _ => trivial) HB1.out HB1.out.size (by simp only [List.length_nil]; omega) ?_; intro v2 w2 ho2 hb2 hg2 hat2; rw [List.nil_append] at ho2; have HX2 := Aside0.mk (blk_grown HX1.out hg2 (Kd.R_ne HV.out HX1.out (by decide))); obtain ⟨Ac, cc, hcv⟩ := Kd.R_slice ho2; subst hcv; have HI := Aside0.mk (CopyIt.start hb2 HX2.out ho2); have f2 := blk_frozen HX2.out 2; have f3 := blk_frozen HX2.out 3; have b2 := blk_cell (j := 2) (v := .slice A2 t.f2.length c2) HX2.out rfl; have b3 := blk_cell (j := 3) (v := .slice A3 t.f3.length c3) HX2.out rfl; clear ho2 hb2 hg2 hat2 a2))
      clear f2 f3 b2 b3 h0 h1 h2 h3 h4 k1
      try clear HX0 HX1 HX2 HB1 HV
      go_loopg [6] t.f3.length (fun gg u6 W => ∃ j : Nat, ∃ iv : Value, j ≤ t.f3.length ∧ t.f3.length - j ≤ gg ∧ u6 = .int .i64 j ∧ Aside0 (CopyIt wo W t (.slice Ac t.f2.length cc) iv (t.f3.take j)))
      case atStart => exact ⟨0, _, Nat.zero_le _, by omega, rfl, HI⟩
      case round =>
        clear HI
        obtain ⟨j, iv, hjk, hgj, rfl, HI⟩ := hrel
        have hBW := Aside0.mk (below_then HR.out.below HR.out.below.size HI.out.below)
        have k1 := (blk_cell (HR.out.step HI.out.below).b0 (j := 1) (v := .slice (some ad) ts.length c)) rfl
        have h3 := pw_cell_below hBW.out H3.out
        by_cases hjt : j < t.f3.length
        · have hjz : (j : Int) < (t.f3.length : Int) := by omega
          obtain ⟨ae, A5, c5, eA5, e0, e1, e2, e3, e4, hd5, hint⟩ := at_T98 HI3.out (j : Int) (by omega) (by omega)
          have hx : rd_T98 t.f3 (j : Int) = t.f3[j] := rd98 _ _ hjt
          rw [hx] at e0 e1 e2 e3 e4 hd5 hint
          simp only [Int.toNat_natCast] at e0 e1 e2 e3 e4
          replace e0 := pw_cell_below hBW.out e0
          replace e1 := pw_cell_below hBW.out e1
          replace e2 := pw_cell_below hBW.out e2
          replace e3 := pw_cell_below hBW.out e3
          replace e4 := pw_cell_below hBW.out e4
          cases eA5
          have hl5 := HS2.out _ (List.getElem_mem hjt)
          have hTj := Lib.hid (List.take_succ_eq_append_getElem hjt)
          generalize t.f3[j] = x at e0 e1 e2 e3 e4 hd5 hint hl5 hTj
          have HI5 := Aside0.mk hint
          have HZ0 := Aside0.mk (heap_alloc_new wr (.cells #[.int .i64 x.f0, .string x.f1, .slice A5 x.f2.length c5, .bool x.f3, .int .i64 x.f4] 98))
          have HLJ := Lib.hid (show (t.f3.take j).length = j by rw [List.length_take]; omega)
          clear hx hint
          go_wp2_with (first
            | ((with_reducible refine gate_dst (N := 48) rfl ?_); refine Kd.R_lit (Kd.int .i64) (w0 := wr) wr.heap.size 3 ?hg (N := 48) ?hd (xs := ([] : List Int)) (inner := []) (ok := fun _ => True) (okp := fun _ => True) ?hr (Reps.none _ _) (fun _ hk => hk) trivial (below_alloc (Below.refl _ _) _) (by simp) (by simp) ?_; (case hd => rfl); (case hg => rfl); (case hr => first | (go_simp; done) | (go_simp; rfl)); intro v1 w1 ho1 hb1 hg1 hn1; have HV := Aside0.mk ho1; have HB1 := Aside0.mk hb1; have HZ1 := Aside0.mk (blk_grown HZ0.out hg1 (by simp)); have a2 := blk_cell (j := 2) (v := .slice A5 x.f2.length c5) HZ1.out rfl; clear ho1 hb1 hg1 hn1)
            | ((with_reducible refine gate_builtin (b := .append) (xs := #[.tmp 48, .tmp 50]) rfl ?_); at_builtin; refine Kd.R_append_rows (Kd.int .i64) (w0 := wr) wr.heap.size rfl (.tmp 48) (.tmp 50) 40 3 (.int .i64 0) 8 rfl Tryd.underlying40 info3 rfl (by decide) (by omega) v1 [] x.f2 _ _ _ (fun _ => True) (fun _ => False) rfl rfl HV.out (Kd.C_below HI5.out (below_then hBW.out hBW.out.size HB1.out)) (fun _ _ h => h) (fun _ h => h.elim) (fun _ _ => trivial) HB1.out HB1.out.size (by simp only [List.length_nil]; omega) ?_; intro v2 w2 ho2 hb2 hg2 hat2; rw [List.nil_append] at ho2; have hz2 := blk_grown HZ1.out hg2 (Kd.R_ne HV.out HZ1.out (by decide)); obtain ⟨Ai, ci, hiv⟩ := Kd.R_slice ho2; subst hiv; have hz3 := blk_put hz2 2 (.slice Ai x.f2.length ci) rfl; have HB5 := Aside0.mk (hb2.setCell (p := ⟨wr.heap.size, 2, none⟩) (Nat.le_refl _) (.slice Ai x.f2.length ci)); have HN := Aside0.mk (HI.out.step HB5.out); have hi2 := HI.out.step hb2; have b3 := blk_cell (j := 3) (v := iv) hi2.box rfl; have HSZ := Lib.hid (show (w2.setCell ⟨wr.heap.size, 2, none⟩ (.slice Ai x.f2.length ci)).heap.size = w2.heap.size by simp); have hq1 : wo.heap.size ≠ wr.heap.size := blk_ne hi2.box hz2 (by decide); have hq2 : wr.heap.size ≠ wo.heap.size := Ne.symm hq1; have z0 := blk_cell (j := 0) (v := .int .i64 x.f0) hz2 rfl; have z1 := blk_cell (j := 1) (v := .string x.f1) hz2 rfl; have z3 := blk_cell (j := 3) (v := .bool x.f3) hz2 rfl; have z4 := blk_cell (j := 4) (v := .int .i64 x.f4) hz2 rfl; have HR5 := Aside0.mk (Kd.R_set ho2 hz2 (by decide) 2 (.slice Ai x.f2.length ci)); have f2 := blk_frozen hz2 2; have b2 := blk_cell (j := 2) (v := .slice A5 x.f2.length c5) hz2 rfl; have HZ3 := Aside0.mk hz3; clear ho2 hb2 hg2 hat2 a2 hz2 hz3 hi2)
            | ((with_reducible refine gate_builtin (b := .append) (xs := #[.tmp 54, .tmp 56]) rfl ?_); at_builtin; refine Kd.R_append k98 (w0 := wo) wo.heap.size rfl (.tmp 54) (.tmp 56) 68 98 (.agg #[(.int .i64 0), (.string ⟨#[]⟩), (.slice none 0 0), (.bool false), (.int .i64 0)]) 64 rfl Tryd.underlying68 info98 rfl (by decide) (by omega) iv (t.f3.take j) x [.int .i64 x.f0, .string x.f1, .slice Ai x.f2.length ci, .bool x.f3, .int .i64 x.f4] (fun _ => True) (fun k => wr.heap.size ≤ k) rfl ?aX ?aP ?aK (fun _ _ => trivial) HN.out.inds HN.out.below HN.out.below.size (by rw [HLJ.out]; omega) ?_; (case aX => rw [HSZ.out]; rfl); (case aP => exact k98_mkM _ _ _ x (Kd.R_lower (Kd.R_mono (Kd.R_bound HR5.out) (fun k hk => hk.2.1)) HI.out.below.size)); (case aK => exact fun k hk => ⟨trivial, fun he => by have := Kd.R_lt HI.out.inds k he.symm; omega⟩); intro v6 w6 ho6 hb6 hg6 hat6; obtain ⟨A6, c6, h6⟩ := Kd.R_slice ho6; rw [show (t.f3.take j ++ [x]).length = j + 1 by rw [List.length_append, HLJ.out]; rfl] at h6; subst h6; have hx6 := blk_grown HN.out.box hg6 (Kd.R_ne HN.out.inds HN.out.box (by decide)); have HF := Aside0.mk (HN.out.next hb6 hg6 ho6); have f6 := blk_frozen hx6 3; have b6 := blk_cell (j := 3) (v := iv) hx6 rfl; clear ho6 hb6 hg6 hat6 hx6 b2 b3 f2 z0 z1 z3 z4))
          go_roundg (t.f3.length - (j + 1))
          case measure => omega
          case rel => exact ⟨j + 1, _, by omega, by omega, by go_num, ⟨by rw [hTj.out]; exact HF.out⟩⟩
        · have hjz : ¬ (j : Int) < (t.f3.length : Int) := by omega
          have hI := HI.out
          rw [List.take_of_length_le (by omega)] at hI
          have HN := Aside0.mk hI
          have HSt := Aside0.mk (HR.out.step hI.below)
          have y0 := blk_cell (j := 1) (v := u) HSt.out.b2 rfl
          have z0 := blk_cell (j := 0) (v := .int .i64 t.f0) hI.box rfl
          have z1 := blk_cell (j := 1) (v := .string t.f1) hI.box rfl
          have z2 := blk_cell (j := 2) (v := .slice Ac t.f2.length cc) hI.box rfl
          have z3 := blk_cell (j := 3) (v := iv) hI.box rfl
          have z4 := blk_cell (j := 4) (v := .int .i64 t.f4) hI.box rfl
          have HLK := Lib.hid (show (ts.take kk).length = kk by rw [List.length_take]; omega)
          have HBA := Aside0.mk (below_then HR.out.below HR.out.below.size hI.below)
          clear hI HI
          go_wp2_with ((with_reducible refine gate_builtin (b := .append) (xs := #[.tmp 60, .tmp 62]) rfl ?_); at_builtin; refine Kd.S_append k70 (w0 := w) w.heap.size rfl (.tmp 60) (.tmp 62) 26 70 (.agg #[(.int .i64 0), (.string ⟨#[]⟩), (.slice none 0 0), (.slice none 0 0), (.int .i64 0)]) 80 rfl Tryd.underlying26 info70 rfl (by decide) (by omega) u (ts.take kk) t [.int .i64 t.f0, .string t.f1, .slice Ac t.f2.length cc, iv, .int .i64 t.f4] (fun _ => True) (fun k => wo.heap.size ≤ k) rfl rfl ?aP ?aK (fun _ _ => trivial) ?aO HBA.out HBA.out.size (by rw [HLK.out]; omega) ?_; (case aP => exact k70_mkM _ _ _ t (Kd.R_lower (Kd.R_mono (Kd.R_bound HN.out.cols) (fun k hk => hk.2.1)) HR.out.below.size) (Kd.R_lower (Kd.R_mono (Kd.R_bound HN.out.inds) (fun k hk => hk.2.1)) HR.out.below.size)); (case aK => exact fun k hk => ⟨trivial, fun he => by have := Kd.S_lt HR.out.s k he.symm; omega⟩); (case aO => exact Kd.S_below (Kd.S_mono (Kd.S_bound HR.out.s) (fun k hk => ⟨trivial, by have := hk.2.2.1; omega⟩)) HN.out.below); intro v6 w6 ho6 hb6 hg6 hat6; obtain ⟨A6, c6, h6⟩ := Kd.S_slice ho6; rw [show (ts.take kk ++ [t]).length = kk + 1 by rw [List.length_append, HLK.out]; rfl] at h6; subst h6; have hx6 := blk_grown HSt.out.b2 hg6 (Kd.S_ne HSt.out.s HSt.out.b2 (by decide)); have HF := Aside0.mk (HR.out.next HN.out.below hb6 hg6 ho6); have f6 := blk_frozen hx6 1; have b6 := blk_cell (j := 1) (v := u) hx6 rfl; clear ho6 hb6 hg6 hat6 hx6 y0 z0 z1 z2 z3 z4)
          go_roundg (ts.length - (kk + 1))
          case measure => omega
          case rel => exact ⟨kk + 1, _, by omega, by omega, by go_num, ⟨by rw [hT.out]; exact HF.out⟩⟩
    · have hltz : ¬ (kk : Int) < (ts.length : Int) := by omega
      have hS := HR.out
      rw [List.take_of_length_le (by omega)] at hS
      obtain ⟨Au, cu, hu⟩ := Kd.S_slice hS.s
      subst hu
      have y0 := blk_cell (j := 0) (v := .int .i64 v) hS.b2 rfl
      have y1 := blk_cell (j := 1) (v := .slice Au ts.length cu) hS.b2 rfl
      have y2 := blk_cell (j := 2) (v := .int .i64 nx) hS.b2 rfl
      have x0 := blk_cell (j := 0) (v := .int .i64 0) hS.b1 rfl
      have x1 := blk_cell (j := 1) (v := .slice none 0 0) hS.b1 rfl
      have x2 := blk_cell (j := 2) (v := .int .i64 0) hS.b1 rfl
      have f0 := blk_frozen hS.b1 0
      have f1 := blk_frozen hS.b1 1
      have f2 := blk_frozen hS.b1 2
      have HF := Aside0.mk hS
      clear hS
      go_wp2
      refine bodyPost_ret (v := .agg #[.int .i64 v, .slice Au ts.length cu, .int .i64 nx]) (by simp [results, Tryd.results48, go_sem, y0, y1, y2, x0, x1, x2]) rfl ⟨_, rfl, HF.out.done _ _ _⟩
end Go.Proofs.YtjgomlcdmpcoaaaDoor.H
namespace Go.Proofs.YtjgomlcdmpcoaaaDoor.H
open Go.RowKit Go.Proofs.YtjgomlcdmpcoaaaDoorW.PrintWords Go.Proofs.YtjgomlcdmpcoaaaDoorW.PrintLast Go.Proofs.YtjgomlcdmpcoaaaDoorW.PrintMore
open Go.Proofs.YtjgomlcdmpcoaaaDoor.D Go.Proofs.YtjgomlcdmpcoaaaDoor
set_option linter.unusedVariables false
set_option linter.unusedSimpArgs false
structure Tch (B : Nat) (W W' : World) : Prop where
  below : Below B W W'
  keep : ∀ (k : Nat) (cs : Array Value) (q : TypeId) (fr : Nat × Nat), W.heap[k]? = some (.cells cs q fr) → q ≠ 70 → q ≠ 75 → q ≠ 98 → W'.heap[k]? = W.heap[k]?
section
variable {B : Nat} {W W1 W2 : World}
theorem Tch.refl (B : Nat) (W : World) : Tch B W W := ⟨Below.refl _ _, fun _ _ _ _ _ _ _ _ => rfl⟩
theorem Tch.size (h : Tch B W W1) : W.heap.size ≤ W1.heap.size := h.below.size
theorem Tch.trans (h : Tch B W W1) (k : Tch B W1 W2) : Tch B W W2 :=
  ⟨h.below.trans k.below, fun j cs q fr hj h1 h2 h3 => (k.keep j cs q fr ((h.keep j cs q fr hj h1 h2 h3).trans hj) h1 h2 h3).trans (h.keep j cs q fr hj h1 h2 h3)⟩
theorem Tch.of_below (hb : Below W.heap.size W W1) (hB : B ≤ W.heap.size) : Tch B W W1 := ⟨hb.mono hB, fun k cs q fr hk _ _ _ => hb.block k (blk_lt hk)⟩
theorem Tch.of_grown {row : Option Nat} (hg : W.grownBy W1 row) (hB : B ≤ W.heap.size) (hr : ∀ k, row = some k → B ≤ k ∧ ∃ cs q, W.heap[k]? = some (.cells cs q (0, 0)) ∧ (q = 70 ∨ q = 75 ∨ q = 98)) : Tch B W W1 :=
  ⟨⟨hg.os, hg.tape, hg.output, hg.size, fun k hk => hg.block k (by omega) (fun e => by have := (hr k e.symm).1; omega)⟩, fun k cs q fr hk h1 h2 h3 => hg.block k (blk_lt hk) (fun e => by
    obtain ⟨_, cs', q', hk', hq⟩ := hr k e.symm
    rw [hk] at hk'
    injection hk' with e1
    injection e1 with _ e1 _
    rcases hq with hq | hq | hq
    · exact h1 (e1.trans hq)
    · exact h2 (e1.trans hq)
    · exact h3 (e1.trans hq))⟩
theorem Tch.of_set {g j t : Nat} {cs : Array Value} (hx : W.heap[g]? = some (.cells cs t (0, 0))) (ht : t = 70 ∨ t = 75 ∨ t = 98) (hB : B ≤ g) (u : Value) : Tch B W (W.setCell ⟨g, j, none⟩ u) :=
  ⟨(Below.refl _ _).setCell hB _, fun k cs' q fr hk h1 h2 h3 => Below.heap_setCell _ _ _ _ (fun e => by
    have e' : k = g := e
    subst e'
    rw [hx] at hk
    injection hk with e1
    injection e1 with _ e1 _
    rcases ht with ht | ht | ht
    · exact h1 (e1.symm.trans ht)
    · exact h2 (e1.symm.trans ht)
    · exact h3 (e1.symm.trans ht))⟩
theorem Tch.box (h : Tch B W W1) {k : Nat} {cs : Array Value} {q : TypeId} (hk : W.heap[k]? = some (.cells cs q (0, 0))) (h1 : q ≠ 70 := by decide) (h2 : q ≠ 75 := by decide) (h3 : q ≠ 98 := by decide) : W1.heap[k]? = some (.cells cs q (0, 0)) := (h.keep k cs q _ hk h1 h2 h3).trans hk
end
structure Lent (W : World) (B g n cap : Nat) (ts : List S70) (i : Nat) (oki : Nat → Prop) (t : S70) (cv iv : Value) : Prop where
  hole : Kd.H k70 70 W B (fun _ => True) (.slice (some ⟨g, 0, none⟩) n cap) ts (i : Int) oki [.int .i64 t.f0, .string t.f1, cv, iv, .int .i64 t.f4]
  lt : i < n
  cols : k75.R 75 W B oki cv t.f2
  inds : k98.R 98 W B oki iv t.f3
  fresh : ∀ k, W.heap.size ≤ k → oki k
section
variable {W W1 : World} {B g n cap : Nat} {ts : List S70} {i : Nat} {oki : Nat → Prop} {t t' : S70} {cv iv cv1 iv1 : Value}
theorem lend (h : Kd.S k70 70 W B (fun _ => True) (.slice (some ⟨g, 0, none⟩) n cap) ts) (hi : i < ts.length) : ∃ oki cv iv, Lent W B g n cap ts i oki ts[i] cv iv := by
  have hn := (Kd.S_reads' h).1
  obtain ⟨oki, c, hcl, hM, hcc, hoki, hH⟩ := Kd.S_lend h z70 (i : Int) (by omega) (by omega)
  rw [show ts.getD ((i : Int).toNat) z70 = ts[i] by simp [List.getD, hi]] at hM
  obtain ⟨cv, iv, rfl, h1, h2⟩ := k70_openM hM
  exact ⟨_, cv, iv, Kd.H_widen hH, by omega, Kd.R_mono h1 (fun k hk => .inl hk), Kd.R_mono h2 (fun k hk => .inl hk), fun k hk => .inr ⟨trivial, hk⟩⟩
theorem Lent.back (h : Lent W B g n cap ts i oki t cv iv) : Kd.S k70 70 W B (fun _ => True) (.slice (some ⟨g, 0, none⟩) n cap) (ts.set i t) := by
  have := Kd.H_back h.hole (k70_mkM W B oki t h.cols h.inds) (fun _ hk => hk)
  exact this
theorem Lent.step (h : Lent W B g n cap ts i oki t cv iv) (hb : Below W.heap.size W W1) : Lent W1 B g n cap ts i oki t cv iv :=
  ⟨Kd.H_below h.hole hb, h.lt, Kd.R_below h.cols hb, Kd.R_below h.inds hb, fun k hk => h.fresh k (Nat.le_trans hb.size hk)⟩
theorem Lent.blk (h : Lent W B g n cap ts i oki t cv iv) : ∃ cs, W.heap[g]? = some (.cells cs 70 (0, 0)) := by
  obtain ⟨_, f, hR⟩ := h.hole
  exact Kd.R_typed hR g (by simp [Value.ownBlock])
theorem Lent.base (h : Lent W B g n cap ts i oki t cv iv) : B ≤ g := by
  obtain ⟨_, f, hR⟩ := h.hole
  exact Kd.R_base hR g (by simp [Value.ownBlock])
theorem Lent.frozen (h : Lent W B g n cap ts i oki t cv iv) (j : Nat) : W.frozen? ⟨g, j, none⟩ = false := by
  obtain ⟨cs, hx⟩ := h.blk
  exact blk_frozen hx j
theorem Lent.cell (h : Lent W B g n cap ts i oki t cv iv) (j : Nat) {u : Value} (hu : [Value.int .i64 t.f0, .string t.f1, cv, iv, .int .i64 t.f4][j]? = some u) : W.cell? ⟨g, i * 5 + j, none⟩ = some u := by
  obtain ⟨rows, _, _, _, _, hcc, _⟩ := Kd.H_raw h.hole (by omega) (by have := h.lt; omega)
  exact hcc j u hu
theorem Lent.grown (h : Lent W B g n cap ts i oki t cv iv) {row : Option Nat} (hg : W.grownBy W1 row) (hrow : ∀ k, row = some k → oki k) :
    Kd.H k70 70 W1 B (fun _ => True) (.slice (some ⟨g, 0, none⟩) n cap) ts (i : Int) oki [.int .i64 t.f0, .string t.f1, cv, iv, .int .i64 t.f4] := Kd.H_grown h.hole hg hrow
theorem hole_set {c c' : List Value} (h : Kd.H k70 70 W B (fun _ => True) (.slice (some ⟨g, 0, none⟩) n cap) ts (i : Int) oki c) (hi : i < n) (j : Nat) (u : Value) (hj : j < 5) (hu : u.oneCell' = true) (hc : c.take j ++ [u] ++ c.drop (j + 1) = c') :
    Kd.H k70 70 (W.setCell ⟨g, i * 5 + j, none⟩ u) B (fun _ => True) (.slice (some ⟨g, 0, none⟩) n cap) ts (i : Int) oki c' := by
  have := (Kd.H_seg h (by omega) (by omega) (seg := [u]) (j := j) (by show j + 1 ≤ 5; omega) (fun q hq => by rw [List.mem_singleton.1 hq]; exact hu)).1
  rw [← hc]
  exact this
theorem Lent.oki_ne (h : Lent W B g n cap ts i oki t cv iv) : ∀ k, oki k → k ≠ g := by
  obtain ⟨ho, f, hR⟩ := h.hole
  intro k hk he
  subst he
  exact (hR.1 k (by simp [Value.ownBlock])).2 hk
theorem Lent.setN (h : Lent W B g n cap ts i oki t cv iv) (x : Int) (ht : (⟨t.f0, t.f1, t.f2, t.f3, x⟩ : S70) = t') : Lent (W.setCell ⟨g, i * 5 + 4, none⟩ (.int .i64 x)) B g n cap ts i oki t' cv iv := by
  subst ht
  obtain ⟨cs, hx⟩ := h.blk
  exact ⟨hole_set h.hole h.lt 4 _ (by omega) rfl rfl, h.lt, Kd.R_set h.cols hx (by decide) _ _, Kd.R_set h.inds hx (by decide) _ _, fun k hk => h.fresh k (by simpa [World.setCell] using hk)⟩
theorem Lent.setI (h : Lent W B g n cap ts i oki t cv iv) {xs : List S98} (hg : W.grownBy W1 iv.ownBlock) (hi : k98.R 98 W1 B oki iv1 xs) (ht : (⟨t.f0, t.f1, t.f2, xs, t.f4⟩ : S70) = t') :
    Lent (W1.setCell ⟨g, i * 5 + 3, none⟩ iv1) B g n cap ts i oki t' cv iv1 := by
  subst ht
  have h1 := h.grown hg (fun k hk => h.inds.1 k hk)
  obtain ⟨cs, hx⟩ := h.blk
  have hx1 := blk_grown hx hg (fun e => h.oki_ne g (h.inds.1 g e.symm) rfl)
  have hc : k75.R 75 W1 B oki cv t.f2 := Kd.R_over' h.cols (Kd.R_typed h.inds) (by decide) hg
  exact ⟨hole_set h1 h.lt 3 _ (by omega) (Kd.R_val hi).2 rfl, h.lt, Kd.R_set hc hx1 (by decide) _ _, Kd.R_set hi hx1 (by decide) _ _, fun k hk => h.fresh k (Nat.le_trans hg.size (by simpa [World.setCell] using hk))⟩
theorem Lent.setC (h : Lent W B g n cap ts i oki t cv iv) {xs : List S75} (hg : W.grownBy W1 cv.ownBlock) (hi : k75.R 75 W1 B oki cv1 xs) (ht : (⟨t.f0, t.f1, xs, t.f3, t.f4⟩ : S70) = t') :
    Lent (W1.setCell ⟨g, i * 5 + 2, none⟩ cv1) B g n cap ts i oki t' cv1 iv := by
  subst ht
  have h1 := h.grown hg (fun k hk => h.cols.1 k hk)
  obtain ⟨cs, hx⟩ := h.blk
  have hx1 := blk_grown hx hg (fun e => h.oki_ne g (h.cols.1 g e.symm) rfl)
  have hc : k98.R 98 W1 B oki iv t.f3 := Kd.R_over' h.inds (Kd.R_typed h.cols) (by decide) hg
  exact ⟨hole_set h1 h.lt 2 _ (by omega) (Kd.R_val hi).2 rfl, h.lt, Kd.R_set hi hx1 (by decide) _ _, Kd.R_set hc hx1 (by decide) _ _, fun k hk => h.fresh k (Nat.le_trans hg.size (by simpa [World.setCell] using hk))⟩
end
section
variable {P : Program} {ops : Array Oper} {o : Oper} {a : Act} {W : World} {K : Act → World → Prop} {Q : Exit → Act → World → Prop} {E : Prop} {α : Type}
theorem step_R (d : Kd α) (hgd : o.guard = none) (s x : Operand) (t e : TypeId) (z : Value) (bytes : Nat) (ho : o.op = .call { callee := .builtin .append, args := #[s, x], argTypes := #[t, t] })
    (ht : P.underlying t = some (.slice e)) (hinfo : (P.info? e).map (fun i => (i.zero, i.size, i.bytes)) = some (some z, d.sz, bytes)) (hz : z.cells.size = d.sz) (hs0 : 0 < d.sz) (hb0 : 0 < bytes)
    (base : Nat) (v : Value) (xs : List α) (p : α) (cs : List Value) (ok okp : Nat → Prop) (hs : a.eval s = v) (HO : d.R e W base ok v xs) (ad : Addr) (hx : a.eval x = .slice (some ad) 1 1) (hnews : ∀ j u, cs[j]? = some u → W.cell? (ad.add j) = some u)
    (hp : d.M W base okp p cs) (hokp : ∀ k, okp k → ok k ∧ some k ≠ v.ownBlock) (hfresh : ∀ k, W.heap.size ≤ k → ok k) (hbase : base ≤ W.heap.size) (hl : (xs.length + 1) * bytes ≤ 140737488355328)
    (h : ∀ A c w1, d.R e w1 base ok (.slice A (xs.length + 1) c) (xs ++ [p]) → W.grownBy w1 v.ownBlock → K (a.put o.dst (.slice A (xs.length + 1) c)) w1) : if Region.wanted o (yielded ops a.tmps) = true then Oper.wp P o a W K Q else E := by
  obtain ⟨i0, hi, hzz⟩ := Option.map_eq_some_iff.1 hinfo
  simp only [Prod.mk.injEq] at hzz
  obtain ⟨hz0, hz1, hz2⟩ := hzz
  obtain ⟨h0, inner, hown, hr⟩ := HO
  have hlen : xs.length + 1 ≤ 140737488355328 := Nat.le_trans (Nat.le_mul_of_pos_right _ hb0) hl
  refine step_append_lies W hgd s x t ho base e i0 z d.sz bytes ht hi hz0 hz1 hz2 hz hs0 v xs.length inner hs hown ad 1 1 cs hx (by rw [Nat.one_mul]; exact d.K_len (d.K_of_M hp)) hnews (d.K_one (d.K_of_M hp)) (by decide) (by unfold maxLen; omega) hl hbase W.heap.size rfl ?_
  intro g cap w1 hown1 hg1 hat _
  refine h (some ⟨g, 0, none⟩) cap w1 (Kd.R_appended h0 hr hp hokp hfresh hown1 hg1 ?_) hg1
  rcases hat with hat | hat
  · exact .inl (by rw [hat]; simp [Value.ownBlock])
  · exact .inr ⟨g, by simp [Value.ownBlock], by omega⟩
end
theorem at_str {w : World} {A : Option Addr} {n : Nat} {l : List ByteArray} (h : Kd.string.C w A n l) (j : Nat) (hj : j < l.length) : ∃ ad, A = some ad ∧ w.cell? (ad.add j) = some (.string l[j]) := by
  have hn := h.1
  obtain ⟨ad, e, hc⟩ := h.2.2 (by omega)
  obtain ⟨c, _, hK, hcell⟩ := hc j _ (List.getElem?_eq_getElem hj)
  refine ⟨ad, e, ?_⟩
  have h1 : c = [.string l[j]] := hK
  have := hcell 0 (.string l[j]) (by rw [h1]; rfl)
  rwa [show Kd.string.sz = 1 from rfl, Nat.mul_one, Nat.add_zero] at this
theorem at_int {w : World} {A : Option Addr} {n : Nat} {l : List Int} (h : (Kd.int .i64).C w A n l) (j : Nat) (hj : j < l.length) : ∃ ad, A = some ad ∧ w.cell? (ad.add j) = some (.int .i64 l[j]) := by
  have hn := h.1
  obtain ⟨ad, e, hc⟩ := h.2.2 (by omega)
  obtain ⟨c, _, hK, hcell⟩ := hc j _ (List.getElem?_eq_getElem hj)
  refine ⟨ad, e, ?_⟩
  have h1 : c = [.int .i64 l[j]] := hK
  have := hcell 0 (.int .i64 l[j]) (by rw [h1]; rfl)
  rwa [show (Kd.int .i64).sz = 1 from rfl, Nat.mul_one, Nat.add_zero] at this
end Go.Proofs.YtjgomlcdmpcoaaaDoor.H
namespace Go.Proofs.YtjgomlcdmpcoaaaDoor.H
open Go.RowKit Go.Proofs.YtjgomlcdmpcoaaaDoorW.PrintWords Go.Proofs.YtjgomlcdmpcoaaaDoorW.PrintLast Go.Proofs.YtjgomlcdmpcoaaaDoorW.PrintMore
open Go.Proofs.YtjgomlcdmpcoaaaDoor.D Go.Proofs.YtjgomlcdmpcoaaaDoor
set_option linter.unusedVariables false
set_option linter.unusedSimpArgs false
theorem nil_C {α : Type} (d : Kd α) (w : World) : Kd.C d w none 0 [] := ⟨rfl, Nat.zero_le _, fun h => absurd h (by omega)⟩
end Go.Proofs.YtjgomlcdmpcoaaaDoor.H
namespace Go.Proofs.YtjgomlcdmpcoaaaDoor.H
open Go.RowKit Go.Proofs.YtjgomlcdmpcoaaaDoorW.PrintWords Go.Proofs.YtjgomlcdmpcoaaaDoorW.PrintLast Go.Proofs.YtjgomlcdmpcoaaaDoorW.PrintMore
open Go.Proofs.YtjgomlcdmpcoaaaDoor.D Go.Proofs.YtjgomlcdmpcoaaaDoor
set_option linter.unusedVariables false
theorem rname_calls (s : ByteArray) (w : World) : Calls Tryd.prog 34 #[.string s] w fun e w' => e = .returned (.bool (nameB s)) ∧ Below w.heap.size w w' :=
  (falseworkref6_Name.calls 101 s (nameB s) w (ref_name s 101 (by decide))).mono fun e w' h => ⟨h.1, by first | exact h.2 | exact h.2.below⟩
end Go.Proofs.YtjgomlcdmpcoaaaDoor.H
namespace Go.Proofs.YtjgomlcdmpcoaaaDoor.H
open Go.RowKit Go.Proofs.YtjgomlcdmpcoaaaDoorW.PrintWords Go.Proofs.YtjgomlcdmpcoaaaDoorW.PrintLast Go.Proofs.YtjgomlcdmpcoaaaDoorW.PrintMore
open Go.Proofs.YtjgomlcdmpcoaaaDoor.D Go.Proofs.YtjgomlcdmpcoaaaDoor
set_option linter.unusedVariables false
set_option linter.unusedSimpArgs false
def StmtOk (s : S45) : Prop := s.f3.length ≤ 100 ∧ s.f4.length ≤ 100 ∧ s.f9.length ≤ 100 ∧ s.f2.size ≤ maxLen ∧ s.f1.size ≤ maxLen ∧ ∀ x ∈ s.f4, ValWf x
def Upd (F : Nat) (f : S70 → S45 → S70 × Int × Int) : Prop :=
  ∀ (w0 W : World) (g n cap : Nat) (ts : List S70) (i : Nat) (oki : Nat → Prop) (t : S70) (cv iv : Value) (s : S45) (cs : List Value), Below w0.heap.size w0 W → Lent W w0.heap.size g n cap ts i oki t cv iv → tableB t = true → k45.K w0 s cs → StmtOk s →
    Calls Tryd.prog F #[.pointer (some ⟨g, i * 5, none⟩), .agg cs.toArray] W fun e W' => e = .returned (.tuple #[.int .i64 (f t s).2.1, .int .i64 (f t s).2.2]) ∧ Kd.S k70 70 W' w0.heap.size (fun _ => True) (.slice (some ⟨g, 0, none⟩) n cap) (ts.set i (f t s).1) ∧ Tch w0.heap.size W W'
structure UpdSt (w0 W0 W : World) (g n cap : Nat) (ts : List S70) (i : Nat) (oki : Nat → Prop) (t : S70) (cv iv : Value) : Prop where
  lent : Lent W w0.heap.size g n cap ts i oki t cv iv
  tch : Tch w0.heap.size W0 W
  base : w0.heap.size ≤ W0.heap.size
theorem UpdSt.step {w0 W0 W W1 : World} {g n cap : Nat} {ts : List S70} {i : Nat} {oki : Nat → Prop} {t : S70} {cv iv : Value} (h : UpdSt w0 W0 W g n cap ts i oki t cv iv) (hb : Below W.heap.size W W1) : UpdSt w0 W0 W1 g n cap ts i oki t cv iv :=
  ⟨h.lent.step hb, h.tch.trans (Tch.of_below hb (Nat.le_trans h.base h.tch.size)), h.base⟩
theorem UpdSt.done {w0 W0 W : World} {g n cap : Nat} {ts : List S70} {i : Nat} {oki : Nat → Prop} {t : S70} {cv iv : Value} (h : UpdSt w0 W0 W g n cap ts i oki t cv iv) : Kd.S k70 70 W w0.heap.size (fun _ => True) (.slice (some ⟨g, 0, none⟩) n cap) (ts.set i t) ∧ Tch w0.heap.size W0 W := ⟨h.lent.back, h.tch⟩
section
variable {w0 W0 W W1 : World} {g n cap : Nat} {ts : List S70} {i : Nat} {oki : Nat → Prop} {t t' : S70} {cv iv cv1 iv1 : Value}
theorem UpdSt.setN (h : UpdSt w0 W0 W g n cap ts i oki t cv iv) (x : Int) (ht : (⟨t.f0, t.f1, t.f2, t.f3, x⟩ : S70) = t') : UpdSt w0 W0 (W.setCell ⟨g, i * 5 + 4, none⟩ (.int .i64 x)) g n cap ts i oki t' cv iv := by
  obtain ⟨cs, hx⟩ := h.lent.blk
  exact ⟨h.lent.setN x ht, h.tch.trans (Tch.of_set hx (.inl rfl) h.lent.base _), h.base⟩
theorem UpdSt.setI (h : UpdSt w0 W0 W g n cap ts i oki t cv iv) {xs : List S98} (hg : W.grownBy W1 iv.ownBlock) (hi : k98.R 98 W1 w0.heap.size oki iv1 xs) (ht : (⟨t.f0, t.f1, t.f2, xs, t.f4⟩ : S70) = t') :
    UpdSt w0 W0 (W1.setCell ⟨g, i * 5 + 3, none⟩ iv1) g n cap ts i oki t' cv iv1 := by
  have h1 : Tch w0.heap.size W W1 := Tch.of_grown hg (Nat.le_trans h.base h.tch.size) (fun k hk => ⟨Kd.R_base h.lent.inds k hk, by obtain ⟨c, hc⟩ := Kd.R_typed h.lent.inds k hk; exact ⟨c, 98, hc, .inr (.inr rfl)⟩⟩)
  obtain ⟨cs, hx⟩ := h.lent.blk
  have hx1 := blk_grown hx hg (fun e => h.lent.oki_ne g (h.lent.inds.1 g e.symm) rfl)
  exact ⟨h.lent.setI hg hi ht, (h.tch.trans h1).trans (Tch.of_set hx1 (.inl rfl) h.lent.base _), h.base⟩
theorem UpdSt.setC (h : UpdSt w0 W0 W g n cap ts i oki t cv iv) {xs : List S75} (hg : W.grownBy W1 cv.ownBlock) (hi : k75.R 75 W1 w0.heap.size oki cv1 xs) (ht : (⟨t.f0, t.f1, xs, t.f3, t.f4⟩ : S70) = t') :
    UpdSt w0 W0 (W1.setCell ⟨g, i * 5 + 2, none⟩ cv1) g n cap ts i oki t' cv1 iv := by
  have h1 : Tch w0.heap.size W W1 := Tch.of_grown hg (Nat.le_trans h.base h.tch.size) (fun k hk => ⟨Kd.R_base h.lent.cols k hk, by obtain ⟨c, hc⟩ := Kd.R_typed h.lent.cols k hk; exact ⟨c, 75, hc, .inr (.inl rfl)⟩⟩)
  obtain ⟨cs, hx⟩ := h.lent.blk
  have hx1 := blk_grown hx hg (fun e => h.lent.oki_ne g (h.lent.cols.1 g e.symm) rfl)
  exact ⟨h.lent.setC hg hi ht, (h.tch.trans h1).trans (Tch.of_set hx1 (.inl rfl) h.lent.base _), h.base⟩
end
theorem cell_same {w W : World} {a : Addr} (h : w.heap[a.block]? = W.heap[a.block]?) : w.cell? a = W.cell? a := by simp [World.cell?, h]
theorem frozen_same {w W : World} {a : Addr} (h : w.heap[a.block]? = W.heap[a.block]?) : w.frozen? a = W.frozen? a := by simp [World.frozen?, h]
theorem rshown_calls (l : List S75) (hl : l.length < 1000) (n : ByteArray) (A : Option Addr) (c : Nat) (w : World) (hc : l.length ≤ c) (g : k75.C w A l.length l) : Calls Tryd.prog 117 #[.slice A l.length c, .string n] w fun e w' => e = .returned (.int .i64 (idxL (cShown n) l 0)) ∧ ∃ k, w' = w.drewN k := by
  have h := shown_run n l (by omega) l.length 1001 0 (by omega) (by omega)
  rw [List.drop_zero] at h
  exact (falseworkref18_Shown.calls 1001 A c l n _ w g hc h).mono fun e w' h => ⟨h.1, h.2.out⟩
theorem rtwice_calls (l : List ByteArray) (hl : l.length < 100) (A : Option Addr) (c : Nat) (w : World) (hc : l.length ≤ c) (g : Kd.string.C w A l.length l) : Calls Tryd.prog 61 #[.slice A l.length c] w fun e w' => e = .returned (.bool (twiceB [] l)) ∧ Below w.heap.size w w' := by
  have h := twice_run l hl l.length 30000 0 (by omega) (by omega)
  rw [List.take_zero, List.drop_zero] at h
  exact (falseworkref18_twice.calls 30000 A c l _ w g hc h).mono fun e w' h => ⟨h.1, by first | exact h.2 | exact h.2.below⟩
end Go.Proofs.YtjgomlcdmpcoaaaDoor.H






