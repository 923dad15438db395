/- Own texts of this session, packed by its program wip/pp/pack.py: lemmas and walks of functions. -/
import Derived.Laws.BitsLemmas
import Derived.Lib.ParseIntBCases
import Derived.Test.YtjehfmimbbdnkaaDoorKReads4
namespace Go.Proofs.YtjehfmimbbdnkaaDoor.L
open Go.RowKit Go.Proofs.YtjehfmimbbdnkaaDoorW.PrintWords Go.Proofs.YtjehfmimbbdnkaaDoorW.PrintLast Go.Proofs.YtjehfmimbbdnkaaDoorW.PrintMore
attribute [local go_sem] max2_int min2_int max_two min_two max_three min_three max_four min_four
set_option linter.unusedVariables false
set_option linter.unusedSimpArgs false
attribute [local go_sem high] eqA37
def falseworklaw16_same.l0 : Nat → List (S39) → List (S47) → Int → Option (Bool)
 | 0, _, _, _ => none
 | k + 1, x0, x1, x5 => if x5 < (x0.length : Int) then (if 0 ≤ x5 then (if x5 < (x1.length : Int) then (if ((rd_T39 x0 x5).f0) = ((rd_T47 x1 x5).f0) then (if ((rd_T39 x0 x5).f1).toList = ((rd_T47 x1 x5).f1).toList then (if (!(((rd_T39 x0 x5).f2.f0) == ((rd_T47 x1 x5).f2.f0)) || (!(((rd_T39 x0 x5).f2.f1) == ((rd_T47 x1 x5).f2.f1)) || (!(((rd_T39 x0 x5).f2.f2) == ((rd_T47 x1 x5).f2.f2)) || (!((((rd_T39 x0 x5).f2.f3).toList) == (((rd_T47 x1 x5).f2.f3).toList)))))) = true then (some false) else (if ((rd_T39 x0 x5).f3) = ((rd_T47 x1 x5).f3) then (falseworklaw16_same.l0 k x0 x1 (wrap64 (x5 + 1))) else (some false))) else (some false)) else (some false)) else (none)) else (none)) else (some true)
def falseworklaw16_same.f (k : Nat) (l0 : List (S39)) (l1 : List (S47)) : Option (Bool) := if (l0.length : Int) = (l1.length : Int) then (falseworklaw16_same.l0 k l0 l1 0) else (some false)
theorem falseworklaw16_same.mono_l : ∀ k, (∀ y0 y1 y2, LeO (falseworklaw16_same.l0 k y0 y1 y2) (falseworklaw16_same.l0 (k + 1) y0 y1 y2))
 | 0 => fun _ _ _ r h => by simp [falseworklaw16_same.l0] at h
 | k + 1 => by
  have ih0 := falseworklaw16_same.mono_l k
  ·intro y0 y1 y2
   unfold falseworklaw16_same.l0
   repeat' first
   | (with_reducible exact ih0 _ _ _)
   | (with_reducible exact LeO.refl _)
   | (with_reducible exact LeO.none _)
   | (with_reducible refine LeO.ite ?_ ?_)
   | (with_reducible refine LeO.bind ?_ (fun _ => ?_))
   | exact ih0 _ _ _
   | exact LeO.none _
   | refine LeO.ite ?_ ?_
   | refine LeO.bind ?_ (fun _ => ?_)
theorem falseworklaw16_same.mono : ∀ a0 a1 k, LeO (falseworklaw16_same.f k a0 a1) (falseworklaw16_same.f (k + 1) a0 a1) := by
 intro a0 a1 k
 have ih0 := falseworklaw16_same.mono_l k
 unfold falseworklaw16_same.f
 repeat' first
   | (with_reducible exact ih0 _ _ _)
   | (with_reducible exact LeO.refl _)
   | (with_reducible exact LeO.none _)
   | (with_reducible refine LeO.ite ?_ ?_)
   | (with_reducible refine LeO.bind ?_ (fun _ => ?_))
   | exact ih0 _ _ _
   | exact LeO.none _
   | refine LeO.ite ?_ ?_
   | refine LeO.bind ?_ (fun _ => ?_)
set_option maxHeartbeats 8000000 in
set_option maxRecDepth 100000 in
theorem falseworklaw16_same.calls (k : Nat) (A0 : Option Addr) (c0 : Nat) (l0 : List (S39)) (A1 : Option Addr) (c1 : Nat) (l1 : List (S47)) (r : Bool) (w : World) (hr0 : Kd.C k39 w A0 l0.length l0) (hc0 : l0.length ≤ c0) (hr1 : Kd.C k47 w A1 l1.length l1) (hc1 : l1.length ≤ c1) (h : falseworklaw16_same.f k l0 l1 = some r) :
  Calls Tryd.prog 11 #[.slice A0 l0.length c0, .slice A1 l1.length c1] w fun e w' => e = .returned (.bool r) ∧ Drawn0 w w' := by
 have hu37 := Tryd.underlying37
 have HR0 := Aside0.mk hr0
 have HC0 := Aside0.mk hc0
 clear hr0 hc0
 have HR1 := Aside0.mk hr1
 have HC1 := Aside0.mk hc1
 clear hr1 hc1
 have H : (if (l0.length : Int) = (l1.length : Int) then (falseworklaw16_same.l0 k l0 l1 0) else (some false)) = some r := h
 clear h
 by_cases c3 : (l0.length : Int) = (l1.length : Int)
 ·rw [if_pos c3] at H
  have c3b0 : ((l0.length : Int) == (l1.length : Int)) = true := beq_iff_eq.mpr c3
  have c3b1 : ((l0.length : Int) != (l1.length : Int)) = false := bne_eq_false_iff_eq.mpr c3
  have c3b2 : (l0.length == l1.length) = true := by first | simpa using c3 | (simp at c3 ⊢; omega)
  clear c3
  have H' := Aside0.mk H
  clear H
  go_enter Tryd.func11, Tryd.ntmps11
  go_wp2
  repeat (go_quiet (fail); try go_wp2)
  go_loopg [5] k (fun kq v5 w' => ∃ (x5_1 : Int), v5 = .int .i64 x5_1 ∧ Aside0 (falseworklaw16_same.l0 kq l0 l1 x5_1 = some r) ∧ Aside0 (kq ≤ k) ∧ Drawn0 w w')
  case atStart => exact ⟨(0), (by first | rfl | (simp; done) | (simp [*]; done)), H', ⟨Nat.le_refl _⟩, by repeat (first | exact Drawn0.refl _ | apply Drawn0.step)⟩
  case round =>
   clear H'
   try clear c1
   try clear p2
   try clear c3
   try clear c3b0
   try clear c3b1
   try clear c3b2
   obtain ⟨x5_1, rfl, HA, HK1, ⟨m1, rfl⟩⟩ := hrel
   cases gk with
   | zero => exact absurd HA.out (by simp [falseworklaw16_same.l0])
   | succ k1 =>
    have H := HA.out
    clear HA
    simp only [falseworklaw16_same.l0] at H
    by_cases c4 : x5_1 < (l0.length : Int)
    ·rw [if_pos c4] at H
     have c4b0 : decide (x5_1 < (l0.length : Int)) = true := decide_eq_true c4
     clear c4
     by_cases c5 : 0 ≤ x5_1
     ·rw [if_pos c5] at H
      have c5b0 : decide (0 ≤ x5_1) = true := decide_eq_true c5
      clear c5
      by_cases c6 : x5_1 < (l1.length : Int)
      ·rw [if_pos c6] at H
       have c6b0 : decide (x5_1 < (l1.length : Int)) = true := decide_eq_true c6
       clear c6
       by_cases c7 : ((rd_T39 l0 x5_1).f0) = ((rd_T47 l1 x5_1).f0)
       ·rw [if_pos c7] at H
        have c7b0 : (((rd_T39 l0 x5_1).f0) == ((rd_T47 l1 x5_1).f0)) = true := beq_iff_eq.mpr c7
        have c7b1 : (((rd_T39 l0 x5_1).f0) != ((rd_T47 l1 x5_1).f0)) = false := bne_eq_false_iff_eq.mpr c7
        clear c7
        by_cases c8 : ((rd_T39 l0 x5_1).f1).toList = ((rd_T47 l1 x5_1).f1).toList
        ·rw [if_pos c8] at H
         have c8b0 : (((rd_T39 l0 x5_1).f1).toList == ((rd_T47 l1 x5_1).f1).toList) = true := beq_iff_eq.mpr c8
         have c8b1 : (((rd_T39 l0 x5_1).f1).toList != ((rd_T47 l1 x5_1).f1).toList) = false := bne_eq_false_iff_eq.mpr c8
         clear c8
         by_cases c9 : (!(((rd_T39 l0 x5_1).f2.f0) == ((rd_T47 l1 x5_1).f2.f0)) || (!(((rd_T39 l0 x5_1).f2.f1) == ((rd_T47 l1 x5_1).f2.f1)) || (!(((rd_T39 l0 x5_1).f2.f2) == ((rd_T47 l1 x5_1).f2.f2)) || (!((((rd_T39 l0 x5_1).f2.f3).toList) == (((rd_T47 l1 x5_1).f2.f3).toList)))))) = true
         ·rw [if_pos c9] at H
          have c9b0 : (!(((rd_T39 l0 x5_1).f2.f0) == ((rd_T47 l1 x5_1).f2.f0)) || (!(((rd_T39 l0 x5_1).f2.f1) == ((rd_T47 l1 x5_1).f2.f1)) || (!(((rd_T39 l0 x5_1).f2.f2) == ((rd_T47 l1 x5_1).f2.f2)) || (!((((rd_T39 l0 x5_1).f2.f3).toList) == (((rd_T47 l1 x5_1).f2.f3).toList)))))) = true := c9
          clear c9
          obtain rfl := Option.some.inj H
          have p260 : 0 ≤ (x5_1 : Int) := of_decide_eq_true (by first | (with_reducible assumption) | assumption)
          have q260 : x5_1 < (l0.length : Int) := of_decide_eq_true (by first | (with_reducible assumption) | assumption)
          obtain ⟨ad260, e260, hx260_0, hx260_1, hx260_2, hx260_3, hx260_4, hx260_5, hx260_6⟩ := at_T39 HR0.out x5_1 p260 q260
          cases e260
          replace p260 := eq_true p260
          replace q260 := eq_true q260
          have p261 : 0 ≤ (x5_1 : Int) := of_decide_eq_true (by first | (with_reducible assumption) | assumption)
          have q261 : x5_1 < (l1.length : Int) := of_decide_eq_true (by first | (with_reducible assumption) | assumption)
          obtain ⟨ad261, e261, hx261_0, hx261_1, hx261_2, hx261_3, hx261_4, hx261_5, hx261_6⟩ := at_T47 HR1.out x5_1 p261 q261
          cases e261
          replace p261 := eq_true p261
          replace q261 := eq_true q261
          have p262 : 0 ≤ (x5_1 : Int) := of_decide_eq_true (by first | (with_reducible assumption) | assumption)
          have q262 : x5_1 < (l0.length : Int) := of_decide_eq_true (by first | (with_reducible assumption) | assumption)
          obtain ⟨ad262, e262, hx262_0, hx262_1, hx262_2, hx262_3, hx262_4, hx262_5, hx262_6⟩ := at_T39 HR0.out x5_1 p262 q262
          obtain rfl : ad260 = ad262 := (by injection e262)
          replace p262 := eq_true p262
          replace q262 := eq_true q262
          have p263 : 0 ≤ (x5_1 : Int) := of_decide_eq_true (by first | (with_reducible assumption) | assumption)
          have q263 : x5_1 < (l1.length : Int) := of_decide_eq_true (by first | (with_reducible assumption) | assumption)
          obtain ⟨ad263, e263, hx263_0, hx263_1, hx263_2, hx263_3, hx263_4, hx263_5, hx263_6⟩ := at_T47 HR1.out x5_1 p263 q263
          obtain rfl : ad261 = ad263 := (by injection e263)
          replace p263 := eq_true p263
          replace q263 := eq_true q263
          have p264 : 0 ≤ (x5_1 : Int) := of_decide_eq_true (by first | (with_reducible assumption) | assumption)
          have q264 : x5_1 < (l0.length : Int) := of_decide_eq_true (by first | (with_reducible assumption) | assumption)
          obtain ⟨ad264, e264, hx264_0, hx264_1, hx264_2, hx264_3, hx264_4, hx264_5, hx264_6⟩ := at_T39 HR0.out x5_1 p264 q264
          obtain rfl : ad260 = ad264 := (by injection e264)
          replace p264 := eq_true p264
          replace q264 := eq_true q264
          have p265 : 0 ≤ (x5_1 : Int) := of_decide_eq_true (by first | (with_reducible assumption) | assumption)
          have q265 : x5_1 < (l1.length : Int) := of_decide_eq_true (by first | (with_reducible assumption) | assumption)
          obtain ⟨ad265, e265, hx265_0, hx265_1, hx265_2, hx265_3, hx265_4, hx265_5, hx265_6⟩ := at_T47 HR1.out x5_1 p265 q265
          obtain rfl : ad261 = ad265 := (by injection e265)
          replace p265 := eq_true p265
          replace q265 := eq_true q265
          go_wp2
          repeat (go_quiet (fail); try go_wp2)
          go_ret
          exact ⟨by first | rfl | (simp; done) | (simp [*]; done), by repeat (first | exact Drawn0.refl _ | apply Drawn0.step)⟩
         ·rw [if_neg c9] at H
          have c9b0 : (!(((rd_T39 l0 x5_1).f2.f0) == ((rd_T47 l1 x5_1).f2.f0)) || (!(((rd_T39 l0 x5_1).f2.f1) == ((rd_T47 l1 x5_1).f2.f1)) || (!(((rd_T39 l0 x5_1).f2.f2) == ((rd_T47 l1 x5_1).f2.f2)) || (!((((rd_T39 l0 x5_1).f2.f3).toList) == (((rd_T47 l1 x5_1).f2.f3).toList)))))) = false := by simpa using c9
          clear c9
          by_cases c10 : ((rd_T39 l0 x5_1).f3) = ((rd_T47 l1 x5_1).f3)
          ·rw [if_pos c10] at H
           have c10b0 : (((rd_T39 l0 x5_1).f3) == ((rd_T47 l1 x5_1).f3)) = true := beq_iff_eq.mpr c10
           have c10b1 : (((rd_T39 l0 x5_1).f3) != ((rd_T47 l1 x5_1).f3)) = false := bne_eq_false_iff_eq.mpr c10
           clear c10
           have H' := Aside0.mk H
           clear H
           have p260 : 0 ≤ (x5_1 : Int) := of_decide_eq_true (by first | (with_reducible assumption) | assumption)
           have q260 : x5_1 < (l0.length : Int) := of_decide_eq_true (by first | (with_reducible assumption) | assumption)
           obtain ⟨ad260, e260, hx260_0, hx260_1, hx260_2, hx260_3, hx260_4, hx260_5, hx260_6⟩ := at_T39 HR0.out x5_1 p260 q260
           cases e260
           replace p260 := eq_true p260
           replace q260 := eq_true q260
           have p261 : 0 ≤ (x5_1 : Int) := of_decide_eq_true (by first | (with_reducible assumption) | assumption)
           have q261 : x5_1 < (l1.length : Int) := of_decide_eq_true (by first | (with_reducible assumption) | assumption)
           obtain ⟨ad261, e261, hx261_0, hx261_1, hx261_2, hx261_3, hx261_4, hx261_5, hx261_6⟩ := at_T47 HR1.out x5_1 p261 q261
           cases e261
           replace p261 := eq_true p261
           replace q261 := eq_true q261
           have p262 : 0 ≤ (x5_1 : Int) := of_decide_eq_true (by first | (with_reducible assumption) | assumption)
           have q262 : x5_1 < (l0.length : Int) := of_decide_eq_true (by first | (with_reducible assumption) | assumption)
           obtain ⟨ad262, e262, hx262_0, hx262_1, hx262_2, hx262_3, hx262_4, hx262_5, hx262_6⟩ := at_T39 HR0.out x5_1 p262 q262
           obtain rfl : ad260 = ad262 := (by injection e262)
           replace p262 := eq_true p262
           replace q262 := eq_true q262
           have p263 : 0 ≤ (x5_1 : Int) := of_decide_eq_true (by first | (with_reducible assumption) | assumption)
           have q263 : x5_1 < (l1.length : Int) := of_decide_eq_true (by first | (with_reducible assumption) | assumption)
           obtain ⟨ad263, e263, hx263_0, hx263_1, hx263_2, hx263_3, hx263_4, hx263_5, hx263_6⟩ := at_T47 HR1.out x5_1 p263 q263
           obtain rfl : ad261 = ad263 := (by injection e263)
           replace p263 := eq_true p263
           replace q263 := eq_true q263
           have p264 : 0 ≤ (x5_1 : Int) := of_decide_eq_true (by first | (with_reducible assumption) | assumption)
           have q264 : x5_1 < (l0.length : Int) := of_decide_eq_true (by first | (with_reducible assumption) | assumption)
           obtain ⟨ad264, e264, hx264_0, hx264_1, hx264_2, hx264_3, hx264_4, hx264_5, hx264_6⟩ := at_T39 HR0.out x5_1 p264 q264
           obtain rfl : ad260 = ad264 := (by injection e264)
           replace p264 := eq_true p264
           replace q264 := eq_true q264
           have p265 : 0 ≤ (x5_1 : Int) := of_decide_eq_true (by first | (with_reducible assumption) | assumption)
           have q265 : x5_1 < (l1.length : Int) := of_decide_eq_true (by first | (with_reducible assumption) | assumption)
           obtain ⟨ad265, e265, hx265_0, hx265_1, hx265_2, hx265_3, hx265_4, hx265_5, hx265_6⟩ := at_T47 HR1.out x5_1 p265 q265
           obtain rfl : ad261 = ad265 := (by injection e265)
           replace p265 := eq_true p265
           replace q265 := eq_true q265
           have p266 : 0 ≤ (x5_1 : Int) := of_decide_eq_true (by first | (with_reducible assumption) | assumption)
           have q266 : x5_1 < (l0.length : Int) := of_decide_eq_true (by first | (with_reducible assumption) | assumption)
           obtain ⟨ad266, e266, hx266_0, hx266_1, hx266_2, hx266_3, hx266_4, hx266_5, hx266_6⟩ := at_T39 HR0.out x5_1 p266 q266
           obtain rfl : ad260 = ad266 := (by injection e266)
           replace p266 := eq_true p266
           replace q266 := eq_true q266
           have p267 : 0 ≤ (x5_1 : Int) := of_decide_eq_true (by first | (with_reducible assumption) | assumption)
           have q267 : x5_1 < (l1.length : Int) := of_decide_eq_true (by first | (with_reducible assumption) | assumption)
           obtain ⟨ad267, e267, hx267_0, hx267_1, hx267_2, hx267_3, hx267_4, hx267_5, hx267_6⟩ := at_T47 HR1.out x5_1 p267 q267
           obtain rfl : ad261 = ad267 := (by injection e267)
           replace p267 := eq_true p267
           replace q267 := eq_true q267
           go_wp2
           repeat (go_quiet (fail); try go_wp2)
           go_roundg k1
           case measure => have := HK1.out; omega
           case rel => exact ⟨(wrap64 (x5_1 + 1)), (by first | rfl | (simp; done) | (simp [*]; done)), H', ⟨by have := HK1.out; omega⟩, by repeat (first | exact Drawn0.refl _ | apply Drawn0.step)⟩
          ·rw [if_neg c10] at H
           have c10b0 : (((rd_T39 l0 x5_1).f3) == ((rd_T47 l1 x5_1).f3)) = false := beq_eq_false_iff_ne.mpr c10
           have c10b1 : (((rd_T39 l0 x5_1).f3) != ((rd_T47 l1 x5_1).f3)) = true := bne_iff_ne.mpr c10
           obtain rfl := Option.some.inj H
           have p260 : 0 ≤ (x5_1 : Int) := of_decide_eq_true (by first | (with_reducible assumption) | assumption)
           have q260 : x5_1 < (l0.length : Int) := of_decide_eq_true (by first | (with_reducible assumption) | assumption)
           obtain ⟨ad260, e260, hx260_0, hx260_1, hx260_2, hx260_3, hx260_4, hx260_5, hx260_6⟩ := at_T39 HR0.out x5_1 p260 q260
           cases e260
           replace p260 := eq_true p260
           replace q260 := eq_true q260
           have p261 : 0 ≤ (x5_1 : Int) := of_decide_eq_true (by first | (with_reducible assumption) | assumption)
           have q261 : x5_1 < (l1.length : Int) := of_decide_eq_true (by first | (with_reducible assumption) | assumption)
           obtain ⟨ad261, e261, hx261_0, hx261_1, hx261_2, hx261_3, hx261_4, hx261_5, hx261_6⟩ := at_T47 HR1.out x5_1 p261 q261
           cases e261
           replace p261 := eq_true p261
           replace q261 := eq_true q261
           have p262 : 0 ≤ (x5_1 : Int) := of_decide_eq_true (by first | (with_reducible assumption) | assumption)
           have q262 : x5_1 < (l0.length : Int) := of_decide_eq_true (by first | (with_reducible assumption) | assumption)
           obtain ⟨ad262, e262, hx262_0, hx262_1, hx262_2, hx262_3, hx262_4, hx262_5, hx262_6⟩ := at_T39 HR0.out x5_1 p262 q262
           obtain rfl : ad260 = ad262 := (by injection e262)
           replace p262 := eq_true p262
           replace q262 := eq_true q262
           have p263 : 0 ≤ (x5_1 : Int) := of_decide_eq_true (by first | (with_reducible assumption) | assumption)
           have q263 : x5_1 < (l1.length : Int) := of_decide_eq_true (by first | (with_reducible assumption) | assumption)
           obtain ⟨ad263, e263, hx263_0, hx263_1, hx263_2, hx263_3, hx263_4, hx263_5, hx263_6⟩ := at_T47 HR1.out x5_1 p263 q263
           obtain rfl : ad261 = ad263 := (by injection e263)
           replace p263 := eq_true p263
           replace q263 := eq_true q263
           have p264 : 0 ≤ (x5_1 : Int) := of_decide_eq_true (by first | (with_reducible assumption) | assumption)
           have q264 : x5_1 < (l0.length : Int) := of_decide_eq_true (by first | (with_reducible assumption) | assumption)
           obtain ⟨ad264, e264, hx264_0, hx264_1, hx264_2, hx264_3, hx264_4, hx264_5, hx264_6⟩ := at_T39 HR0.out x5_1 p264 q264
           obtain rfl : ad260 = ad264 := (by injection e264)
           replace p264 := eq_true p264
           replace q264 := eq_true q264
           have p265 : 0 ≤ (x5_1 : Int) := of_decide_eq_true (by first | (with_reducible assumption) | assumption)
           have q265 : x5_1 < (l1.length : Int) := of_decide_eq_true (by first | (with_reducible assumption) | assumption)
           obtain ⟨ad265, e265, hx265_0, hx265_1, hx265_2, hx265_3, hx265_4, hx265_5, hx265_6⟩ := at_T47 HR1.out x5_1 p265 q265
           obtain rfl : ad261 = ad265 := (by injection e265)
           replace p265 := eq_true p265
           replace q265 := eq_true q265
           have p266 : 0 ≤ (x5_1 : Int) := of_decide_eq_true (by first | (with_reducible assumption) | assumption)
           have q266 : x5_1 < (l0.length : Int) := of_decide_eq_true (by first | (with_reducible assumption) | assumption)
           obtain ⟨ad266, e266, hx266_0, hx266_1, hx266_2, hx266_3, hx266_4, hx266_5, hx266_6⟩ := at_T39 HR0.out x5_1 p266 q266
           obtain rfl : ad260 = ad266 := (by injection e266)
           replace p266 := eq_true p266
           replace q266 := eq_true q266
           have p267 : 0 ≤ (x5_1 : Int) := of_decide_eq_true (by first | (with_reducible assumption) | assumption)
           have q267 : x5_1 < (l1.length : Int) := of_decide_eq_true (by first | (with_reducible assumption) | assumption)
           obtain ⟨ad267, e267, hx267_0, hx267_1, hx267_2, hx267_3, hx267_4, hx267_5, hx267_6⟩ := at_T47 HR1.out x5_1 p267 q267
           obtain rfl : ad261 = ad267 := (by injection e267)
           replace p267 := eq_true p267
           replace q267 := eq_true q267
           go_wp2
           repeat (go_quiet (fail); try go_wp2)
           go_ret
           exact ⟨by first | rfl | (simp; done) | (simp [*]; done), by repeat (first | exact Drawn0.refl _ | apply Drawn0.step)⟩
        ·rw [if_neg c8] at H
         have c8b0 : (((rd_T39 l0 x5_1).f1).toList == ((rd_T47 l1 x5_1).f1).toList) = false := beq_eq_false_iff_ne.mpr c8
         have c8b1 : (((rd_T39 l0 x5_1).f1).toList != ((rd_T47 l1 x5_1).f1).toList) = true := bne_iff_ne.mpr c8
         obtain rfl := Option.some.inj H
         have p260 : 0 ≤ (x5_1 : Int) := of_decide_eq_true (by first | (with_reducible assumption) | assumption)
         have q260 : x5_1 < (l0.length : Int) := of_decide_eq_true (by first | (with_reducible assumption) | assumption)
         obtain ⟨ad260, e260, hx260_0, hx260_1, hx260_2, hx260_3, hx260_4, hx260_5, hx260_6⟩ := at_T39 HR0.out x5_1 p260 q260
         cases e260
         replace p260 := eq_true p260
         replace q260 := eq_true q260
         have p261 : 0 ≤ (x5_1 : Int) := of_decide_eq_true (by first | (with_reducible assumption) | assumption)
         have q261 : x5_1 < (l1.length : Int) := of_decide_eq_true (by first | (with_reducible assumption) | assumption)
         obtain ⟨ad261, e261, hx261_0, hx261_1, hx261_2, hx261_3, hx261_4, hx261_5, hx261_6⟩ := at_T47 HR1.out x5_1 p261 q261
         cases e261
         replace p261 := eq_true p261
         replace q261 := eq_true q261
         have p262 : 0 ≤ (x5_1 : Int) := of_decide_eq_true (by first | (with_reducible assumption) | assumption)
         have q262 : x5_1 < (l0.length : Int) := of_decide_eq_true (by first | (with_reducible assumption) | assumption)
         obtain ⟨ad262, e262, hx262_0, hx262_1, hx262_2, hx262_3, hx262_4, hx262_5, hx262_6⟩ := at_T39 HR0.out x5_1 p262 q262
         obtain rfl : ad260 = ad262 := (by injection e262)
         replace p262 := eq_true p262
         replace q262 := eq_true q262
         have p263 : 0 ≤ (x5_1 : Int) := of_decide_eq_true (by first | (with_reducible assumption) | assumption)
         have q263 : x5_1 < (l1.length : Int) := of_decide_eq_true (by first | (with_reducible assumption) | assumption)
         obtain ⟨ad263, e263, hx263_0, hx263_1, hx263_2, hx263_3, hx263_4, hx263_5, hx263_6⟩ := at_T47 HR1.out x5_1 p263 q263
         obtain rfl : ad261 = ad263 := (by injection e263)
         replace p263 := eq_true p263
         replace q263 := eq_true q263
         go_wp2
         repeat (go_quiet (fail); try go_wp2)
         go_ret
         exact ⟨by first | rfl | (simp; done) | (simp [*]; done), by repeat (first | exact Drawn0.refl _ | apply Drawn0.step)⟩
       ·rw [if_neg c7] at H
        have c7b0 : (((rd_T39 l0 x5_1).f0) == ((rd_T47 l1 x5_1).f0)) = false := beq_eq_false_iff_ne.mpr c7
        have c7b1 : (((rd_T39 l0 x5_1).f0) != ((rd_T47 l1 x5_1).f0)) = true := bne_iff_ne.mpr c7
        obtain rfl := Option.some.inj H
        have p260 : 0 ≤ (x5_1 : Int) := of_decide_eq_true (by first | (with_reducible assumption) | assumption)
        have q260 : x5_1 < (l0.length : Int) := of_decide_eq_true (by first | (with_reducible assumption) | assumption)
        obtain ⟨ad260, e260, hx260_0, hx260_1, hx260_2, hx260_3, hx260_4, hx260_5, hx260_6⟩ := at_T39 HR0.out x5_1 p260 q260
        cases e260
        replace p260 := eq_true p260
        replace q260 := eq_true q260
        have p261 : 0 ≤ (x5_1 : Int) := of_decide_eq_true (by first | (with_reducible assumption) | assumption)
        have q261 : x5_1 < (l1.length : Int) := of_decide_eq_true (by first | (with_reducible assumption) | assumption)
        obtain ⟨ad261, e261, hx261_0, hx261_1, hx261_2, hx261_3, hx261_4, hx261_5, hx261_6⟩ := at_T47 HR1.out x5_1 p261 q261
        cases e261
        replace p261 := eq_true p261
        replace q261 := eq_true q261
        go_wp2
        repeat (go_quiet (fail); try go_wp2)
        go_ret
        exact ⟨by first | rfl | (simp; done) | (simp [*]; done), by repeat (first | exact Drawn0.refl _ | apply Drawn0.step)⟩
      ·rw [if_neg c6] at H
       exact absurd H (by simp)
     ·rw [if_neg c5] at H
      exact absurd H (by simp)
    ·rw [if_neg c4] at H
     have c4b0 : decide (x5_1 < (l0.length : Int)) = false := decide_eq_false c4
     clear c4
     obtain rfl := Option.some.inj H
     go_wp2
     repeat (go_quiet (fail); try go_wp2)
     go_ret
     exact ⟨by first | rfl | (simp; done) | (simp [*]; done), by repeat (first | exact Drawn0.refl _ | apply Drawn0.step)⟩
 ·rw [if_neg c3] at H
  have c3b0 : ((l0.length : Int) == (l1.length : Int)) = false := beq_eq_false_iff_ne.mpr c3
  have c3b1 : ((l0.length : Int) != (l1.length : Int)) = true := bne_iff_ne.mpr c3
  have c3b2 : (l0.length == l1.length) = false := by first | simpa using c3 | (simp at c3 ⊢; omega)
  obtain rfl := Option.some.inj H
  go_enter Tryd.func11, Tryd.ntmps11
  go_wp2
  repeat (go_quiet (fail); try go_wp2)
  go_ret
  exact ⟨by first | rfl | (simp; done) | (simp [*]; done), by repeat (first | exact Drawn0.refl _ | apply Drawn0.step)⟩
end Go.Proofs.YtjehfmimbbdnkaaDoor.L
namespace Go.Proofs.YtjehfmimbbdnkaaDoor.L
open Go.RowKit Go.Proofs.YtjehfmimbbdnkaaDoorW.PrintWords Go.Proofs.YtjehfmimbbdnkaaDoorW.PrintLast Go.Proofs.YtjehfmimbbdnkaaDoorW.PrintMore
attribute [local go_sem] max2_int min2_int max_two min_two max_three min_three max_four min_four
set_option linter.unusedVariables false
set_option linter.unusedSimpArgs false
def falseworklaw16_num.f (a0 : Int) : Option (Int) := some a0
set_option maxHeartbeats 8000000 in
set_option maxRecDepth 100000 in
theorem falseworklaw16_num.calls (a0 : Int) (r : Int) (w : World) (h : falseworklaw16_num.f a0 = some r) :
  Calls Tryd.prog 12 #[.int .i64 a0] w fun e w' => e = .returned (.int .i64 r) ∧ Drawn0 w w' := by
 have H : (some a0) = some r := h
 clear h
 obtain rfl := Option.some.inj H
 go_enter Tryd.func12, Tryd.ntmps12
 go_wp2
 go_ret
 exact ⟨by first | rfl | (simp; done) | (simp [*]; done), by repeat (first | exact Drawn0.refl _ | apply Drawn0.step)⟩
end Go.Proofs.YtjehfmimbbdnkaaDoor.L
namespace Go.Proofs.YtjehfmimbbdnkaaDoor.L
open Go.RowKit Go.Proofs.YtjehfmimbbdnkaaDoorW.PrintWords Go.Proofs.YtjehfmimbbdnkaaDoorW.PrintLast Go.Proofs.YtjehfmimbbdnkaaDoorW.PrintMore
attribute [local go_sem] max2_int min2_int max_two min_two max_three min_three max_four min_four
set_option linter.unusedVariables false
set_option linter.unusedSimpArgs false
attribute [local go_sem high] eqA37
def falseworklaw16_awake.f (k : Nat)  : Option (Bool) := (lex_Lex.f k (⟨#[97, 45, 53]⟩ : ByteArray)).bind fun bt268 => ((lex_Lex.f k (⟨#[65]⟩ : ByteArray)).bind fun bt273 => ((falseworklaw16_num.f bt268.2.2).bind fun t278 => (if t278 = 0 then (if (bt268.1.length : Int) = 3 then (if 1 < (bt268.1.length : Int) then (if (((rd_T39 bt268.1 1).f2.f0) == 2 && (((rd_T39 bt268.1 1).f2.f1) == (-5) && (((rd_T39 bt268.1 1).f2.f2) == 0 && ((((rd_T39 bt268.1 1).f2.f3).toList) == ([] : List UInt8))))) = true then ((falseworklaw16_num.f bt273.2.2).bind fun t280 => (if t280 = 3 then (some (bt273.2.1 == 0)) else (some false))) else (some false)) else (none)) else (some false)) else (some false))))
theorem falseworklaw16_awake.mono : ∀ k, LeO (falseworklaw16_awake.f k ) (falseworklaw16_awake.f (k + 1) ) := by
 intro  k
 unfold falseworklaw16_awake.f
 repeat' first
   | (with_reducible exact lex_Lex.mono _ _)
   | (with_reducible exact LeO.refl _)
   | (with_reducible exact LeO.none _)
   | (with_reducible refine LeO.ite ?_ ?_)
   | (with_reducible refine LeO.bind ?_ (fun _ => ?_))
   | exact lex_Lex.mono _ _
   | exact LeO.none _
   | refine LeO.ite ?_ ?_
   | refine LeO.bind ?_ (fun _ => ?_)
set_option maxHeartbeats 8000000 in
set_option maxRecDepth 100000 in
theorem falseworklaw16_awake.calls (k : Nat)  (r : Bool) (w : World) (h : falseworklaw16_awake.f k  = some r) (hG : GL w) :
  Calls Tryd.prog 13 #[] w fun e w' => e = .returned (.bool r) ∧ Below w.heap.size w w' := by
 have hu37 := Tryd.underlying37
 have HB := Aside0.mk (Below.refl w.heap.size w)
 have HG := Aside0.mk hG
 clear hG
 have H : ((lex_Lex.f k (⟨#[97, 45, 53]⟩ : ByteArray)).bind fun bt268 => ((lex_Lex.f k (⟨#[65]⟩ : ByteArray)).bind fun bt273 => ((falseworklaw16_num.f bt268.2.2).bind fun t278 => (if t278 = 0 then (if (bt268.1.length : Int) = 3 then (if 1 < (bt268.1.length : Int) then (if (((rd_T39 bt268.1 1).f2.f0) == 2 && (((rd_T39 bt268.1 1).f2.f1) == (-5) && (((rd_T39 bt268.1 1).f2.f2) == 0 && ((((rd_T39 bt268.1 1).f2.f3).toList) == ([] : List UInt8))))) = true then ((falseworklaw16_num.f bt273.2.2).bind fun t280 => (if t280 = 3 then (some (bt273.2.1 == 0)) else (some false))) else (some false)) else (none)) else (some false)) else (some false))))) = some r := h
 clear h
 replace H := Option.bind_eq_some_iff.mp H
 obtain ⟨⟨t268, t269, t270⟩, A10, H⟩ := H
 replace H : ((lex_Lex.f k (⟨#[65]⟩ : ByteArray)).bind fun bt273 => ((falseworklaw16_num.f t270).bind fun t278 => (if t278 = 0 then (if (t268.length : Int) = 3 then (if 1 < (t268.length : Int) then (if (((rd_T39 t268 1).f2.f0) == 2 && (((rd_T39 t268 1).f2.f1) == (-5) && (((rd_T39 t268 1).f2.f2) == 0 && ((((rd_T39 t268 1).f2.f3).toList) == ([] : List UInt8))))) = true then ((falseworklaw16_num.f bt273.2.2).bind fun t280 => (if t280 = 3 then (some (bt273.2.1 == 0)) else (some false))) else (some false)) else (none)) else (some false)) else (some false)))) = some r := H
 have A1 := Aside0.mk A10
 clear A10
 replace H := Option.bind_eq_some_iff.mp H
 obtain ⟨⟨t273, t274, t275⟩, A20, H⟩ := H
 replace H : ((falseworklaw16_num.f t270).bind fun t278 => (if t278 = 0 then (if (t268.length : Int) = 3 then (if 1 < (t268.length : Int) then (if (((rd_T39 t268 1).f2.f0) == 2 && (((rd_T39 t268 1).f2.f1) == (-5) && (((rd_T39 t268 1).f2.f2) == 0 && ((((rd_T39 t268 1).f2.f3).toList) == ([] : List UInt8))))) = true then ((falseworklaw16_num.f t275).bind fun t280 => (if t280 = 3 then (some (t274 == 0)) else (some false))) else (some false)) else (none)) else (some false)) else (some false))) = some r := H
 have A2 := Aside0.mk A20
 clear A20
 replace H := Option.bind_eq_some_iff.mp H
 obtain ⟨t278, A30, H⟩ := H
 replace H : (if t278 = 0 then (if (t268.length : Int) = 3 then (if 1 < (t268.length : Int) then (if (((rd_T39 t268 1).f2.f0) == 2 && (((rd_T39 t268 1).f2.f1) == (-5) && (((rd_T39 t268 1).f2.f2) == 0 && ((((rd_T39 t268 1).f2.f3).toList) == ([] : List UInt8))))) = true then ((falseworklaw16_num.f t275).bind fun t280 => (if t280 = 3 then (some (t274 == 0)) else (some false))) else (some false)) else (none)) else (some false)) else (some false)) = some r := H
 have A3 := Aside0.mk A30
 clear A30
 by_cases c4 : t278 = 0
 ·rw [if_pos c4] at H
  have c4b0 : (t278 == 0) = true := beq_iff_eq.mpr c4
  have c4b1 : (t278 != 0) = false := bne_eq_false_iff_eq.mpr c4
  clear c4
  by_cases c5 : (t268.length : Int) = 3
  ·rw [if_pos c5] at H
   have c5b0 : ((t268.length : Int) == 3) = true := beq_iff_eq.mpr c5
   have c5b1 : ((t268.length : Int) != 3) = false := bne_eq_false_iff_eq.mpr c5
   clear c5
   by_cases c6 : 1 < (t268.length : Int)
   ·rw [if_pos c6] at H
    have c6b0 : decide (1 < (t268.length : Int)) = true := decide_eq_true c6
    have c6b1 : decide (1 < t268.length) = true := decide_eq_true (by omega)
    clear c6
    by_cases c7 : (((rd_T39 t268 1).f2.f0) == 2 && (((rd_T39 t268 1).f2.f1) == (-5) && (((rd_T39 t268 1).f2.f2) == 0 && ((((rd_T39 t268 1).f2.f3).toList) == ([] : List UInt8))))) = true
    ·rw [if_pos c7] at H
     have c7b0 : (((rd_T39 t268 1).f2.f0) == 2 && (((rd_T39 t268 1).f2.f1) == (-5) && (((rd_T39 t268 1).f2.f2) == 0 && ((((rd_T39 t268 1).f2.f3).toList) == ([] : List UInt8))))) = true := c7
     (try (have c7e0 := c7b0; simp only [show ∀ l_ : List UInt8, (l_ == ([] : List UInt8)) = l_.isEmpty from fun l_ => by cases l_ <;> rfl] at c7e0))
     (try (have c7b1 : decide (((rd_T39 t268 1).f2.f0) = 2 && (((rd_T39 t268 1).f2.f1) == (-5) && (((rd_T39 t268 1).f2.f2) == 0 && ((((rd_T39 t268 1).f2.f3).toList) == ([] : List UInt8))))) = true := by simpa using c7))
     (try (have c7b2 : (((rd_T39 t268 1).f2.f0) == 2 && (((rd_T39 t268 1).f2.f1) == (-5) && (((rd_T39 t268 1).f2.f2) == 0 && ((((rd_T39 t268 1).f2.f3).toList) == ([] : List UInt8))))) = true := by simpa using c7))
     clear c7
     replace H := Option.bind_eq_some_iff.mp H
     obtain ⟨t280, A80, H⟩ := H
     replace H : (if t280 = 3 then (some (t274 == 0)) else (some false)) = some r := H
     have A8 := Aside0.mk A80
     clear A80
     by_cases c9 : t280 = 3
     ·rw [if_pos c9] at H
      have c9b0 : (t280 == 3) = true := beq_iff_eq.mpr c9
      have c9b1 : (t280 != 3) = false := bne_eq_false_iff_eq.mpr c9
      clear c9
      obtain rfl := Option.some.inj H
      go_enter Tryd.func13, Tryd.ntmps13
      go_wp2_with (first | ((with_reducible refine gate_callee (f := 9) rfl ?_); refine goesL_ (some 8) rfl rfl Tryd.func9 (by kernel_rfl) rfl #[.string (⟨#[97, 45, 53]⟩ : ByteArray)] rfl (by (try simp only [List.map_toArray, List.map_cons, List.map_nil]); first | done | rfl | (simp only [List.length_drop, List.length_take]; rfl)) ?_; (with_reducible refine (lex_Lex.calls k (⟨#[97, 45, 53]⟩ : ByteArray) t268 t269 t270 _ A1.out ?side1).mono ?_); (case side1 => exact GL.of_below HG.out (by repeat (first | (with_reducible first | exact HB.out | apply below_alloc | apply pw_below_drewN | apply below_drew1) | exact HB.out))); rintro e w10 ⟨v271, rfl, ho0, hb⟩; refine ⟨_, rfl, ?_⟩; have n0_ := Aside0.mk (Kd.R_lower ho0 (below_size (by repeat (first | (with_reducible first | exact HB.out | apply below_alloc | apply pw_below_drewN | apply below_drew1) | exact HB.out)))); have n1_ := Aside0.mk (below_step (by repeat (first | (with_reducible first | exact HB.out | apply below_alloc | apply pw_below_drewN | apply below_drew1) | exact HB.out)) hb); clear HB; have HO272 := n0_; have HB := n1_; clear n0_ n1_; (try clear hb); (try clear hb2); (try clear hk); (try clear hi); (try clear ho0)) | ((with_reducible refine gate_callee (f := 9) rfl ?_); refine goesL_ (some 13) rfl rfl Tryd.func9 (by kernel_rfl) rfl #[.string (⟨#[65]⟩ : ByteArray)] rfl (by (try simp only [List.map_toArray, List.map_cons, List.map_nil]); first | done | rfl | (simp only [List.length_drop, List.length_take]; rfl)) ?_; (with_reducible refine (lex_Lex.calls k (⟨#[65]⟩ : ByteArray) t273 t274 t275 _ A2.out ?side1).mono ?_); (case side1 => exact GL.of_below HG.out (by repeat (first | (with_reducible first | exact HB.out | apply below_alloc | apply pw_below_drewN | apply below_drew1) | exact HB.out))); rintro e w11 ⟨v276, rfl, ho0, hb⟩; refine ⟨_, rfl, ?_⟩; have n0_ := Aside0.mk (Kd.R_elder' (by (with_reducible repeat (first | apply Kd.R_alloc | apply Kd.R_drewN | apply Kd.R_drew)); exact HO272.out) (Kd.R_base ho0) hb); have n1_ := Aside0.mk (Kd.R_lower (Kd.R_new' ho0 (Kd.R_lt (by (with_reducible repeat (first | apply Kd.R_alloc | apply Kd.R_drewN | apply Kd.R_drew)); exact HO272.out))) (below_size (by repeat (first | (with_reducible first | exact HB.out | apply below_alloc | apply pw_below_drewN | apply below_drew1) | exact HB.out)))); have n2_ := Aside0.mk (below_step (by repeat (first | (with_reducible first | exact HB.out | apply below_alloc | apply pw_below_drewN | apply below_drew1) | exact HB.out)) hb); clear HO272; clear HB; have HO272 := n0_; have HO277 := n1_; have HB := n2_; clear n0_ n1_ n2_; (try clear hb); (try clear hb2); (try clear hk); (try clear hi); (try clear ho0)) | ((with_reducible refine gate_callee (f := 12) rfl ?_); refine goesL_ (some 18) rfl rfl Tryd.func12 (by kernel_rfl) rfl #[.int .i64 t270] rfl (by (try simp only [List.map_toArray, List.map_cons, List.map_nil]); first | done | rfl | (simp only [List.length_drop, List.length_take]; rfl)) ?_; (with_reducible refine (falseworklaw16_num.calls t270 t278 _ A3.out).mono ?_); rintro e w' ⟨rfl, ⟨nd, rfl⟩⟩; refine ⟨_, rfl, ?_⟩; obtain ⟨Ao12, co12, eo12⟩ := Kd.R_slice HO272.out; subst eo12; have p279 : 0 ≤ (1 : Int) := (by omega); have q279 : 1 < (t268.length : Int) := of_decide_eq_true (by first | (with_reducible assumption) | assumption); obtain ⟨ad279, e279, hx279_0, hx279_1, hx279_2, hx279_3, hx279_4, hx279_5, hx279_6⟩ := at_T39 (Kd.R_reads' HO272.out).2.2 1 p279 q279; cases e279; (try simp only [show (1 : Int).toNat = 1 from rfl, Nat.reduceMul, Nat.reduceEqDiff, Go.Addr.add, ↓reduceIte] at hx279_0); (try simp only [show (1 : Int).toNat = 1 from rfl, Nat.reduceMul, Nat.reduceEqDiff, Go.Addr.add, ↓reduceIte] at hx279_1); (try simp only [show (1 : Int).toNat = 1 from rfl, Nat.reduceMul, Nat.reduceEqDiff, Go.Addr.add, ↓reduceIte] at hx279_2); (try simp only [show (1 : Int).toNat = 1 from rfl, Nat.reduceMul, Nat.reduceEqDiff, Go.Addr.add, ↓reduceIte] at hx279_3); (try simp only [show (1 : Int).toNat = 1 from rfl, Nat.reduceMul, Nat.reduceEqDiff, Go.Addr.add, ↓reduceIte] at hx279_4); (try simp only [show (1 : Int).toNat = 1 from rfl, Nat.reduceMul, Nat.reduceEqDiff, Go.Addr.add, ↓reduceIte] at hx279_5); (try simp only [show (1 : Int).toNat = 1 from rfl, Nat.reduceMul, Nat.reduceEqDiff, Go.Addr.add, ↓reduceIte] at hx279_6); have qi279 : (1 < t268.length) = True := eq_true (by omega); (try rw [show ((1 : Int)).toNat = 1 from rfl] at hx279_0); (try rw [show 1 * 7 = 7 from rfl] at hx279_0); (try rw [show ((1 : Int)).toNat = 1 from rfl] at hx279_1); (try rw [show 1 * 7 = 7 from rfl] at hx279_1); (try rw [show ((1 : Int)).toNat = 1 from rfl] at hx279_2); (try rw [show 1 * 7 = 7 from rfl] at hx279_2); (try rw [show ((1 : Int)).toNat = 1 from rfl] at hx279_3); (try rw [show 1 * 7 = 7 from rfl] at hx279_3); (try rw [show ((1 : Int)).toNat = 1 from rfl] at hx279_4); (try rw [show 1 * 7 = 7 from rfl] at hx279_4); (try rw [show ((1 : Int)).toNat = 1 from rfl] at hx279_5); (try rw [show 1 * 7 = 7 from rfl] at hx279_5); (try rw [show ((1 : Int)).toNat = 1 from rfl] at hx279_6); (try rw [show 1 * 7 = 7 from rfl] at hx279_6); replace p279 := eq_true p279; replace q279 := eq_true q279) | (go_at_call 12; (with_reducible refine (falseworklaw16_num.calls t275 t280 _ A8.out).mono ?_); rintro e w' ⟨rfl, ⟨nd, rfl⟩⟩))
      go_ret
      exact ⟨by first | rfl | (simp [errW_none, errW_some] <;> rfl) | (simp [*, errW_none, errW_some] <;> rfl), by repeat (first | (with_reducible first | exact HB.out | apply below_alloc | apply pw_below_drewN | apply below_drew1) | exact HB.out)⟩
     ·rw [if_neg c9] at H
      have c9b0 : (t280 == 3) = false := beq_eq_false_iff_ne.mpr c9
      have c9b1 : (t280 != 3) = true := bne_iff_ne.mpr c9
      obtain rfl := Option.some.inj H
      go_enter Tryd.func13, Tryd.ntmps13
      go_wp2_with (first | ((with_reducible refine gate_callee (f := 9) rfl ?_); refine goesL_ (some 8) rfl rfl Tryd.func9 (by kernel_rfl) rfl #[.string (⟨#[97, 45, 53]⟩ : ByteArray)] rfl (by (try simp only [List.map_toArray, List.map_cons, List.map_nil]); first | done | rfl | (simp only [List.length_drop, List.length_take]; rfl)) ?_; (with_reducible refine (lex_Lex.calls k (⟨#[97, 45, 53]⟩ : ByteArray) t268 t269 t270 _ A1.out ?side1).mono ?_); (case side1 => exact GL.of_below HG.out (by repeat (first | (with_reducible first | exact HB.out | apply below_alloc | apply pw_below_drewN | apply below_drew1) | exact HB.out))); rintro e w13 ⟨v271, rfl, ho0, hb⟩; refine ⟨_, rfl, ?_⟩; have n0_ := Aside0.mk (Kd.R_lower ho0 (below_size (by repeat (first | (with_reducible first | exact HB.out | apply below_alloc | apply pw_below_drewN | apply below_drew1) | exact HB.out)))); have n1_ := Aside0.mk (below_step (by repeat (first | (with_reducible first | exact HB.out | apply below_alloc | apply pw_below_drewN | apply below_drew1) | exact HB.out)) hb); clear HB; have HO272 := n0_; have HB := n1_; clear n0_ n1_; (try clear hb); (try clear hb2); (try clear hk); (try clear hi); (try clear ho0)) | ((with_reducible refine gate_callee (f := 9) rfl ?_); refine goesL_ (some 13) rfl rfl Tryd.func9 (by kernel_rfl) rfl #[.string (⟨#[65]⟩ : ByteArray)] rfl (by (try simp only [List.map_toArray, List.map_cons, List.map_nil]); first | done | rfl | (simp only [List.length_drop, List.length_take]; rfl)) ?_; (with_reducible refine (lex_Lex.calls k (⟨#[65]⟩ : ByteArray) t273 t274 t275 _ A2.out ?side1).mono ?_); (case side1 => exact GL.of_below HG.out (by repeat (first | (with_reducible first | exact HB.out | apply below_alloc | apply pw_below_drewN | apply below_drew1) | exact HB.out))); rintro e w14 ⟨v276, rfl, ho0, hb⟩; refine ⟨_, rfl, ?_⟩; have n0_ := Aside0.mk (Kd.R_elder' (by (with_reducible repeat (first | apply Kd.R_alloc | apply Kd.R_drewN | apply Kd.R_drew)); exact HO272.out) (Kd.R_base ho0) hb); have n1_ := Aside0.mk (Kd.R_lower (Kd.R_new' ho0 (Kd.R_lt (by (with_reducible repeat (first | apply Kd.R_alloc | apply Kd.R_drewN | apply Kd.R_drew)); exact HO272.out))) (below_size (by repeat (first | (with_reducible first | exact HB.out | apply below_alloc | apply pw_below_drewN | apply below_drew1) | exact HB.out)))); have n2_ := Aside0.mk (below_step (by repeat (first | (with_reducible first | exact HB.out | apply below_alloc | apply pw_below_drewN | apply below_drew1) | exact HB.out)) hb); clear HO272; clear HB; have HO272 := n0_; have HO277 := n1_; have HB := n2_; clear n0_ n1_ n2_; (try clear hb); (try clear hb2); (try clear hk); (try clear hi); (try clear ho0)) | ((with_reducible refine gate_callee (f := 12) rfl ?_); refine goesL_ (some 18) rfl rfl Tryd.func12 (by kernel_rfl) rfl #[.int .i64 t270] rfl (by (try simp only [List.map_toArray, List.map_cons, List.map_nil]); first | done | rfl | (simp only [List.length_drop, List.length_take]; rfl)) ?_; (with_reducible refine (falseworklaw16_num.calls t270 t278 _ A3.out).mono ?_); rintro e w' ⟨rfl, ⟨nd, rfl⟩⟩; refine ⟨_, rfl, ?_⟩; obtain ⟨Ao15, co15, eo15⟩ := Kd.R_slice HO272.out; subst eo15; have p279 : 0 ≤ (1 : Int) := (by omega); have q279 : 1 < (t268.length : Int) := of_decide_eq_true (by first | (with_reducible assumption) | assumption); obtain ⟨ad279, e279, hx279_0, hx279_1, hx279_2, hx279_3, hx279_4, hx279_5, hx279_6⟩ := at_T39 (Kd.R_reads' HO272.out).2.2 1 p279 q279; cases e279; (try simp only [show (1 : Int).toNat = 1 from rfl, Nat.reduceMul, Nat.reduceEqDiff, Go.Addr.add, ↓reduceIte] at hx279_0); (try simp only [show (1 : Int).toNat = 1 from rfl, Nat.reduceMul, Nat.reduceEqDiff, Go.Addr.add, ↓reduceIte] at hx279_1); (try simp only [show (1 : Int).toNat = 1 from rfl, Nat.reduceMul, Nat.reduceEqDiff, Go.Addr.add, ↓reduceIte] at hx279_2); (try simp only [show (1 : Int).toNat = 1 from rfl, Nat.reduceMul, Nat.reduceEqDiff, Go.Addr.add, ↓reduceIte] at hx279_3); (try simp only [show (1 : Int).toNat = 1 from rfl, Nat.reduceMul, Nat.reduceEqDiff, Go.Addr.add, ↓reduceIte] at hx279_4); (try simp only [show (1 : Int).toNat = 1 from rfl, Nat.reduceMul, Nat.reduceEqDiff, Go.Addr.add, ↓reduceIte] at hx279_5); (try simp only [show (1 : Int).toNat = 1 from rfl, Nat.reduceMul, Nat.reduceEqDiff, Go.Addr.add, ↓reduceIte] at hx279_6); have qi279 : (1 < t268.length) = True := eq_true (by omega); (try rw [show ((1 : Int)).toNat = 1 from rfl] at hx279_0); (try rw [show 1 * 7 = 7 from rfl] at hx279_0); (try rw [show ((1 : Int)).toNat = 1 from rfl] at hx279_1); (try rw [show 1 * 7 = 7 from rfl] at hx279_1); (try rw [show ((1 : Int)).toNat = 1 from rfl] at hx279_2); (try rw [show 1 * 7 = 7 from rfl] at hx279_2); (try rw [show ((1 : Int)).toNat = 1 from rfl] at hx279_3); (try rw [show 1 * 7 = 7 from rfl] at hx279_3); (try rw [show ((1 : Int)).toNat = 1 from rfl] at hx279_4); (try rw [show 1 * 7 = 7 from rfl] at hx279_4); (try rw [show ((1 : Int)).toNat = 1 from rfl] at hx279_5); (try rw [show 1 * 7 = 7 from rfl] at hx279_5); (try rw [show ((1 : Int)).toNat = 1 from rfl] at hx279_6); (try rw [show 1 * 7 = 7 from rfl] at hx279_6); replace p279 := eq_true p279; replace q279 := eq_true q279) | (go_at_call 12; (with_reducible refine (falseworklaw16_num.calls t275 t280 _ A8.out).mono ?_); rintro e w' ⟨rfl, ⟨nd, rfl⟩⟩))
      go_ret
      exact ⟨by first | rfl | (simp [errW_none, errW_some] <;> rfl) | (simp [*, errW_none, errW_some] <;> rfl), by repeat (first | (with_reducible first | exact HB.out | apply below_alloc | apply pw_below_drewN | apply below_drew1) | exact HB.out)⟩
    ·rw [if_neg c7] at H
     have c7b0 : (((rd_T39 t268 1).f2.f0) == 2 && (((rd_T39 t268 1).f2.f1) == (-5) && (((rd_T39 t268 1).f2.f2) == 0 && ((((rd_T39 t268 1).f2.f3).toList) == ([] : List UInt8))))) = false := by simpa using c7
     (try (have c7e0 := c7b0; simp only [show ∀ l_ : List UInt8, (l_ == ([] : List UInt8)) = l_.isEmpty from fun l_ => by cases l_ <;> rfl] at c7e0))
     (try (have c7b1 : decide (((rd_T39 t268 1).f2.f0) = 2 && (((rd_T39 t268 1).f2.f1) == (-5) && (((rd_T39 t268 1).f2.f2) == 0 && ((((rd_T39 t268 1).f2.f3).toList) == ([] : List UInt8))))) = false := by simpa using c7))
     (try (have c7b2 : (((rd_T39 t268 1).f2.f0) == 2 && (((rd_T39 t268 1).f2.f1) == (-5) && (((rd_T39 t268 1).f2.f2) == 0 && ((((rd_T39 t268 1).f2.f3).toList) == ([] : List UInt8))))) = false := by simpa using c7))
     (try (have c7b3 : ¬ (((rd_T39 t268 1).f2.f0) = 2 && (((rd_T39 t268 1).f2.f1) == (-5) && (((rd_T39 t268 1).f2.f2) == 0 && ((((rd_T39 t268 1).f2.f3).toList) == ([] : List UInt8))))) := by simpa using c7))
     clear c7
     obtain rfl := Option.some.inj H
     go_enter Tryd.func13, Tryd.ntmps13
     go_wp2_with (first | ((with_reducible refine gate_callee (f := 9) rfl ?_); refine goesL_ (some 8) rfl rfl Tryd.func9 (by kernel_rfl) rfl #[.string (⟨#[97, 45, 53]⟩ : ByteArray)] rfl (by (try simp only [List.map_toArray, List.map_cons, List.map_nil]); first | done | rfl | (simp only [List.length_drop, List.length_take]; rfl)) ?_; (with_reducible refine (lex_Lex.calls k (⟨#[97, 45, 53]⟩ : ByteArray) t268 t269 t270 _ A1.out ?side1).mono ?_); (case side1 => exact GL.of_below HG.out (by repeat (first | (with_reducible first | exact HB.out | apply below_alloc | apply pw_below_drewN | apply below_drew1) | exact HB.out))); rintro e w16 ⟨v271, rfl, ho0, hb⟩; refine ⟨_, rfl, ?_⟩; have n0_ := Aside0.mk (Kd.R_lower ho0 (below_size (by repeat (first | (with_reducible first | exact HB.out | apply below_alloc | apply pw_below_drewN | apply below_drew1) | exact HB.out)))); have n1_ := Aside0.mk (below_step (by repeat (first | (with_reducible first | exact HB.out | apply below_alloc | apply pw_below_drewN | apply below_drew1) | exact HB.out)) hb); clear HB; have HO272 := n0_; have HB := n1_; clear n0_ n1_; (try clear hb); (try clear hb2); (try clear hk); (try clear hi); (try clear ho0)) | ((with_reducible refine gate_callee (f := 9) rfl ?_); refine goesL_ (some 13) rfl rfl Tryd.func9 (by kernel_rfl) rfl #[.string (⟨#[65]⟩ : ByteArray)] rfl (by (try simp only [List.map_toArray, List.map_cons, List.map_nil]); first | done | rfl | (simp only [List.length_drop, List.length_take]; rfl)) ?_; (with_reducible refine (lex_Lex.calls k (⟨#[65]⟩ : ByteArray) t273 t274 t275 _ A2.out ?side1).mono ?_); (case side1 => exact GL.of_below HG.out (by repeat (first | (with_reducible first | exact HB.out | apply below_alloc | apply pw_below_drewN | apply below_drew1) | exact HB.out))); rintro e w17 ⟨v276, rfl, ho0, hb⟩; refine ⟨_, rfl, ?_⟩; have n0_ := Aside0.mk (Kd.R_elder' (by (with_reducible repeat (first | apply Kd.R_alloc | apply Kd.R_drewN | apply Kd.R_drew)); exact HO272.out) (Kd.R_base ho0) hb); have n1_ := Aside0.mk (Kd.R_lower (Kd.R_new' ho0 (Kd.R_lt (by (with_reducible repeat (first | apply Kd.R_alloc | apply Kd.R_drewN | apply Kd.R_drew)); exact HO272.out))) (below_size (by repeat (first | (with_reducible first | exact HB.out | apply below_alloc | apply pw_below_drewN | apply below_drew1) | exact HB.out)))); have n2_ := Aside0.mk (below_step (by repeat (first | (with_reducible first | exact HB.out | apply below_alloc | apply pw_below_drewN | apply below_drew1) | exact HB.out)) hb); clear HO272; clear HB; have HO272 := n0_; have HO277 := n1_; have HB := n2_; clear n0_ n1_ n2_; (try clear hb); (try clear hb2); (try clear hk); (try clear hi); (try clear ho0)) | ((with_reducible refine gate_callee (f := 12) rfl ?_); refine goesL_ (some 18) rfl rfl Tryd.func12 (by kernel_rfl) rfl #[.int .i64 t270] rfl (by (try simp only [List.map_toArray, List.map_cons, List.map_nil]); first | done | rfl | (simp only [List.length_drop, List.length_take]; rfl)) ?_; (with_reducible refine (falseworklaw16_num.calls t270 t278 _ A3.out).mono ?_); rintro e w' ⟨rfl, ⟨nd, rfl⟩⟩; refine ⟨_, rfl, ?_⟩; obtain ⟨Ao18, co18, eo18⟩ := Kd.R_slice HO272.out; subst eo18; have p279 : 0 ≤ (1 : Int) := (by omega); have q279 : 1 < (t268.length : Int) := of_decide_eq_true (by first | (with_reducible assumption) | assumption); obtain ⟨ad279, e279, hx279_0, hx279_1, hx279_2, hx279_3, hx279_4, hx279_5, hx279_6⟩ := at_T39 (Kd.R_reads' HO272.out).2.2 1 p279 q279; cases e279; (try simp only [show (1 : Int).toNat = 1 from rfl, Nat.reduceMul, Nat.reduceEqDiff, Go.Addr.add, ↓reduceIte] at hx279_0); (try simp only [show (1 : Int).toNat = 1 from rfl, Nat.reduceMul, Nat.reduceEqDiff, Go.Addr.add, ↓reduceIte] at hx279_1); (try simp only [show (1 : Int).toNat = 1 from rfl, Nat.reduceMul, Nat.reduceEqDiff, Go.Addr.add, ↓reduceIte] at hx279_2); (try simp only [show (1 : Int).toNat = 1 from rfl, Nat.reduceMul, Nat.reduceEqDiff, Go.Addr.add, ↓reduceIte] at hx279_3); (try simp only [show (1 : Int).toNat = 1 from rfl, Nat.reduceMul, Nat.reduceEqDiff, Go.Addr.add, ↓reduceIte] at hx279_4); (try simp only [show (1 : Int).toNat = 1 from rfl, Nat.reduceMul, Nat.reduceEqDiff, Go.Addr.add, ↓reduceIte] at hx279_5); (try simp only [show (1 : Int).toNat = 1 from rfl, Nat.reduceMul, Nat.reduceEqDiff, Go.Addr.add, ↓reduceIte] at hx279_6); have qi279 : (1 < t268.length) = True := eq_true (by omega); (try rw [show ((1 : Int)).toNat = 1 from rfl] at hx279_0); (try rw [show 1 * 7 = 7 from rfl] at hx279_0); (try rw [show ((1 : Int)).toNat = 1 from rfl] at hx279_1); (try rw [show 1 * 7 = 7 from rfl] at hx279_1); (try rw [show ((1 : Int)).toNat = 1 from rfl] at hx279_2); (try rw [show 1 * 7 = 7 from rfl] at hx279_2); (try rw [show ((1 : Int)).toNat = 1 from rfl] at hx279_3); (try rw [show 1 * 7 = 7 from rfl] at hx279_3); (try rw [show ((1 : Int)).toNat = 1 from rfl] at hx279_4); (try rw [show 1 * 7 = 7 from rfl] at hx279_4); (try rw [show ((1 : Int)).toNat = 1 from rfl] at hx279_5); (try rw [show 1 * 7 = 7 from rfl] at hx279_5); (try rw [show ((1 : Int)).toNat = 1 from rfl] at hx279_6); (try rw [show 1 * 7 = 7 from rfl] at hx279_6); replace p279 := eq_true p279; replace q279 := eq_true q279))
     go_ret
     exact ⟨by first | rfl | (simp [errW_none, errW_some] <;> rfl) | (simp [*, errW_none, errW_some] <;> rfl), by repeat (first | (with_reducible first | exact HB.out | apply below_alloc | apply pw_below_drewN | apply below_drew1) | exact HB.out)⟩
   ·rw [if_neg c6] at H
    exact absurd H (by simp)
  ·rw [if_neg c5] at H
   have c5b0 : ((t268.length : Int) == 3) = false := beq_eq_false_iff_ne.mpr c5
   have c5b1 : ((t268.length : Int) != 3) = true := bne_iff_ne.mpr c5
   obtain rfl := Option.some.inj H
   go_enter Tryd.func13, Tryd.ntmps13
   go_wp2_with (first | ((with_reducible refine gate_callee (f := 9) rfl ?_); refine goesL_ (some 8) rfl rfl Tryd.func9 (by kernel_rfl) rfl #[.string (⟨#[97, 45, 53]⟩ : ByteArray)] rfl (by (try simp only [List.map_toArray, List.map_cons, List.map_nil]); first | done | rfl | (simp only [List.length_drop, List.length_take]; rfl)) ?_; (with_reducible refine (lex_Lex.calls k (⟨#[97, 45, 53]⟩ : ByteArray) t268 t269 t270 _ A1.out ?side1).mono ?_); (case side1 => exact GL.of_below HG.out (by repeat (first | (with_reducible first | exact HB.out | apply below_alloc | apply pw_below_drewN | apply below_drew1) | exact HB.out))); rintro e w19 ⟨v271, rfl, ho0, hb⟩; refine ⟨_, rfl, ?_⟩; have n0_ := Aside0.mk (Kd.R_lower ho0 (below_size (by repeat (first | (with_reducible first | exact HB.out | apply below_alloc | apply pw_below_drewN | apply below_drew1) | exact HB.out)))); have n1_ := Aside0.mk (below_step (by repeat (first | (with_reducible first | exact HB.out | apply below_alloc | apply pw_below_drewN | apply below_drew1) | exact HB.out)) hb); clear HB; have HO272 := n0_; have HB := n1_; clear n0_ n1_; (try clear hb); (try clear hb2); (try clear hk); (try clear hi); (try clear ho0)) | ((with_reducible refine gate_callee (f := 9) rfl ?_); refine goesL_ (some 13) rfl rfl Tryd.func9 (by kernel_rfl) rfl #[.string (⟨#[65]⟩ : ByteArray)] rfl (by (try simp only [List.map_toArray, List.map_cons, List.map_nil]); first | done | rfl | (simp only [List.length_drop, List.length_take]; rfl)) ?_; (with_reducible refine (lex_Lex.calls k (⟨#[65]⟩ : ByteArray) t273 t274 t275 _ A2.out ?side1).mono ?_); (case side1 => exact GL.of_below HG.out (by repeat (first | (with_reducible first | exact HB.out | apply below_alloc | apply pw_below_drewN | apply below_drew1) | exact HB.out))); rintro e w20 ⟨v276, rfl, ho0, hb⟩; refine ⟨_, rfl, ?_⟩; have n0_ := Aside0.mk (Kd.R_elder' (by (with_reducible repeat (first | apply Kd.R_alloc | apply Kd.R_drewN | apply Kd.R_drew)); exact HO272.out) (Kd.R_base ho0) hb); have n1_ := Aside0.mk (Kd.R_lower (Kd.R_new' ho0 (Kd.R_lt (by (with_reducible repeat (first | apply Kd.R_alloc | apply Kd.R_drewN | apply Kd.R_drew)); exact HO272.out))) (below_size (by repeat (first | (with_reducible first | exact HB.out | apply below_alloc | apply pw_below_drewN | apply below_drew1) | exact HB.out)))); have n2_ := Aside0.mk (below_step (by repeat (first | (with_reducible first | exact HB.out | apply below_alloc | apply pw_below_drewN | apply below_drew1) | exact HB.out)) hb); clear HO272; clear HB; have HO272 := n0_; have HO277 := n1_; have HB := n2_; clear n0_ n1_ n2_; (try clear hb); (try clear hb2); (try clear hk); (try clear hi); (try clear ho0)) | ((with_reducible refine gate_callee (f := 12) rfl ?_); refine goesL_ (some 18) rfl rfl Tryd.func12 (by kernel_rfl) rfl #[.int .i64 t270] rfl (by (try simp only [List.map_toArray, List.map_cons, List.map_nil]); first | done | rfl | (simp only [List.length_drop, List.length_take]; rfl)) ?_; (with_reducible refine (falseworklaw16_num.calls t270 t278 _ A3.out).mono ?_); rintro e w' ⟨rfl, ⟨nd, rfl⟩⟩; refine ⟨_, rfl, ?_⟩; obtain ⟨Ao21, co21, eo21⟩ := Kd.R_slice HO272.out; subst eo21))
   go_ret
   exact ⟨by first | rfl | (simp [errW_none, errW_some] <;> rfl) | (simp [*, errW_none, errW_some] <;> rfl), by repeat (first | (with_reducible first | exact HB.out | apply below_alloc | apply pw_below_drewN | apply below_drew1) | exact HB.out)⟩
 ·rw [if_neg c4] at H
  have c4b0 : (t278 == 0) = false := beq_eq_false_iff_ne.mpr c4
  have c4b1 : (t278 != 0) = true := bne_iff_ne.mpr c4
  obtain rfl := Option.some.inj H
  go_enter Tryd.func13, Tryd.ntmps13
  go_wp2_with (first | ((with_reducible refine gate_callee (f := 9) rfl ?_); refine goesL_ (some 8) rfl rfl Tryd.func9 (by kernel_rfl) rfl #[.string (⟨#[97, 45, 53]⟩ : ByteArray)] rfl (by (try simp only [List.map_toArray, List.map_cons, List.map_nil]); first | done | rfl | (simp only [List.length_drop, List.length_take]; rfl)) ?_; (with_reducible refine (lex_Lex.calls k (⟨#[97, 45, 53]⟩ : ByteArray) t268 t269 t270 _ A1.out ?side1).mono ?_); (case side1 => exact GL.of_below HG.out (by repeat (first | (with_reducible first | exact HB.out | apply below_alloc | apply pw_below_drewN | apply below_drew1) | exact HB.out))); rintro e w22 ⟨v271, rfl, ho0, hb⟩; refine ⟨_, rfl, ?_⟩; have n0_ := Aside0.mk (Kd.R_lower ho0 (below_size (by repeat (first | (with_reducible first | exact HB.out | apply below_alloc | apply pw_below_drewN | apply below_drew1) | exact HB.out)))); have n1_ := Aside0.mk (below_step (by repeat (first | (with_reducible first | exact HB.out | apply below_alloc | apply pw_below_drewN | apply below_drew1) | exact HB.out)) hb); clear HB; have HO272 := n0_; have HB := n1_; clear n0_ n1_; (try clear hb); (try clear hb2); (try clear hk); (try clear hi); (try clear ho0)) | ((with_reducible refine gate_callee (f := 9) rfl ?_); refine goesL_ (some 13) rfl rfl Tryd.func9 (by kernel_rfl) rfl #[.string (⟨#[65]⟩ : ByteArray)] rfl (by (try simp only [List.map_toArray, List.map_cons, List.map_nil]); first | done | rfl | (simp only [List.length_drop, List.length_take]; rfl)) ?_; (with_reducible refine (lex_Lex.calls k (⟨#[65]⟩ : ByteArray) t273 t274 t275 _ A2.out ?side1).mono ?_); (case side1 => exact GL.of_below HG.out (by repeat (first | (with_reducible first | exact HB.out | apply below_alloc | apply pw_below_drewN | apply below_drew1) | exact HB.out))); rintro e w23 ⟨v276, rfl, ho0, hb⟩; refine ⟨_, rfl, ?_⟩; have n0_ := Aside0.mk (Kd.R_elder' (by (with_reducible repeat (first | apply Kd.R_alloc | apply Kd.R_drewN | apply Kd.R_drew)); exact HO272.out) (Kd.R_base ho0) hb); have n1_ := Aside0.mk (Kd.R_lower (Kd.R_new' ho0 (Kd.R_lt (by (with_reducible repeat (first | apply Kd.R_alloc | apply Kd.R_drewN | apply Kd.R_drew)); exact HO272.out))) (below_size (by repeat (first | (with_reducible first | exact HB.out | apply below_alloc | apply pw_below_drewN | apply below_drew1) | exact HB.out)))); have n2_ := Aside0.mk (below_step (by repeat (first | (with_reducible first | exact HB.out | apply below_alloc | apply pw_below_drewN | apply below_drew1) | exact HB.out)) hb); clear HO272; clear HB; have HO272 := n0_; have HO277 := n1_; have HB := n2_; clear n0_ n1_ n2_; (try clear hb); (try clear hb2); (try clear hk); (try clear hi); (try clear ho0)) | ((with_reducible refine gate_callee (f := 12) rfl ?_); refine goesL_ (some 18) rfl rfl Tryd.func12 (by kernel_rfl) rfl #[.int .i64 t270] rfl (by (try simp only [List.map_toArray, List.map_cons, List.map_nil]); first | done | rfl | (simp only [List.length_drop, List.length_take]; rfl)) ?_; (with_reducible refine (falseworklaw16_num.calls t270 t278 _ A3.out).mono ?_); rintro e w' ⟨rfl, ⟨nd, rfl⟩⟩; refine ⟨_, rfl, ?_⟩))
  go_ret
  exact ⟨by first | rfl | (simp [errW_none, errW_some] <;> rfl) | (simp [*, errW_none, errW_some] <;> rfl), by repeat (first | (with_reducible first | exact HB.out | apply below_alloc | apply pw_below_drewN | apply below_drew1) | exact HB.out)⟩
end Go.Proofs.YtjehfmimbbdnkaaDoor.L
namespace Go.Proofs.YtjehfmimbbdnkaaDoor.L
open Go.RowKit Go.Proofs.YtjehfmimbbdnkaaDoorW.PrintWords Go.Proofs.YtjehfmimbbdnkaaDoorW.PrintLast Go.Proofs.YtjehfmimbbdnkaaDoorW.PrintMore
attribute [local go_sem] max2_int min2_int max_two min_two max_three min_three max_four min_four
set_option linter.unusedVariables false
set_option linter.unusedSimpArgs false
def falseworklaw16_LexReads.f (k : Nat) (a0 : ByteArray) : Option (Bool) := (lex_Lex.f k a0).bind fun bt281 => ((falseworkref16_Lex.f k a0).bind fun bt286 => ((falseworklaw16_same.f k bt281.1 bt286.1).bind fun t291 => (if t291 = true then (if bt281.2.1 = bt286.2.1 then ((falseworklaw16_num.f bt281.2.2).bind fun t292 => (if t292 = bt286.2.2 then ((falseworklaw16_awake.f k).bind fun t293 => (some t293)) else (some false))) else (some false)) else (some false))))
theorem falseworklaw16_LexReads.mono : ∀ a0 k, LeO (falseworklaw16_LexReads.f k a0) (falseworklaw16_LexReads.f (k + 1) a0) := by
 intro a0 k
 unfold falseworklaw16_LexReads.f
 repeat' first
   | (with_reducible exact falseworklaw16_awake.mono _)
   | (with_reducible exact falseworklaw16_same.mono _ _ _)
   | (with_reducible exact falseworkref16_Lex.mono _ _)
   | (with_reducible exact lex_Lex.mono _ _)
   | (with_reducible exact LeO.refl _)
   | (with_reducible exact LeO.none _)
   | (with_reducible refine LeO.ite ?_ ?_)
   | (with_reducible refine LeO.bind ?_ (fun _ => ?_))
   | exact falseworklaw16_awake.mono _
   | exact falseworklaw16_same.mono _ _ _
   | exact falseworkref16_Lex.mono _ _
   | exact lex_Lex.mono _ _
   | exact LeO.none _
   | refine LeO.ite ?_ ?_
   | refine LeO.bind ?_ (fun _ => ?_)
set_option maxHeartbeats 8000000 in
set_option maxRecDepth 100000 in
theorem falseworklaw16_LexReads.calls (k : Nat) (a0 : ByteArray) (r : Bool) (w : World) (h : falseworklaw16_LexReads.f k a0 = some r) (hG : GL w) :
  Calls Tryd.prog 3 #[.string a0] w fun e w' => e = .returned (.bool r) ∧ Below w.heap.size w w' := by
 have HB := Aside0.mk (Below.refl w.heap.size w)
 have HG := Aside0.mk hG
 clear hG
 have H : ((lex_Lex.f k a0).bind fun bt281 => ((falseworkref16_Lex.f k a0).bind fun bt286 => ((falseworklaw16_same.f k bt281.1 bt286.1).bind fun t291 => (if t291 = true then (if bt281.2.1 = bt286.2.1 then ((falseworklaw16_num.f bt281.2.2).bind fun t292 => (if t292 = bt286.2.2 then ((falseworklaw16_awake.f k).bind fun t293 => (some t293)) else (some false))) else (some false)) else (some false))))) = some r := h
 clear h
 replace H := Option.bind_eq_some_iff.mp H
 obtain ⟨⟨t281, t282, t283⟩, A20, H⟩ := H
 replace H : ((falseworkref16_Lex.f k a0).bind fun bt286 => ((falseworklaw16_same.f k t281 bt286.1).bind fun t291 => (if t291 = true then (if t282 = bt286.2.1 then ((falseworklaw16_num.f t283).bind fun t292 => (if t292 = bt286.2.2 then ((falseworklaw16_awake.f k).bind fun t293 => (some t293)) else (some false))) else (some false)) else (some false)))) = some r := H
 have A2 := Aside0.mk A20
 clear A20
 replace H := Option.bind_eq_some_iff.mp H
 obtain ⟨⟨t286, t287, t288⟩, A30, H⟩ := H
 replace H : ((falseworklaw16_same.f k t281 t286).bind fun t291 => (if t291 = true then (if t282 = t287 then ((falseworklaw16_num.f t283).bind fun t292 => (if t292 = t288 then ((falseworklaw16_awake.f k).bind fun t293 => (some t293)) else (some false))) else (some false)) else (some false))) = some r := H
 have A3 := Aside0.mk A30
 clear A30
 replace H := Option.bind_eq_some_iff.mp H
 obtain ⟨t291, A40, H⟩ := H
 replace H : (if t291 = true then (if t282 = t287 then ((falseworklaw16_num.f t283).bind fun t292 => (if t292 = t288 then ((falseworklaw16_awake.f k).bind fun t293 => (some t293)) else (some false))) else (some false)) else (some false)) = some r := H
 have A4 := Aside0.mk A40
 clear A40
 by_cases c5 : t291 = true
 ·subst c5
  have H1 : (if t282 = t287 then ((falseworklaw16_num.f t283).bind fun t292 => (if t292 = t288 then ((falseworklaw16_awake.f k).bind fun t293 => (some t293)) else (some false))) else (some false)) = some r := by rw [if_pos rfl] at H; exact H
  clear H
  have H := H1
  clear H1
  by_cases c6 : t282 = t287
  ·rw [if_pos c6] at H
   have c6b0 : (t282 == t287) = true := beq_iff_eq.mpr c6
   have c6b1 : (t282 != t287) = false := bne_eq_false_iff_eq.mpr c6
   clear c6
   replace H := Option.bind_eq_some_iff.mp H
   obtain ⟨t292, A70, H⟩ := H
   replace H : (if t292 = t288 then ((falseworklaw16_awake.f k).bind fun t293 => (some t293)) else (some false)) = some r := H
   have A7 := Aside0.mk A70
   clear A70
   by_cases c8 : t292 = t288
   ·rw [if_pos c8] at H
    have c8b0 : (t292 == t288) = true := beq_iff_eq.mpr c8
    have c8b1 : (t292 != t288) = false := bne_eq_false_iff_eq.mpr c8
    clear c8
    replace H := Option.bind_eq_some_iff.mp H
    obtain ⟨t293, A90, H⟩ := H
    replace H : (some t293) = some r := H
    have A9 := Aside0.mk A90
    clear A90
    obtain rfl := Option.some.inj H
    go_enter Tryd.func3, Tryd.ntmps3
    go_wp2_with (first | ((with_reducible refine gate_callee (f := 9) rfl ?_); refine goesL_ (some 11) rfl rfl Tryd.func9 (by kernel_rfl) rfl #[.string a0] rfl (by (try simp only [List.map_toArray, List.map_cons, List.map_nil]); first | done | rfl | (simp only [List.length_drop, List.length_take]; rfl)) ?_; (with_reducible refine (lex_Lex.calls k a0 t281 t282 t283 _ A2.out ?side1).mono ?_); (case side1 => exact GL.of_below HG.out (by repeat (first | (with_reducible first | exact HB.out | apply below_alloc | apply pw_below_drewN | apply below_drew1) | exact HB.out))); rintro e w10 ⟨v284, rfl, ho0, hb⟩; refine ⟨_, rfl, ?_⟩; have n0_ := Aside0.mk (Kd.R_lower ho0 (below_size (by repeat (first | (with_reducible first | exact HB.out | apply below_alloc | apply pw_below_drewN | apply below_drew1) | exact HB.out)))); have n1_ := Aside0.mk (below_step (by repeat (first | (with_reducible first | exact HB.out | apply below_alloc | apply pw_below_drewN | apply below_drew1) | exact HB.out)) hb); clear HB; have HO285 := n0_; have HB := n1_; clear n0_ n1_; (try clear hb); (try clear hb2); (try clear hk); (try clear hi); (try clear ho0)) | ((with_reducible refine gate_callee (f := 10) rfl ?_); refine goesL_ (some 17) rfl rfl Tryd.func10 (by kernel_rfl) rfl #[.string a0] rfl (by (try simp only [List.map_toArray, List.map_cons, List.map_nil]); first | done | rfl | (simp only [List.length_drop, List.length_take]; rfl)) ?_; (with_reducible refine (falseworkref16_Lex.calls k a0 t286 t287 t288 _ A3.out).mono ?_); rintro e w11 ⟨v289, rfl, ho0, hb⟩; refine ⟨_, rfl, ?_⟩; have n0_ := Aside0.mk (Kd.R_below (by (with_reducible repeat (first | apply Kd.R_alloc | apply Kd.R_drewN | apply Kd.R_drew)); exact HO285.out) hb); have n1_ := Aside0.mk (Kd.R_lower ho0 (below_size (by repeat (first | (with_reducible first | exact HB.out | apply below_alloc | apply pw_below_drewN | apply below_drew1) | exact HB.out)))); have n2_ := Aside0.mk (below_step (by repeat (first | (with_reducible first | exact HB.out | apply below_alloc | apply pw_below_drewN | apply below_drew1) | exact HB.out)) hb); clear HO285; clear HB; have HO285 := n0_; have HO290 := n1_; have HB := n2_; clear n0_ n1_ n2_; (try clear hb); (try clear hb2); (try clear hk); (try clear hi); (try clear ho0); obtain ⟨Ao12, co12, eo12⟩ := Kd.R_slice HO285.out; subst eo12; obtain ⟨Ao13, co13, eo13⟩ := Kd.R_slice HO290.out; subst eo13) | ((with_reducible refine gate_callee (f := 11) rfl ?_); refine goesL_ (some 23) rfl rfl Tryd.func11 (by kernel_rfl) rfl #[.slice Ao12 t281.length co12, .slice Ao13 t286.length co13] rfl (by (try simp only [List.map_toArray, List.map_cons, List.map_nil]); first | done | rfl | (simp only [List.length_drop, List.length_take]; rfl)) ?_; (with_reducible refine (falseworklaw16_same.calls k _ _ t281 _ _ t286 true _ ?side1 ?side2 ?side3 ?side4 A4.out).mono ?_); (case side1 => repeat (first | exact (Kd.R_reads' HO285.out).2.2 | (with_reducible refine Kd.C_alloc ?_ _) | (with_reducible refine Kd.C_drewN ?_ _) | (with_reducible refine Kd.C_drew ?_))); (case side2 => exact (Kd.R_reads' HO285.out).2.1); (case side3 => repeat (first | exact (Kd.R_reads' HO290.out).2.2 | (with_reducible refine Kd.C_alloc ?_ _) | (with_reducible refine Kd.C_drewN ?_ _) | (with_reducible refine Kd.C_drew ?_))); (case side4 => exact (Kd.R_reads' HO290.out).2.1); rintro e w' ⟨rfl, ⟨nd, rfl⟩⟩; refine ⟨_, rfl, ?_⟩) | (go_at_call 12; (with_reducible refine (falseworklaw16_num.calls t283 t292 _ A7.out).mono ?_); rintro e w' ⟨rfl, ⟨nd, rfl⟩⟩) | (go_at_call 13; (with_reducible refine (falseworklaw16_awake.calls k  t293 _ A9.out ?side1).mono ?_); (case side1 => exact GL.of_below HG.out (by repeat (first | (with_reducible first | exact HB.out | apply below_alloc | apply pw_below_drewN | apply below_drew1) | exact HB.out))); rintro e w14 ⟨rfl, hb⟩; have n0_ := Aside0.mk (Kd.R_below (by (with_reducible repeat (first | apply Kd.R_alloc | apply Kd.R_drewN | apply Kd.R_drew)); exact HO285.out) hb); have n1_ := Aside0.mk (Kd.R_below (by (with_reducible repeat (first | apply Kd.R_alloc | apply Kd.R_drewN | apply Kd.R_drew)); exact HO290.out) hb); have n2_ := Aside0.mk (below_step (by repeat (first | (with_reducible first | exact HB.out | apply below_alloc | apply pw_below_drewN | apply below_drew1) | exact HB.out)) hb); clear HO285; clear HO290; clear HB; have HO285 := n0_; have HO290 := n1_; have HB := n2_; clear n0_ n1_ n2_; (try clear hb); (try clear hb2); (try clear hk); (try clear hi)))
    go_ret
    exact ⟨by first | rfl | (simp [errW_none, errW_some] <;> rfl) | (simp [*, errW_none, errW_some] <;> rfl), by repeat (first | (with_reducible first | exact HB.out | apply below_alloc | apply pw_below_drewN | apply below_drew1) | exact HB.out)⟩
   ·rw [if_neg c8] at H
    have c8b0 : (t292 == t288) = false := beq_eq_false_iff_ne.mpr c8
    have c8b1 : (t292 != t288) = true := bne_iff_ne.mpr c8
    obtain rfl := Option.some.inj H
    go_enter Tryd.func3, Tryd.ntmps3
    go_wp2_with (first | ((with_reducible refine gate_callee (f := 9) rfl ?_); refine goesL_ (some 11) rfl rfl Tryd.func9 (by kernel_rfl) rfl #[.string a0] rfl (by (try simp only [List.map_toArray, List.map_cons, List.map_nil]); first | done | rfl | (simp only [List.length_drop, List.length_take]; rfl)) ?_; (with_reducible refine (lex_Lex.calls k a0 t281 t282 t283 _ A2.out ?side1).mono ?_); (case side1 => exact GL.of_below HG.out (by repeat (first | (with_reducible first | exact HB.out | apply below_alloc | apply pw_below_drewN | apply below_drew1) | exact HB.out))); rintro e w15 ⟨v284, rfl, ho0, hb⟩; refine ⟨_, rfl, ?_⟩; have n0_ := Aside0.mk (Kd.R_lower ho0 (below_size (by repeat (first | (with_reducible first | exact HB.out | apply below_alloc | apply pw_below_drewN | apply below_drew1) | exact HB.out)))); have n1_ := Aside0.mk (below_step (by repeat (first | (with_reducible first | exact HB.out | apply below_alloc | apply pw_below_drewN | apply below_drew1) | exact HB.out)) hb); clear HB; have HO285 := n0_; have HB := n1_; clear n0_ n1_; (try clear hb); (try clear hb2); (try clear hk); (try clear hi); (try clear ho0)) | ((with_reducible refine gate_callee (f := 10) rfl ?_); refine goesL_ (some 17) rfl rfl Tryd.func10 (by kernel_rfl) rfl #[.string a0] rfl (by (try simp only [List.map_toArray, List.map_cons, List.map_nil]); first | done | rfl | (simp only [List.length_drop, List.length_take]; rfl)) ?_; (with_reducible refine (falseworkref16_Lex.calls k a0 t286 t287 t288 _ A3.out).mono ?_); rintro e w16 ⟨v289, rfl, ho0, hb⟩; refine ⟨_, rfl, ?_⟩; have n0_ := Aside0.mk (Kd.R_below (by (with_reducible repeat (first | apply Kd.R_alloc | apply Kd.R_drewN | apply Kd.R_drew)); exact HO285.out) hb); have n1_ := Aside0.mk (Kd.R_lower ho0 (below_size (by repeat (first | (with_reducible first | exact HB.out | apply below_alloc | apply pw_below_drewN | apply below_drew1) | exact HB.out)))); have n2_ := Aside0.mk (below_step (by repeat (first | (with_reducible first | exact HB.out | apply below_alloc | apply pw_below_drewN | apply below_drew1) | exact HB.out)) hb); clear HO285; clear HB; have HO285 := n0_; have HO290 := n1_; have HB := n2_; clear n0_ n1_ n2_; (try clear hb); (try clear hb2); (try clear hk); (try clear hi); (try clear ho0); obtain ⟨Ao17, co17, eo17⟩ := Kd.R_slice HO285.out; subst eo17; obtain ⟨Ao18, co18, eo18⟩ := Kd.R_slice HO290.out; subst eo18) | ((with_reducible refine gate_callee (f := 11) rfl ?_); refine goesL_ (some 23) rfl rfl Tryd.func11 (by kernel_rfl) rfl #[.slice Ao17 t281.length co17, .slice Ao18 t286.length co18] rfl (by (try simp only [List.map_toArray, List.map_cons, List.map_nil]); first | done | rfl | (simp only [List.length_drop, List.length_take]; rfl)) ?_; (with_reducible refine (falseworklaw16_same.calls k _ _ t281 _ _ t286 true _ ?side1 ?side2 ?side3 ?side4 A4.out).mono ?_); (case side1 => repeat (first | exact (Kd.R_reads' HO285.out).2.2 | (with_reducible refine Kd.C_alloc ?_ _) | (with_reducible refine Kd.C_drewN ?_ _) | (with_reducible refine Kd.C_drew ?_))); (case side2 => exact (Kd.R_reads' HO285.out).2.1); (case side3 => repeat (first | exact (Kd.R_reads' HO290.out).2.2 | (with_reducible refine Kd.C_alloc ?_ _) | (with_reducible refine Kd.C_drewN ?_ _) | (with_reducible refine Kd.C_drew ?_))); (case side4 => exact (Kd.R_reads' HO290.out).2.1); rintro e w' ⟨rfl, ⟨nd, rfl⟩⟩; refine ⟨_, rfl, ?_⟩) | (go_at_call 12; (with_reducible refine (falseworklaw16_num.calls t283 t292 _ A7.out).mono ?_); rintro e w' ⟨rfl, ⟨nd, rfl⟩⟩))
    go_ret
    exact ⟨by first | rfl | (simp [errW_none, errW_some] <;> rfl) | (simp [*, errW_none, errW_some] <;> rfl), by repeat (first | (with_reducible first | exact HB.out | apply below_alloc | apply pw_below_drewN | apply below_drew1) | exact HB.out)⟩
  ·rw [if_neg c6] at H
   have c6b0 : (t282 == t287) = false := beq_eq_false_iff_ne.mpr c6
   have c6b1 : (t282 != t287) = true := bne_iff_ne.mpr c6
   obtain rfl := Option.some.inj H
   go_enter Tryd.func3, Tryd.ntmps3
   go_wp2_with (first | ((with_reducible refine gate_callee (f := 9) rfl ?_); refine goesL_ (some 11) rfl rfl Tryd.func9 (by kernel_rfl) rfl #[.string a0] rfl (by (try simp only [List.map_toArray, List.map_cons, List.map_nil]); first | done | rfl | (simp only [List.length_drop, List.length_take]; rfl)) ?_; (with_reducible refine (lex_Lex.calls k a0 t281 t282 t283 _ A2.out ?side1).mono ?_); (case side1 => exact GL.of_below HG.out (by repeat (first | (with_reducible first | exact HB.out | apply below_alloc | apply pw_below_drewN | apply below_drew1) | exact HB.out))); rintro e w19 ⟨v284, rfl, ho0, hb⟩; refine ⟨_, rfl, ?_⟩; have n0_ := Aside0.mk (Kd.R_lower ho0 (below_size (by repeat (first | (with_reducible first | exact HB.out | apply below_alloc | apply pw_below_drewN | apply below_drew1) | exact HB.out)))); have n1_ := Aside0.mk (below_step (by repeat (first | (with_reducible first | exact HB.out | apply below_alloc | apply pw_below_drewN | apply below_drew1) | exact HB.out)) hb); clear HB; have HO285 := n0_; have HB := n1_; clear n0_ n1_; (try clear hb); (try clear hb2); (try clear hk); (try clear hi); (try clear ho0)) | ((with_reducible refine gate_callee (f := 10) rfl ?_); refine goesL_ (some 17) rfl rfl Tryd.func10 (by kernel_rfl) rfl #[.string a0] rfl (by (try simp only [List.map_toArray, List.map_cons, List.map_nil]); first | done | rfl | (simp only [List.length_drop, List.length_take]; rfl)) ?_; (with_reducible refine (falseworkref16_Lex.calls k a0 t286 t287 t288 _ A3.out).mono ?_); rintro e w20 ⟨v289, rfl, ho0, hb⟩; refine ⟨_, rfl, ?_⟩; have n0_ := Aside0.mk (Kd.R_below (by (with_reducible repeat (first | apply Kd.R_alloc | apply Kd.R_drewN | apply Kd.R_drew)); exact HO285.out) hb); have n1_ := Aside0.mk (Kd.R_lower ho0 (below_size (by repeat (first | (with_reducible first | exact HB.out | apply below_alloc | apply pw_below_drewN | apply below_drew1) | exact HB.out)))); have n2_ := Aside0.mk (below_step (by repeat (first | (with_reducible first | exact HB.out | apply below_alloc | apply pw_below_drewN | apply below_drew1) | exact HB.out)) hb); clear HO285; clear HB; have HO285 := n0_; have HO290 := n1_; have HB := n2_; clear n0_ n1_ n2_; (try clear hb); (try clear hb2); (try clear hk); (try clear hi); (try clear ho0); obtain ⟨Ao21, co21, eo21⟩ := Kd.R_slice HO285.out; subst eo21; obtain ⟨Ao22, co22, eo22⟩ := Kd.R_slice HO290.out; subst eo22) | ((with_reducible refine gate_callee (f := 11) rfl ?_); refine goesL_ (some 23) rfl rfl Tryd.func11 (by kernel_rfl) rfl #[.slice Ao21 t281.length co21, .slice Ao22 t286.length co22] rfl (by (try simp only [List.map_toArray, List.map_cons, List.map_nil]); first | done | rfl | (simp only [List.length_drop, List.length_take]; rfl)) ?_; (with_reducible refine (falseworklaw16_same.calls k _ _ t281 _ _ t286 true _ ?side1 ?side2 ?side3 ?side4 A4.out).mono ?_); (case side1 => repeat (first | exact (Kd.R_reads' HO285.out).2.2 | (with_reducible refine Kd.C_alloc ?_ _) | (with_reducible refine Kd.C_drewN ?_ _) | (with_reducible refine Kd.C_drew ?_))); (case side2 => exact (Kd.R_reads' HO285.out).2.1); (case side3 => repeat (first | exact (Kd.R_reads' HO290.out).2.2 | (with_reducible refine Kd.C_alloc ?_ _) | (with_reducible refine Kd.C_drewN ?_ _) | (with_reducible refine Kd.C_drew ?_))); (case side4 => exact (Kd.R_reads' HO290.out).2.1); rintro e w' ⟨rfl, ⟨nd, rfl⟩⟩; refine ⟨_, rfl, ?_⟩))
   go_ret
   exact ⟨by first | rfl | (simp [errW_none, errW_some] <;> rfl) | (simp [*, errW_none, errW_some] <;> rfl), by repeat (first | (with_reducible first | exact HB.out | apply below_alloc | apply pw_below_drewN | apply below_drew1) | exact HB.out)⟩
 ·replace c5 := Bool.eq_false_iff.mpr c5
  subst c5
  have H1 : (some false) = some r := by rw [if_neg (show ¬ (false = true) by decide)] at H; exact H
  clear H
  have H := H1
  clear H1
  obtain rfl := Option.some.inj H
  go_enter Tryd.func3, Tryd.ntmps3
  go_wp2_with (first | ((with_reducible refine gate_callee (f := 9) rfl ?_); refine goesL_ (some 11) rfl rfl Tryd.func9 (by kernel_rfl) rfl #[.string a0] rfl (by (try simp only [List.map_toArray, List.map_cons, List.map_nil]); first | done | rfl | (simp only [List.length_drop, List.length_take]; rfl)) ?_; (with_reducible refine (lex_Lex.calls k a0 t281 t282 t283 _ A2.out ?side1).mono ?_); (case side1 => exact GL.of_below HG.out (by repeat (first | (with_reducible first | exact HB.out | apply below_alloc | apply pw_below_drewN | apply below_drew1) | exact HB.out))); rintro e w23 ⟨v284, rfl, ho0, hb⟩; refine ⟨_, rfl, ?_⟩; have n0_ := Aside0.mk (Kd.R_lower ho0 (below_size (by repeat (first | (with_reducible first | exact HB.out | apply below_alloc | apply pw_below_drewN | apply below_drew1) | exact HB.out)))); have n1_ := Aside0.mk (below_step (by repeat (first | (with_reducible first | exact HB.out | apply below_alloc | apply pw_below_drewN | apply below_drew1) | exact HB.out)) hb); clear HB; have HO285 := n0_; have HB := n1_; clear n0_ n1_; (try clear hb); (try clear hb2); (try clear hk); (try clear hi); (try clear ho0)) | ((with_reducible refine gate_callee (f := 10) rfl ?_); refine goesL_ (some 17) rfl rfl Tryd.func10 (by kernel_rfl) rfl #[.string a0] rfl (by (try simp only [List.map_toArray, List.map_cons, List.map_nil]); first | done | rfl | (simp only [List.length_drop, List.length_take]; rfl)) ?_; (with_reducible refine (falseworkref16_Lex.calls k a0 t286 t287 t288 _ A3.out).mono ?_); rintro e w24 ⟨v289, rfl, ho0, hb⟩; refine ⟨_, rfl, ?_⟩; have n0_ := Aside0.mk (Kd.R_below (by (with_reducible repeat (first | apply Kd.R_alloc | apply Kd.R_drewN | apply Kd.R_drew)); exact HO285.out) hb); have n1_ := Aside0.mk (Kd.R_lower ho0 (below_size (by repeat (first | (with_reducible first | exact HB.out | apply below_alloc | apply pw_below_drewN | apply below_drew1) | exact HB.out)))); have n2_ := Aside0.mk (below_step (by repeat (first | (with_reducible first | exact HB.out | apply below_alloc | apply pw_below_drewN | apply below_drew1) | exact HB.out)) hb); clear HO285; clear HB; have HO285 := n0_; have HO290 := n1_; have HB := n2_; clear n0_ n1_ n2_; (try clear hb); (try clear hb2); (try clear hk); (try clear hi); (try clear ho0); obtain ⟨Ao25, co25, eo25⟩ := Kd.R_slice HO285.out; subst eo25; obtain ⟨Ao26, co26, eo26⟩ := Kd.R_slice HO290.out; subst eo26) | ((with_reducible refine gate_callee (f := 11) rfl ?_); refine goesL_ (some 23) rfl rfl Tryd.func11 (by kernel_rfl) rfl #[.slice Ao25 t281.length co25, .slice Ao26 t286.length co26] rfl (by (try simp only [List.map_toArray, List.map_cons, List.map_nil]); first | done | rfl | (simp only [List.length_drop, List.length_take]; rfl)) ?_; (with_reducible refine (falseworklaw16_same.calls k _ _ t281 _ _ t286 false _ ?side1 ?side2 ?side3 ?side4 A4.out).mono ?_); (case side1 => repeat (first | exact (Kd.R_reads' HO285.out).2.2 | (with_reducible refine Kd.C_alloc ?_ _) | (with_reducible refine Kd.C_drewN ?_ _) | (with_reducible refine Kd.C_drew ?_))); (case side2 => exact (Kd.R_reads' HO285.out).2.1); (case side3 => repeat (first | exact (Kd.R_reads' HO290.out).2.2 | (with_reducible refine Kd.C_alloc ?_ _) | (with_reducible refine Kd.C_drewN ?_ _) | (with_reducible refine Kd.C_drew ?_))); (case side4 => exact (Kd.R_reads' HO290.out).2.1); rintro e w' ⟨rfl, ⟨nd, rfl⟩⟩; refine ⟨_, rfl, ?_⟩))
  go_ret
  exact ⟨by first | rfl | (simp [errW_none, errW_some] <;> rfl) | (simp [*, errW_none, errW_some] <;> rfl), by repeat (first | (with_reducible first | exact HB.out | apply below_alloc | apply pw_below_drewN | apply below_drew1) | exact HB.out)⟩
end Go.Proofs.YtjehfmimbbdnkaaDoor.L
namespace Go.Proofs.YtjehfmimbbdnkaaDoor.LexPure
open Go.RowKit Go.Proofs.YtjehfmimbbdnkaaDoorW.PrintWords Go.Proofs.YtjehfmimbbdnkaaDoorW.PrintLast Go.Proofs.YtjehfmimbbdnkaaDoorW.PrintMore
open Go.Proofs.YtjehfmimbbdnkaaDoor.L Go.Proofs.YtjehfmimbbdnkaaDoor
theorem wrap_small {i : Int} (h0 : -9223372036854775808 ≤ i) (h1 : i < 9223372036854775808) : wrap64 i = i := by unfold wrap64; omega
abbrev L8 (s : ByteArray) : List UInt8 := s.data.toList
theorem L8_len (s : ByteArray) : (L8 s).length = s.size := by unfold L8; rw [Array.length_toList]; rfl
theorem bt_L8 (s : ByteArray) (i : Nat) (h : i < s.size) : bt s (i : Int) = (((L8 s)[i]'(by rw [L8_len]; exact h)).toNat : Int) := by
  unfold bt
  rw [dif_pos (by simpa using h)]
  simp [L8, ByteArray.getElem_eq_getElem_data]
theorem drop_L8 (s : ByteArray) (i : Nat) (h : i < s.size) : (L8 s).drop i = (L8 s)[i]'(by rw [L8_len]; exact h) :: (L8 s).drop (i + 1) := List.drop_eq_getElem_cons (by rw [L8_len]; exact h)
def textS : List UInt8 → Option (List UInt8 × Nat)
  | [] => none
  | c :: r =>
    if c = 39 then
      match r with
      | d :: r' => if d = 39 then (textS r').map fun x => (39 :: x.1, x.2 + 2) else some ([], 1)
      | [] => some ([], 1)
    else if c < 32 ∨ 126 < c then none else (textS r).map fun x => (c :: x.1, x.2 + 1)
def textR (s : ByteArray) (b : List Int) (i : Nat) : Option (List UInt8 × Nat) → Int × ByteArray × Int × Int × Int × ByteArray × Int × Int
  | none => (0, ⟨#[]⟩, 0, 0, 0, ⟨#[]⟩, 0, 0)
  | some (l, n) => if 40 < b.length + l.length then (0, ⟨#[]⟩, 0, 0, 0, ⟨#[]⟩, 0, 0)
    else (3, s.extract 0 (i + n), 5, 0, 0, strOfNums (b ++ l.map fun c => (c.toNat : Int)), 0, ((i + n : Nat) : Int))
theorem len_small {b : List Int} {i : Nat} {s : ByteArray} (hs : s.size ≤ 1000) (hi : i < s.size) (hb : b.length ≤ i) : b.length < 140737488355328 := by omega
theorem text_stop (k : Nat) (s : ByteArray) (b : List Int) (i : Nat) (hs : s.size ≤ 1000) (hi : i < s.size) (hc : bt s (i : Int) = 39) :
    lex_text.j1 (k + 1) s b (i : Int) false = some (textR s b i (some ([], 1))) := by
  unfold lex_text.j1
  rw [if_neg (by simp), if_pos (by omega), if_pos (by omega), if_pos hc]
  have hw : wrap64 ((i : Int) + 1) = ((i + 1 : Nat) : Int) := by rw [wrap_small (by omega) (by omega)]; omega
  by_cases h : 40 < b.length
  · rw [if_pos (by omega)]
    simp [textR, h]
  · rw [if_neg (by omega), hw, if_pos (by omega), if_pos (by omega)]
    simp only [textR, List.length_nil, Nat.add_zero, if_neg h, List.map_nil, List.append_nil, Int.toNat_natCast]
theorem textR_cons (s : ByteArray) (b : List Int) (i n : Nat) (c : UInt8) (x : Option (List UInt8 × Nat)) :
    textR s b i (x.map fun y => (c :: y.1, y.2 + n)) = textR s (b ++ [(c.toNat : Int)]) (i + n) x := by
  cases x with
  | none => rfl
  | some y =>
    obtain ⟨l, m⟩ := y
    have e1 : b.length + (c :: l).length = (b ++ [(c.toNat : Int)]).length + l.length := by simp; omega
    have e2 : i + (m + n) = i + n + m := by omega
    simp only [Option.map_some, textR, e1, e2, List.map_cons, List.append_assoc, List.singleton_append]
set_option maxRecDepth 4000 in
theorem text_loop (s : ByteArray) (hs : s.size ≤ 1000) : ∀ (m k i : Nat) (b : List Int), s.size ≤ i + m → 1 ≤ i → b.length ≤ i → 2 * m < k →
    lex_text.l0 k s b (i : Int) = some (textR s b i (textS ((L8 s).drop i)))
  | m, 0, i, b, h, h1, hb, hk => by omega
  | 0, k + 1, i, b, h, h1, hb, hk => by
    have : (L8 s).drop i = [] := List.drop_eq_nil_of_le (by rw [L8_len]; omega)
    rw [this]
    unfold lex_text.l0
    rw [if_neg (by omega)]
    rfl
  | m + 1, 1, i, b, h, h1, hb, hk => by omega
  | m + 1, k + 2, i, b, h, h1, hb, hk => by
    by_cases hi : i < s.size
    · have hw : wrap64 ((i : Int) + 1) = ((i + 1 : Nat) : Int) := by rw [wrap_small (by omega) (by omega)]; omega
      rw [drop_L8 s i hi]
      have hbi := bt_L8 s i hi
      generalize hc : (L8 s)[i]'(by rw [L8_len]; exact hi) = c at hbi ⊢
      unfold lex_text.l0
      rw [if_pos (by omega), if_pos (by omega)]
      by_cases hq : c = 39
      · subst hq
        have hbi' : bt s (i : Int) = 39 := hbi
        rw [if_pos hbi', hw]
        by_cases h2 : i + 1 < s.size
        · rw [if_pos (by omega), if_pos (by omega), drop_L8 s (i + 1) h2]
          have hbd := bt_L8 s (i + 1) h2
          generalize hd : (L8 s)[i + 1]'(by rw [L8_len]; exact h2) = d at hbd ⊢
          by_cases hq2 : d = 39
          · subst hq2
            have hbd' : bt s ((i + 1 : Nat) : Int) = 39 := hbd
            rw [hbd']
            have hw2 : wrap64 (((i + 1 : Nat) : Int) + 1) = ((i + 2 : Nat) : Int) := by rw [wrap_small (by omega) (by omega)]; omega
            have e : textS (39 :: 39 :: (L8 s).drop (i + 1 + 1)) = (textS ((L8 s).drop (i + 2))).map fun x => (39 :: x.1, x.2 + 2) := by simp [textS]
            rw [e, textR_cons]
            show lex_text.j1 (k + 1) s b (i : Int) true = _
            unfold lex_text.j1
            rw [if_pos rfl, hw, if_pos (by omega), if_pos (by omega), if_pos (len_small hs hi hb), hw2, hbd']
            exact text_loop s hs m k (i + 2) (b ++ [39]) (by omega) (by omega) (by simp; omega) (by omega)
          · have hbd' : (bt s ((i + 1 : Nat) : Int) == 39) = false := by
              rw [hbd, beq_eq_false_iff_ne]
              intro hh
              exact hq2 (UInt8.toNat_inj.1 (by have : d.toNat = 39 := by omega
                                               exact this))
            rw [hbd', text_stop k s b i hs hi hbi']
            have e : textS (39 :: d :: (L8 s).drop (i + 1 + 1)) = some ([], 1) := by simp [textS, hq2]
            rw [e]
        · rw [if_neg (by omega), text_stop k s b i hs hi hbi']
          have e0 : (L8 s).drop (i + 1) = [] := List.drop_eq_nil_of_le (by rw [L8_len]; omega)
          rw [e0]
          simp [textS]
      · have hne : ¬ bt s (i : Int) = 39 := by
          rw [hbi]
          intro hh
          exact hq (UInt8.toNat_inj.1 (by have : c.toNat = 39 := by omega
                                          exact this))
        rw [if_neg hne]
        have e : textS (c :: (L8 s).drop (i + 1)) = if c < 32 ∨ 126 < c then none else (textS ((L8 s).drop (i + 1))).map fun x => (c :: x.1, x.2 + 1) := by
          rw [textS.eq_def]; simp only [if_neg hq]
        unfold lex_text.j1
        rw [if_neg (by simp), if_pos (by omega), if_pos (by omega), if_neg hne, e]
        have l1 : (c < 32) ↔ c.toNat < 32 := UInt8.lt_iff_toNat_lt
        have l2 : (126 < c) ↔ 126 < c.toNat := UInt8.lt_iff_toNat_lt
        by_cases h3 : c.toNat < 32
        · rw [if_pos (by omega), if_pos (.inl (l1.2 h3))]
          rfl
        · rw [if_neg (by omega)]
          by_cases h4 : 126 < c.toNat
          · rw [if_pos (by omega), if_pos (.inr (l2.2 h4))]
            rfl
          · rw [if_neg (by omega), if_pos (len_small hs hi hb), if_neg (by rw [l1, l2]; omega), textR_cons, hbi, hw]
            exact text_loop s hs m k (i + 1) (b ++ [(c.toNat : Int)]) (by omega) (by omega) (by simp; omega) (by omega)
    · have : (L8 s).drop i = [] := List.drop_eq_nil_of_le (by rw [L8_len]; omega)
      rw [this]
      unfold lex_text.l0
      rw [if_neg (by omega)]
      rfl
theorem lex_text_eq (s : ByteArray) (hs : s.size ≤ 1000) (k : Nat) (hk : 2000 < k) :
    lex_text.f k s = some (textR s [] 1 (textS ((L8 s).drop 1))) := by
  unfold lex_text.f
  exact text_loop s hs 999 k 1 [] (by omega) (by omega) (by simp) (by omega)
end Go.Proofs.YtjehfmimbbdnkaaDoor.LexPure
namespace Go.Proofs.YtjehfmimbbdnkaaDoor.LexPure
open Go.RowKit Go.Proofs.YtjehfmimbbdnkaaDoorW.PrintWords Go.Proofs.YtjehfmimbbdnkaaDoorW.PrintLast Go.Proofs.YtjehfmimbbdnkaaDoorW.PrintMore
open Go.Proofs.YtjehfmimbbdnkaaDoor.L Go.Proofs.YtjehfmimbbdnkaaDoor
theorem L8_ext (s : ByteArray) (i j : Nat) : L8 (s.extract i j) = ((L8 s).drop i).take (j - i) := by
  unfold L8
  rw [ByteArray.data_extract, Array.toList_extract, List.extract_eq_take_drop]
theorem size_ext (s : ByteArray) (i j : Nat) (h : j ≤ s.size) : (s.extract i j).size = j - i := by
  rw [← L8_len, L8_ext, List.length_take, List.length_drop, L8_len]; omega
def pairsS : List UInt8 → List Int
  | a :: b :: r => ((16 * hexVal a + hexVal b : Nat) : Int) :: pairsS r
  | _ => []
theorem hexVal_lt {c : UInt8} (h : isHex c = true) : hexVal c < 16 := by
  rcases hex_cases h with ⟨h1, h2, h3⟩ | ⟨h1, h2, h3⟩ <;> omega
theorem puint_pair (s : ByteArray) (i : Nat) (hi : i + 2 ≤ s.size) (a b : UInt8) (hd : ((L8 s).drop i).take 2 = [a, b]) (ha : isHex a = true) (hb : isHex b = true) :
    strconv_ParseUint.f (s.extract i (i + 2)) 16 8 = some (((16 * hexVal a + hexVal b : Nat) : Int), none) := by
  have hz := size_ext s i (i + 2) hi
  have hl : (s.extract i (i + 2)).data.toList = [a, b] := by
    have := L8_ext s i (i + 2)
    rw [show i + 2 - i = 2 from by omega] at this
    exact this.trans hd
  unfold strconv_ParseUint.f
  have hx := hexVal_lt ha
  have hy := hexVal_lt hb
  rw [if_pos ⟨rfl, .inr rfl, by omega, by rw [hl]; simp [ha, hb]⟩, if_neg (by omega), hl, pmax8]
  have e : h16 255 0 [a, b] = .ok (16 * hexVal a + hexVal b) := by
    unfold h16
    rw [if_neg (by omega), if_neg (by omega)]
    unfold h16
    rw [if_neg (by omega), if_neg (by omega)]
    unfold h16
    congr 1
    omega
  rw [e]
theorem pairs_loop (s : ByteArray) (hs : s.size ≤ 1000) (stop : Nat) (hst : stop ≤ s.size) (hall : ∀ c ∈ ((L8 s).drop 2).take (stop - 2), isHex c = true)
    (c0 : Int) (c1 : ByteArray) (c2 c3 c4 : Int) (c5 : ByteArray) (c6 : Int) : ∀ (m k j : Nat) (b : List Int), j + 2 * m = stop → 2 ≤ j → b.length ≤ j → m < k →
    lex_coded.l0 k s (stop : Int) b (j : Int) c0 c1 c2 c3 c4 c5 c6 = some (c0, c1, 4, 0, 0, strOfNums (b ++ pairsS (((L8 s).drop j).take (stop - j))), c6, wrap64 ((stop : Int) + 1))
  | _, 0, _, _, _, _, _, hk => by omega
  | 0, k + 1, j, b, h, h2, hb, hk => by
    obtain rfl : j = stop := by omega
    unfold lex_coded.l0
    rw [if_neg (by omega), Nat.sub_self]
    simp [pairsS]
  | m + 1, k + 1, j, b, h, h2, hb, hk => by
    have hw : wrap64 ((j : Int) + 2) = ((j + 2 : Nat) : Int) := by rw [wrap_small (by omega) (by omega)]; omega
    have d1 := drop_L8 s j (by omega)
    have d2 := drop_L8 s (j + 1) (by omega)
    generalize ha : (L8 s)[j]'(by rw [L8_len]; omega) = a at d1
    generalize hc : (L8 s)[j + 1]'(by rw [L8_len]; omega) = c at d2
    have hd : (L8 s).drop j = a :: c :: (L8 s).drop (j + 2) := by rw [d1, d2]
    have ht : ((L8 s).drop j).take (stop - j) = a :: c :: ((L8 s).drop (j + 2)).take (stop - (j + 2)) := by
      rw [hd, show stop - j = (stop - (j + 2)) + 1 + 1 from by omega]; rfl
    have hin : ∀ x ∈ ((L8 s).drop j).take (stop - j), isHex x = true := by
      intro x hx
      refine hall x ?_
      have e : ((L8 s).drop j).take (stop - j) = (((L8 s).drop 2).take (stop - 2)).drop (j - 2) := by
        rw [List.drop_take, List.drop_drop]
        congr 1
        · omega
        · congr 1; omega
      rw [e] at hx
      exact List.mem_of_mem_drop hx
    have hxa : isHex a = true := hin a (by rw [ht]; simp)
    have hxc : isHex c = true := hin c (by rw [ht]; simp)
    have hv := hexVal_lt hxa
    have hv2 := hexVal_lt hxc
    unfold lex_coded.l0
    rw [if_pos (by omega), if_pos (by omega), hw, if_pos (by omega), if_pos (by omega), Int.toNat_natCast, Int.toNat_natCast,
      puint_pair s j (by omega) a c (by rw [hd]; rfl) hxa hxc, Option.bind_some, if_pos (by omega)]
    simp only []
    have hmod : (((16 * hexVal a + hexVal c : Nat) : Int)) % 256 = ((16 * hexVal a + hexVal c : Nat) : Int) := by omega
    rw [hmod, pairs_loop s hs stop hst hall c0 c1 c2 c3 c4 c5 c6 m k (j + 2) _ (by omega) (by omega) (by simp; omega) (by omega), ht]
    simp only [pairsS, List.append_assoc, List.singleton_append]
def none8 : Int × ByteArray × Int × Int × Int × ByteArray × Int × Int := (0, ⟨#[]⟩, 0, 0, 0, ⟨#[]⟩, 0, 0)
def hexN (s : ByteArray) : Nat := (((L8 s).drop 2).takeWhile isHex).length
def digitsS (s : ByteArray) : List UInt8 := ((L8 s).drop 2).takeWhile isHex
def codedR (s : ByteArray) : Int × ByteArray × Int × Int × Int × ByteArray × Int × Int :=
  if s.size ≤ 2 + hexN s then none8
  else if bt s ((2 + hexN s : Nat) : Int) ≠ 39 then none8
  else if bt s 0 = 102 then
    (if hexN s = 16 then
      (match h16 18446744073709551615 0 (digitsS s) with
        | .ok v => (3, s.extract 0 (2 + hexN s + 1), 3, 0, canonI (v : Int), ⟨#[]⟩, 0, ((2 + hexN s + 1 : Nat) : Int))
        | _ => none8)
    else none8)
  else if hexN s % 2 = 1 ∨ 40 < hexN s / 2 then none8
  else (3, s.extract 0 (2 + hexN s + 1), 4, 0, 0, strOfNums (pairsS (digitsS s)), 0, ((2 + hexN s + 1 : Nat) : Int))
theorem take_takeWhile {α : Type} (p : α → Bool) : ∀ l : List α, l.take (l.takeWhile p).length = l.takeWhile p
  | [] => rfl
  | a :: l => by
    by_cases h : p a = true
    · simp [h, take_takeWhile p l]
    · simp [h]
theorem takeWhile_all {α : Type} (p : α → Bool) : ∀ l : List α, ∀ x ∈ l.takeWhile p, p x = true
  | [], x, h => by cases h
  | a :: l, x, h => by
    by_cases hp : p a = true
    · rw [List.takeWhile_cons, if_pos hp] at h
      rcases List.mem_cons.1 h with rfl | h
      · exact hp
      · exact takeWhile_all p l x h
    · rw [List.takeWhile_cons, if_neg hp] at h
      cases h
theorem digits_eq (s : ByteArray) : ((L8 s).drop 2).take (hexN s) = digitsS s := take_takeWhile _ _
theorem digits_all (s : ByteArray) : ∀ c ∈ digitsS s, isHex c = true := takeWhile_all _ _
theorem hexN_le (s : ByteArray) (h : 2 ≤ s.size) : 2 + hexN s ≤ s.size := by
  have h1 : hexN s ≤ ((L8 s).drop 2).length := (List.takeWhile_sublist _).length_le
  rw [List.length_drop, L8_len] at h1
  omega
theorem h16_bound (M : Nat) : ∀ (l : List UInt8) (acc v : Nat), acc ≤ M → h16 M acc l = .ok v → v ≤ M
  | [], acc, v, h, e => by
    unfold h16 at e
    cases e
    exact h
  | c :: l, acc, v, h, e => by
    unfold h16 at e
    split at e
    · cases e
    · split at e
      · cases e
      · exact h16_bound M l _ v (by omega) e
theorem h16_some (M : Nat) : ∀ (l : List UInt8) (acc : Nat), (∃ v, h16 M acc l = .ok v) ∨ h16 M acc l = .range
  | [], acc => .inl ⟨acc, by unfold h16; rfl⟩
  | c :: l, acc => by
    unfold h16
    split
    · exact .inr rfl
    · split
      · exact .inr rfl
      · exact h16_some M l _
set_option maxRecDepth 4000 in
theorem lex_coded_eq (s : ByteArray) (hs : s.size ≤ 1000) (h2 : 2 ≤ s.size) (k : Nat) (hk : 2000 < k) : lex_coded.f k s = some (codedR s) := by
  obtain ⟨k, rfl⟩ : ∃ k', k = k' + 1 + 1 := ⟨k - 2, by omega⟩
  have hle := hexN_le s h2
  have hrun : lex_run.f (s.extract 2 s.size) 43 = some (hexN s : Int) := by
    unfold lex_run.f
    rw [if_pos (by rw [size_ext s 2 s.size (Nat.le_refl _)]; omega)]
    have e : headLen isHex (s.extract 2 s.size) = hexN s := by
      unfold headLen hexN
      have := L8_ext s 2 s.size
      unfold L8 at this
      rw [this, List.take_of_length_le (by rw [List.length_drop, Array.length_toList]; exact Nat.le_refl _)]
    simp [kindOf, e]
  have hw : wrap64 (2 + (hexN s : Int)) = ((2 + hexN s : Nat) : Int) := by rw [wrap_small (by omega) (by omega)]; omega
  have hw1 : wrap64 (((2 + hexN s : Nat) : Int) + 1) = ((2 + hexN s + 1 : Nat) : Int) := by rw [wrap_small (by omega) (by omega)]; omega
  unfold lex_coded.f codedR
  rw [if_pos (by omega), hrun, Option.bind_some, hw]
  by_cases h3 : s.size ≤ 2 + hexN s
  · rw [if_pos (by omega), if_pos h3]
    rw [lex_coded.j0]
    rw [if_pos rfl]
    rfl
  · rw [if_neg (by omega), if_neg h3, if_pos (by omega), if_pos (by omega)]
    by_cases h4 : bt s ((2 + hexN s : Nat) : Int) = 39
    · rw [if_neg (fun h => h h4)]
      have hb : (bt s ((2 + hexN s : Nat) : Int) != 39) = false := bne_eq_false_iff_eq.2 h4
      rw [hb]
      rw [lex_coded.j0]
      rw [if_neg (by simp), hw1, if_pos (by omega), if_pos (by omega), if_pos (by omega)]
      by_cases h5 : bt s 0 = 102
      · rw [if_pos h5, if_pos h5, if_pos (by omega), if_pos (by omega), Int.toNat_natCast, Int.toNat_natCast]
        have hdl : (s.extract 2 (2 + hexN s)).data.toList = digitsS s := by
          have := L8_ext s 2 (2 + hexN s)
          rw [show 2 + hexN s - 2 = hexN s from by omega, digits_eq] at this
          exact this
        have hsz : (s.extract 2 (2 + hexN s)).size = hexN s := by rw [size_ext _ _ _ (by omega)]; omega
        have hp : strconv_ParseUint.f (s.extract 2 (2 + hexN s)) 16 64 = ((if hexN s = 0 then some (0, some 0) else match h16 18446744073709551615 0 (digitsS s) with
            | .ok n => some ((n : Int), none)
            | .range => some (((18446744073709551615 : Nat) : Int), some 0)
            | _ => none) : Option (Int × Option Int)) := by
          unfold strconv_ParseUint.f
          rw [if_pos ⟨rfl, .inl rfl, by omega, by rw [hdl]; exact List.all_eq_true.2 (digits_all s)⟩, hdl, hsz, pmax64]
          rcases h16_some 18446744073709551615 (digitsS s) 0 with ⟨v, hv⟩ | hv <;> rw [hv]
        rw [hp]
        by_cases h6 : hexN s = 16
        · rw [if_neg (by omega), if_pos h6]
          rcases h16_some 18446744073709551615 (digitsS s) 0 with ⟨v, hv⟩ | hv
          · have hv2 := h16_bound _ _ _ _ (by omega) hv
            rw [hv]
            simp only [Option.bind_some]
            rw [if_pos (by omega), if_pos (show (none : Option Int).isNone = true from rfl)]
            unfold flo_Canon.f
            rw [if_pos (by omega), if_pos (by omega)]
            rfl
          · rw [hv]
            simp only [Option.bind_some]
            rw [if_pos (by omega), if_neg (by simp)]
            rfl
        · rw [if_neg h6]
          by_cases h7 : hexN s = 0
          · rw [if_pos h7]
            simp only [Option.bind_some]
            rw [if_neg (by omega)]
            rfl
          · rw [if_neg h7]
            rcases h16_some 18446744073709551615 (digitsS s) 0 with ⟨v, hv⟩ | hv
            · rw [hv]
              simp only [Option.bind_some]
              rw [if_neg (by omega)]
              rfl
            · rw [hv]
              simp only [Option.bind_some]
              rw [if_neg (by omega)]
              rfl
      · rw [if_neg h5, if_neg h5]
        have hm : Int.tmod (hexN s : Int) 2 = ((hexN s % 2 : Nat) : Int) := by rw [Int.tmod_eq_emod_of_nonneg (by omega)]; omega
        have hq : wrap64 (Int.tdiv (hexN s : Int) 2) = ((hexN s / 2 : Nat) : Int) := by rw [Int.tdiv_eq_ediv_of_nonneg (by omega), wrap_small (by omega) (by omega)]; omega
        rw [hm, hq, Int.toNat_natCast]
        by_cases h6 : hexN s % 2 = 1
        · rw [if_pos (by omega), if_pos (.inl h6)]
          rw [lex_coded.j1]
          rw [if_pos rfl]
          rfl
        · rw [if_neg (by omega)]
          rw [lex_coded.j1]
          by_cases h7 : 40 < hexN s / 2
          · rw [if_pos (decide_eq_true (by omega)), if_pos (.inr h7)]
            rfl
          · rw [if_neg (by rw [decide_eq_true_eq]; omega), if_neg (by omega)]
            have := pairs_loop s hs (2 + hexN s) (by omega) (by rw [show 2 + hexN s - 2 = hexN s from by omega, digits_eq]; exact digits_all s) 3 (s.extract 0 (2 + hexN s + 1)) 0 0 0 ⟨#[]⟩ 0 (hexN s / 2) k 2 [] (by omega) (by omega) (by simp) (by omega)
            rw [show 2 + hexN s - 2 = hexN s from by omega, digits_eq, hw1, List.nil_append] at this
            exact this
    · rw [if_pos h4]
      have hb : (bt s ((2 + hexN s : Nat) : Int) != 39) = true := bne_iff_ne.2 h4
      rw [hb]
      rw [lex_coded.j0]
      rw [if_pos rfl]
      rfl
end Go.Proofs.YtjehfmimbbdnkaaDoor.LexPure
namespace Go.Proofs.YtjehfmimbbdnkaaDoor.LexPure
open Go.RowKit Go.Proofs.YtjehfmimbbdnkaaDoorW.PrintWords Go.Proofs.YtjehfmimbbdnkaaDoorW.PrintLast Go.Proofs.YtjehfmimbbdnkaaDoorW.PrintMore
open Go.Proofs.YtjehfmimbbdnkaaDoor.L Go.Proofs.YtjehfmimbbdnkaaDoor
theorem index_any (l : List ByteArray) (s : ByteArray) (hl : l.length < 1000000) : ∀ (m k i : Nat), i + m = l.length → m < k →
    ∃ j, slices_Index_string_string.l0 k l s (l.length : Int) (i : Int) = some j ∧ decide (j ≥ 0) = (l.drop i).any (fun w => s.toList == w.toList)
  | 0, k + 1, i, h, _ => by
    obtain rfl : i = l.length := by omega
    refine ⟨-1, ?_, ?_⟩
    · simp [slices_Index_string_string.l0]
    · simp
  | m + 1, k + 1, i, h, hk => by
    obtain ⟨j, hj, ha⟩ := index_any l s hl m k (i + 1) (by omega) (by omega)
    have hi : i < l.length := by omega
    have hd : l.drop i = l[i] :: l.drop (i + 1) := List.drop_eq_getElem_cons hi
    have hr : rdOf ByteArray.empty l (i : Int) = l[i] := by simp [rdOf, List.getD, hi]
    unfold slices_Index_string_string.l0
    rw [if_pos (by omega), if_pos (by omega), if_pos (by omega), hr, hd]
    by_cases hs : s.toList = l[i].toList
    · rw [if_pos hs]
      exact ⟨_, rfl, by rw [List.any_cons, beq_iff_eq.mpr hs, Bool.true_or]; exact decide_eq_true (by omega)⟩
    · rw [if_neg hs, wrap_small (by omega) (by omega)]
      refine ⟨j, by simpa using hj, ?_⟩
      rw [ha, List.any_cons, beq_eq_false_iff_ne.mpr hs, Bool.false_or]
def isWord (s : ByteArray) : Bool := wordsL.any fun w => s.toList == w.toList
theorem lex_word (s : ByteArray) (k : Nat) (hk : 100 < k) : lex_Word.f k s = some (isWord s) := by
  have hl : wordsL.length = 32 := by decide +kernel
  obtain ⟨j, hj, ha⟩ := index_any wordsL s (by omega) wordsL.length k 0 (by omega) (by omega)
  have h1 : slices_Index_string_string.f k wordsL s = some j := by unfold slices_Index_string_string.f; simpa using hj
  unfold lex_Word.f lex_words.f slices_Contains_string_string.f
  simp only [Option.bind_some, h1, ha, List.drop_zero]
  rfl
def namN (s : ByteArray) : Nat := headLen isNam s
theorem headLen_le (p : UInt8 → Bool) (s : ByteArray) : headLen p s ≤ s.size := by
  have := (List.takeWhile_sublist (l := s.data.toList) p).length_le
  rw [Array.length_toList] at this
  exact this
def namedR (s : ByteArray) : Int × ByteArray × Int × Int × Int × ByteArray × Int × Int :=
  if 16 < namN s then (2, s.extract 0 (namN s), 0, 0, 0, ⟨#[]⟩, 0, 0)
  else if isWord (s.extract 0 (namN s)) = true then (1, s.extract 0 (namN s), 0, 0, 0, ⟨#[]⟩, 0, (namN s : Int))
  else (2, s.extract 0 (namN s), 0, 0, 0, ⟨#[]⟩, 0, (namN s : Int))
theorem lex_named_eq (s : ByteArray) (hs : s.size ≤ 1000) (k : Nat) (hk : 2000 < k) : lex_named.f k s = some (namedR s) := by
  have hle := headLen_le isNam s
  have hrun : lex_run.f s 46 = some (namN s : Int) := by
    unfold lex_run.f
    rw [if_pos (by omega)]
    rfl
  unfold namN at hrun
  unfold lex_named.f namedR namN
  rw [hrun, Option.bind_some, if_pos (by omega), if_pos (by omega), Int.toNat_natCast]
  by_cases h : 16 < headLen isNam s
  · rw [if_pos (by omega), if_pos h]
  · rw [if_neg (by omega), if_neg h, lex_word _ k (by omega), Option.bind_some]
    split <;> rfl
def signs : List UInt8 := [40, 41, 44, 59, 61, 60, 62, 43, 42]
def oneR (s : ByteArray) : Int × ByteArray × Int × Int × Int × ByteArray × Int × Int :=
  if (bt s 0 = 120 ∨ bt s 0 = 102) ∧ 1 < s.size ∧ bt s 1 = 39 then codedR s
  else if 97 ≤ bt s 0 ∧ bt s 0 ≤ 122 then namedR s
  else if (48 ≤ bt s 0 ∧ bt s 0 ≤ 57) ∨ bt s 0 = 45 then numR s
  else if bt s 0 = 39 then textR s [] 1 (textS ((L8 s).drop 1))
  else if signs.contains ((bt s 0).toNat.toUInt8) then (4, s.extract 0 1, 0, 0, 0, ⟨#[]⟩, 0, 1)
  else none8
theorem index_ge (c : UInt8) : ∀ l : List UInt8, -1 ≤ Lib.indexByte l c ∧ (0 ≤ Lib.indexByte l c ↔ l.contains c = true)
  | [] => by simp [Lib.indexByte]
  | b :: l => by
    obtain ⟨h1, h2⟩ := index_ge c l
    unfold Lib.indexByte
    by_cases h : b = c
    · subst h
      simp
    · rw [if_neg (by simpa using h)]
      have hc : (b :: l).contains c = l.contains c := by
        rw [List.contains_cons, show (c == b) = false from beq_eq_false_iff_ne.2 (fun e => h e.symm), Bool.false_or]
      rw [hc, ← h2]
      by_cases h3 : Lib.indexByte l c = -1
      · rw [if_pos (by simpa using h3)]
        omega
      · rw [if_neg (by simpa using h3)]
        omega
theorem one_j1 (s : ByteArray) (hs : s.size ≤ 1000) (h0 : 0 < s.size) (k : Nat) (hk : 2000 < k) (f : Bool) (hf : f = decide ((48 ≤ bt s 0 ∧ bt s 0 ≤ 57) ∨ bt s 0 = 45)) :
    lex_one.j1 (k + 1) s (bt s 0) f = some (if (48 ≤ bt s 0 ∧ bt s 0 ≤ 57) ∨ bt s 0 = 45 then numR s
      else if bt s 0 = 39 then textR s [] 1 (textS ((L8 s).drop 1))
      else if signs.contains ((bt s 0).toNat.toUInt8) then (4, s.extract 0 1, 0, 0, 0, ⟨#[]⟩, 0, 1)
      else none8) := by
  rw [lex_one.j1]
  by_cases h : (48 ≤ bt s 0 ∧ bt s 0 ≤ 57) ∨ bt s 0 = 45
  · rw [if_pos (by rw [hf]; exact decide_eq_true h), if_pos h]
    unfold lex_number.f
    rw [if_pos ⟨h0, hs⟩]
    generalize numR s = r
    rfl
  · rw [if_neg (by rw [hf, decide_eq_false h]; simp), if_neg h]
    by_cases h1 : bt s 0 = 39
    · rw [if_pos h1, if_pos h1, lex_text_eq s hs k hk]
      generalize textR s [] 1 (textS ((L8 s).drop 1)) = r
      rfl
    · rw [if_neg h1, if_neg h1]
      unfold strings_IndexByte.f
      rw [Option.bind_some, show (⟨#[40, 41, 44, 59, 61, 60, 62, 43, 42]⟩ : ByteArray).data.toList = signs from rfl]
      obtain ⟨_, h2⟩ := index_ge (bt s 0).toNat.toUInt8 signs
      by_cases h3 : signs.contains (bt s 0).toNat.toUInt8 = true
      · rw [if_pos h3, if_pos (show Lib.indexByte signs (bt s 0).toNat.toUInt8 ≥ 0 from h2.2 h3), if_pos (by omega), if_pos (by omega)]
      · rw [if_neg h3, if_neg (show ¬ Lib.indexByte signs (bt s 0).toNat.toUInt8 ≥ 0 from fun e => h3 (h2.1 e))]
        rfl
theorem one_j0 (s : ByteArray) (hs : s.size ≤ 1000) (h0 : 0 < s.size) (k : Nat) (hk : 2001 < k) (f : Bool) (hf : f = decide ((bt s 0 = 120 ∨ bt s 0 = 102) ∧ 1 < s.size ∧ bt s 1 = 39)) :
    lex_one.j0 (k + 1) s (bt s 0) f = some (oneR s) := by
  rw [lex_one.j0]
  unfold oneR
  by_cases h : (bt s 0 = 120 ∨ bt s 0 = 102) ∧ 1 < s.size ∧ bt s 1 = 39
  · rw [if_pos (by rw [hf]; exact decide_eq_true h), if_pos h, lex_coded_eq s hs (by omega) k (by omega)]
    generalize codedR s = r
    rfl
  · rw [if_neg (by rw [hf, decide_eq_false h]; simp), if_neg h]
    unfold lex_letter.f lex_digit.f
    by_cases h1 : 97 ≤ bt s 0 ∧ bt s 0 ≤ 122
    · rw [if_pos h1, if_pos (by omega), decide_eq_true h1.2, Option.bind_some, if_pos rfl, lex_named_eq s hs k (by omega)]
      generalize namedR s = r
      rfl
    · rw [if_neg h1]
      have e1 : (if bt s 0 ≥ 97 then some (decide (bt s 0 ≤ 122)) else some false) = some false := by
        split
        · rw [decide_eq_false (by omega)]
        · rfl
      rw [e1, Option.bind_some, if_neg (by simp)]
      obtain ⟨k, rfl⟩ : ∃ k', k = k' + 1 := ⟨k - 1, by omega⟩
      by_cases h2 : 48 ≤ bt s 0 ∧ bt s 0 ≤ 57
      · rw [if_pos (show bt s 0 ≥ 48 from h2.1), decide_eq_true h2.2, Option.bind_some, if_pos rfl]
        exact one_j1 s hs h0 k (by omega) true (by rw [decide_eq_true (.inl h2)])
      · have e2 : (if bt s 0 ≥ 48 then some (decide (bt s 0 ≤ 57)) else some false) = some false := by
          split
          · rw [decide_eq_false (by omega)]
          · rfl
        rw [e2, Option.bind_some, if_neg (by simp)]
        refine one_j1 s hs h0 k (by omega) _ ?_
        by_cases h3 : bt s 0 = 45
        · rw [decide_eq_true (.inr h3), h3]; rfl
        · rw [decide_eq_false (by omega), beq_eq_false_iff_ne.2 h3]
theorem lex_one_eq (s : ByteArray) (hs : s.size ≤ 1000) (h0 : 0 < s.size) (k : Nat) (hk : 2002 < k) : lex_one.f k s = some (oneR s) := by
  obtain ⟨k, rfl⟩ : ∃ k', k = k' + 1 := ⟨k - 1, by omega⟩
  have J := one_j0 s hs h0 k (by omega)
  unfold lex_one.f
  rw [if_pos (by omega)]
  by_cases h1 : bt s 0 = 120
  · rw [if_pos h1]
    by_cases h2 : 1 < s.size
    · rw [if_pos (by omega), if_pos (by omega)]
      refine J _ ?_
      by_cases h3 : bt s 1 = 39
      · rw [decide_eq_true ⟨.inl h1, h2, h3⟩, h3]; rfl
      · rw [decide_eq_false (fun e => h3 e.2.2), beq_eq_false_iff_ne.2 h3]
    · rw [if_neg (by omega)]
      exact J _ (by rw [decide_eq_false (fun e => h2 e.2.1)])
  · rw [if_neg h1]
    by_cases h1' : bt s 0 = 102
    · rw [if_pos h1']
      by_cases h2 : 1 < s.size
      · rw [if_pos (by omega), if_pos (by omega)]
        refine J _ ?_
        by_cases h3 : bt s 1 = 39
        · rw [decide_eq_true ⟨.inr h1', h2, h3⟩, h3]; rfl
        · rw [decide_eq_false (fun e => h3 e.2.2), beq_eq_false_iff_ne.2 h3]
      · rw [if_neg (by omega)]
        exact J _ (by rw [decide_eq_false (fun e => h2 e.2.1)])
    · rw [if_neg h1']
      exact J _ (by rw [decide_eq_false (fun e => e.1.elim h1 h1')])
end Go.Proofs.YtjehfmimbbdnkaaDoor.LexPure
set_option linter.unusedVariables false
namespace Go.Proofs.YtjehfmimbbdnkaaDoor.LexPure
open Go.RowKit Go.Proofs.YtjehfmimbbdnkaaDoorW.PrintWords Go.Proofs.YtjehfmimbbdnkaaDoorW.PrintLast Go.Proofs.YtjehfmimbbdnkaaDoorW.PrintMore
open Go.Proofs.YtjehfmimbbdnkaaDoor.L Go.Proofs.YtjehfmimbbdnkaaDoor
abbrev Tok9 := Int × ByteArray × Int × Int × Int × ByteArray × Int × Int × Bool
def none9 : Tok9 := (0, ⟨#[]⟩, 0, 0, 0, ⟨#[]⟩, 0, 0, false)
def Agree (p : Nat) (q : Tok9) (r : Tok8) : Prop :=
  (r.2.2.2.2.2.2.2 = 0 ∧ q.2.2.2.2.2.2.2.2 = false) ∨
  ∃ n : Nat, 0 < n ∧ r.2.2.2.2.2.2.2 = (n : Int) ∧ q = (r.1, r.2.1, r.2.2.1, r.2.2.2.1, r.2.2.2.2.1, r.2.2.2.2.2.1, (p : Int), ((p + n : Nat) : Int), true)
theorem agree_none (p : Nat) {q : Tok9} (h : q.2.2.2.2.2.2.2.2 = false) {r : Tok8} (hr : r.2.2.2.2.2.2.2 = 0) : Agree p q r := .inl ⟨hr, h⟩
theorem b256 (c : UInt8) : c.toNat < 256 := by have := c.toNat_lt; omega
theorem low_all : ∀ n : Nat, n < 256 → falseworkref16_low.f (n : Int) = some (isLow (UInt8.ofNat n)) := by decide +kernel
theorem digit_all : ∀ n : Nat, n < 256 → falseworkref16_digit.f (n : Int) = some (isDig (UInt8.ofNat n)) := by decide +kernel
theorem letter_all : ∀ n : Nat, n < 256 → falseworkref16_Letter.f (n : Int) = some (isNam (UInt8.ofNat n)) := by decide +kernel
theorem half_all : ∀ n : Nat, n < 256 → falseworkref16_half.f (n : Int) = some (if isHex (UInt8.ofNat n) = true then (hexVal (UInt8.ofNat n) : Int) else -1) := by decide +kernel
theorem low_f (c : UInt8) : falseworkref16_low.f (c.toNat : Int) = some (isLow c) := by have := low_all c.toNat (b256 c); rwa [UInt8.ofNat_toNat] at this
theorem digit_f (c : UInt8) : falseworkref16_digit.f (c.toNat : Int) = some (isDig c) := by have := digit_all c.toNat (b256 c); rwa [UInt8.ofNat_toNat] at this
theorem letter_f (c : UInt8) : falseworkref16_Letter.f (c.toNat : Int) = some (isNam c) := by have := letter_all c.toNat (b256 c); rwa [UInt8.ofNat_toNat] at this
theorem half_f (c : UInt8) : falseworkref16_half.f (c.toNat : Int) = some (if isHex c = true then (hexVal c : Int) else -1) := by have := half_all c.toNat (b256 c); rwa [UInt8.ofNat_toNat] at this
def wordsT : List (List UInt8) := wordsL.map ByteArray.toList
theorem chain (t : List UInt8) : ∀ l : List (List UInt8), l.foldr (fun w r => if t = w then some true else r) (some false) = some (l.any fun w => t == w)
  | [] => rfl
  | w :: l => by
    rw [List.foldr_cons, chain t l, List.any_cons]
    by_cases h : t = w
    · rw [if_pos h, beq_iff_eq.mpr h, Bool.true_or]
    · rw [if_neg h, beq_eq_false_iff_ne.mpr h, Bool.false_or]
theorem wordsT_eq : wordsT = [[105, 110, 115, 101, 114, 116], [105, 110, 116, 111], [118, 97, 108, 117, 101, 115], [117, 112, 100, 97, 116, 101], [115, 101, 116], [119, 104, 101, 114, 101], [97, 110, 100], [100, 101, 108, 101, 116, 101], [102, 114, 111, 109], [115, 101, 108, 101, 99, 116], [99, 114, 101, 97, 116, 101], [117, 110, 105, 113, 117, 101], [116, 97, 98, 108, 101], [105, 110, 100, 101, 120], [111, 110], [100, 114, 111, 112], [97, 108, 116, 101, 114], [97, 100, 100], [99, 111, 108, 117, 109, 110], [100, 101, 102, 97, 117, 108, 116], [110, 111, 116], [110, 117, 108, 108], [105, 115], [112, 114, 105, 109, 97, 114, 121], [107, 101, 121], [98, 111, 111, 108], [105, 110, 116], [102, 108, 111, 97, 116], [98, 121, 116, 101, 115], [116, 101, 120, 116], [116, 114, 117, 101], [102, 97, 108, 115, 101]] := by decide +kernel
theorem ref_word (s : ByteArray) : falseworkref16_Word.f s = some (isWord s) := by
  have h : isWord s = wordsT.any fun w => s.toList == w := by
    unfold isWord wordsT
    rw [List.any_map]
    rfl
  rw [h, ← chain, wordsT_eq]
  rfl
def nextR (s : ByteArray) (p e : Nat) : Tok9 := (if isWord (s.extract p e) = true then 1 else 2, s.extract p e, 0, 0, 0, ⟨#[]⟩, (p : Int), (e : Int), decide ((e : Int) - (p : Int) ≤ 16))
theorem next_fin (s : ByteArray) (hs : s.size ≤ 1000) (p e : Nat) (h1 : p ≤ e) (h2 : e ≤ s.size) :
    (if 0 ≤ (p : Int) then (if (p : Int) ≤ (e : Int) then (if (e : Int) ≤ (s.size : Int) then ((falseworkref16_Word.f (s.extract (p : Int).toNat (e : Int).toNat)).bind fun t => (if t = true then (some (1, s.extract (p : Int).toNat (e : Int).toNat, 0, 0, 0, (⟨#[]⟩ : ByteArray), (p : Int), (e : Int), decide ((wrap64 ((e : Int) - (p : Int))) ≤ 16))) else (some (2, s.extract (p : Int).toNat (e : Int).toNat, 0, 0, 0, (⟨#[]⟩ : ByteArray), (p : Int), (e : Int), decide ((wrap64 ((e : Int) - (p : Int))) ≤ 16))))) else (none)) else (none)) else (none) : Option Tok9) = some (nextR s p e) := by
  rw [if_pos (by omega), if_pos (by omega), if_pos (by omega), ref_word, Option.bind_some, wrap_small (by omega) (by omega)]
  simp only [Int.toNat_natCast, nextR]
  split <;> rfl
theorem next_l0 (s : ByteArray) (hs : s.size ≤ 1000) (p : Nat) : ∀ (m k j : Nat), j + m = s.size → p ≤ j → m < k →
    falseworkref16_next.l0 k s (p : Int) (j : Int) = some (nextR s p (j + (((L8 s).drop j).takeWhile isNam).length))
  | _, 0, _, _, _, hk => by omega
  | 0, k + 1, j, h, hp, hk => by
    have : (L8 s).drop j = [] := List.drop_eq_nil_of_le (by rw [L8_len]; omega)
    rw [this]
    unfold falseworkref16_next.l0
    rw [if_neg (by omega)]
    exact next_fin s hs p j hp (by omega)
  | m + 1, k + 1, j, h, hp, hk => by
    have hj : j < s.size := by omega
    have hw : wrap64 ((j : Int) + 1) = ((j + 1 : Nat) : Int) := by rw [wrap_small (by omega) (by omega)]; omega
    have hb := bt_L8 s j hj
    rw [drop_L8 s j hj]
    generalize (L8 s)[j]'(by rw [L8_len]; exact hj) = c at hb ⊢
    unfold falseworkref16_next.l0
    rw [if_pos (by omega), if_pos (by omega), hb, letter_f, Option.bind_some, List.takeWhile_cons]
    cases hc : isNam c with
    | true =>
      rw [if_pos rfl, if_pos rfl, hw, next_l0 s hs p m k (j + 1) (by omega) (by omega) (by omega)]
      congr 2
      simp
      omega
    | false =>
      rw [if_neg (show ¬ (false = true) by simp), if_neg (show ¬ (false = true) by simp)]
      exact next_fin s hs p j hp (by omega)
def quotedR (s : ByteArray) (p : Nat) (b : List Int) (i : Nat) : Option (List UInt8 × Nat) → Tok9
  | none => none9
  | some (l, n) => (3, s.extract p (i + n), 5, 0, 0, strOfNums (b ++ l.map fun c => (c.toNat : Int)), (p : Int), ((i + n : Nat) : Int), decide (((b.length + l.length : Nat) : Int) ≤ 40))
theorem quotedR_cons (s : ByteArray) (p : Nat) (b : List Int) (i n : Nat) (c : UInt8) (x : Option (List UInt8 × Nat)) :
    quotedR s p b i (x.map fun y => (c :: y.1, y.2 + n)) = quotedR s p (b ++ [(c.toNat : Int)]) (i + n) x := by
  cases x with
  | none => rfl
  | some y =>
    obtain ⟨l, m⟩ := y
    have e1 : b.length + (c :: l).length = (b ++ [(c.toNat : Int)]).length + l.length := by simp; omega
    have e2 : i + (m + n) = i + n + m := by omega
    simp only [Option.map_some, quotedR, e1, e2, List.map_cons, List.append_assoc, List.singleton_append]
theorem quoted_stop (k : Nat) (s : ByteArray) (p : Nat) (b : List Int) (i : Nat) (hs : s.size ≤ 1000) (hp : p < i) (hi : i < s.size) (hc : bt s (i : Int) = 39) :
    falseworkref16_quoted.j1 (k + 1) s (p : Int) b (i : Int) false = some (quotedR s p b i (some ([], 1))) := by
  have hw : wrap64 ((i : Int) + 1) = ((i + 1 : Nat) : Int) := by rw [wrap_small (by omega) (by omega)]; omega
  unfold falseworkref16_quoted.j1
  rw [if_neg (by simp), if_pos (by omega), if_pos (by omega), if_pos hc, hw, if_pos (by omega), if_pos (by omega), if_pos (by omega)]
  simp only [quotedR, List.length_nil, Nat.add_zero, List.map_nil, List.append_nil, Int.toNat_natCast]
theorem quoted_loop (s : ByteArray) (hs : s.size ≤ 1000) (p : Nat) : ∀ (m k i : Nat) (b : List Int), s.size ≤ i + m → p < i → b.length ≤ i → 2 * m < k →
    falseworkref16_quoted.l0 k s (p : Int) b (i : Int) = some (quotedR s p b i (textS ((L8 s).drop i)))
  | m, 0, i, b, h, h1, hb, hk => by omega
  | 0, k + 1, i, b, h, h1, hb, hk => by
    have : (L8 s).drop i = [] := List.drop_eq_nil_of_le (by rw [L8_len]; omega)
    rw [this]
    unfold falseworkref16_quoted.l0
    rw [if_neg (by omega)]
    rfl
  | m + 1, 1, i, b, h, h1, hb, hk => by omega
  | m + 1, k + 2, i, b, h, h1, hb, hk => by
    by_cases hi : i < s.size
    · have hw : wrap64 ((i : Int) + 1) = ((i + 1 : Nat) : Int) := by rw [wrap_small (by omega) (by omega)]; omega
      rw [drop_L8 s i hi]
      have hbi := bt_L8 s i hi
      generalize hc : (L8 s)[i]'(by rw [L8_len]; exact hi) = c at hbi ⊢
      unfold falseworkref16_quoted.l0
      rw [if_pos (by omega), if_pos (by omega)]
      by_cases hq : c = 39
      · subst hq
        have hbi' : bt s (i : Int) = 39 := hbi
        rw [if_pos hbi', hw]
        by_cases h2 : i + 1 < s.size
        · rw [if_pos (by omega), if_pos (by omega), drop_L8 s (i + 1) h2]
          have hbd := bt_L8 s (i + 1) h2
          generalize hd : (L8 s)[i + 1]'(by rw [L8_len]; exact h2) = d at hbd ⊢
          by_cases hq2 : d = 39
          · subst hq2
            have hbd' : bt s ((i + 1 : Nat) : Int) = 39 := hbd
            rw [hbd']
            have hw2 : wrap64 ((i : Int) + 2) = ((i + 2 : Nat) : Int) := by rw [wrap_small (by omega) (by omega)]; omega
            have e : textS (39 :: 39 :: (L8 s).drop (i + 1 + 1)) = (textS ((L8 s).drop (i + 2))).map fun x => (39 :: x.1, x.2 + 2) := by simp [textS]
            have ih := quoted_loop s hs p m k (i + 2) (b ++ [39]) (by clear hbd hbi hbd' hbi'; omega) (by clear hbd hbi hbd' hbi'; omega) (by clear hbd hbi hbd' hbi'; rw [List.length_append, List.length_singleton]; omega) (by clear hbd hbi hbd' hbi'; omega)
            have hq39 : (((39 : UInt8).toNat : Nat) : Int) = 39 := rfl
            rw [e, quotedR_cons, hq39, ← ih, show ((39 : Int) == 39) = true from rfl]
            unfold falseworkref16_quoted.j1
            rw [if_pos rfl, if_pos (len_small hs hi hb), hw2]
          · have hbd' : (bt s ((i + 1 : Nat) : Int) == 39) = false := by
              rw [hbd, beq_eq_false_iff_ne]
              intro hh
              exact hq2 (UInt8.toNat_inj.1 (by have : d.toNat = 39 := by omega
                                               exact this))
            rw [hbd', quoted_stop k s p b i hs h1 hi hbi']
            have e : textS (39 :: d :: (L8 s).drop (i + 1 + 1)) = some ([], 1) := by simp [textS, hq2]
            rw [e]
        · rw [if_neg (by omega), quoted_stop k s p b i hs h1 hi hbi']
          have e0 : (L8 s).drop (i + 1) = [] := List.drop_eq_nil_of_le (by rw [L8_len]; omega)
          rw [e0]
          simp [textS]
      · have hne : ¬ bt s (i : Int) = 39 := by
          rw [hbi]
          intro hh
          exact hq (UInt8.toNat_inj.1 (by have : c.toNat = 39 := by omega
                                          exact this))
        rw [if_neg hne]
        have e : textS (c :: (L8 s).drop (i + 1)) = if c < 32 ∨ 126 < c then none else (textS ((L8 s).drop (i + 1))).map fun x => (c :: x.1, x.2 + 1) := by
          rw [textS.eq_def]; simp only [if_neg hq]
        unfold falseworkref16_quoted.j1
        rw [if_neg (by simp), if_pos (by omega), if_pos (by omega), if_neg hne, e]
        have l1 : (c < 32) ↔ c.toNat < 32 := UInt8.lt_iff_toNat_lt
        have l2 : (126 < c) ↔ 126 < c.toNat := UInt8.lt_iff_toNat_lt
        by_cases h3 : c.toNat < 32
        · rw [if_pos (by omega), if_pos (.inl (l1.2 h3))]
          rfl
        · rw [if_neg (by omega)]
          by_cases h4 : 126 < c.toNat
          · rw [if_pos (by omega), if_pos (.inr (l2.2 h4))]
            rfl
          · rw [if_neg (by omega), if_pos (len_small hs hi hb), if_neg (by rw [l1, l2]; omega), quotedR_cons, hbi, hw]
            exact quoted_loop s hs p m k (i + 1) (b ++ [(c.toNat : Int)]) (by omega) (by omega) (by simp; omega) (by omega)
    · have : (L8 s).drop i = [] := List.drop_eq_nil_of_le (by rw [L8_len]; omega)
      rw [this]
      unfold falseworkref16_quoted.l0
      rw [if_neg (by omega)]
      rfl
end Go.Proofs.YtjehfmimbbdnkaaDoor.LexPure
set_option linter.unusedVariables false
namespace Go.Proofs.YtjehfmimbbdnkaaDoor.LexPure
open Go.RowKit Go.Proofs.YtjehfmimbbdnkaaDoorW.PrintWords Go.Proofs.YtjehfmimbbdnkaaDoorW.PrintLast Go.Proofs.YtjehfmimbbdnkaaDoorW.PrintMore
open Go.Proofs.YtjehfmimbbdnkaaDoor.L Go.Proofs.YtjehfmimbbdnkaaDoor
attribute [local irreducible] bt
theorem wrapU (n : Int) (h0 : 0 ≤ n) (h1 : n < 18446744073709551616) : IntKind.u64.wrap n = n := by
  simp only [IntKind.wrap, IntKind.bits, IntKind.signed]
  simp
  omega
theorem wraps64 (n : Int) (h0 : 0 ≤ n) (h1 : n < 2 ^ 64) : IntKind.u64.wrap n = n := wrapU n h0 (by omega)
theorem or8 (x y : Int) (hx : 0 ≤ x) (hm : x % 256 = 0) (hl : x < 18446744073709551616) (hy : 0 ≤ y) (hy1 : y < 256) : bits .or .u64 x y = x + y :=
  bits_join .u64 64 (by decide) wraps64 8 x y hx hm (by omega) hy hy1 (by omega)
theorem andNot_top (a : Nat) (h : a < 18446744073709551616) : bits .andNot .u64 (a : Int) 9223372036854775808 = ((a % 9223372036854775808 : Nat) : Int) := by
  show IntKind.u64.wrap ((BitVec.ofInt 64 (a : Int) &&& ~~~BitVec.ofInt 64 (9223372036854775808 : Int)).toNat : Int) = _
  have e1 : (~~~BitVec.ofInt 64 (9223372036854775808 : Int)).toNat = 2 ^ 63 - 1 := by decide +kernel
  have e2 : (BitVec.ofInt 64 (a : Int)).toNat = a := by
    rw [BitVec.toNat_ofInt]
    omega
  rw [BitVec.toNat_and, e1, e2, Nat.and_two_pow_sub_one_eq_mod]
  exact wrapU _ (by omega) (by omega)
theorem canon_eq (a : Nat) (h : a < 18446744073709551616) : falseworkref1_Canon.f (a : Int) = some (canonI (a : Int)) := by
  unfold falseworkref1_Canon.f canonI
  rw [andNot_top a h]
  have e : ((a % 9223372036854775808 : Nat) : Int) = (a : Int) % 9223372036854775808 := by omega
  rw [e]
  split
  · rfl
  · split <;> rfl
def num8 (l : List UInt8) (acc : Nat) : Nat := l.foldl (fun a c => a * 256 + c.toNat) acc
def numH (l : List UInt8) (acc : Nat) : Nat := l.foldl (fun a c => a * 16 + hexVal c) acc
theorem number_l0 (s : ByteArray) (hs : s.size = 8) : ∀ (m k i acc : Nat), i + m = 8 → acc < 256 ^ i → m < k →
    falseworkref2_Number.l0 k s (acc : Int) (i : Int) = some (num8 ((L8 s).drop i) acc : Int)
  | _, 0, _, _, _, _, hk => by omega
  | 0, k + 1, i, acc, h, ha, hk => by
    have : (L8 s).drop i = [] := List.drop_eq_nil_of_le (by rw [L8_len]; omega)
    rw [this]
    unfold falseworkref2_Number.l0
    rw [if_neg (by omega)]
    rfl
  | m + 1, k + 1, i, acc, h, ha, hk => by
    have hi : i < s.size := by omega
    have hw : wrap64 ((i : Int) + 1) = ((i + 1 : Nat) : Int) := by rw [wrap_small (by omega) (by omega)]; omega
    have hb := bt_L8 s i hi
    rw [drop_L8 s i hi]
    generalize (L8 s)[i]'(by rw [L8_len]; exact hi) = c at hb ⊢
    have hc := c.toNat_lt
    have hp : 256 ^ i ≤ 256 ^ 7 := Nat.pow_le_pow_right (by decide) (by omega)
    have hp7 : (256 : Nat) ^ 7 = 72057594037927936 := by decide
    have hq : 256 ^ (i + 1) = 256 ^ i * 256 := Nat.pow_succ ..
    unfold falseworkref2_Number.l0
    rw [if_pos (by omega), if_pos (by omega), if_pos (by omega), hb, hw, wrapU _ (by omega) (by omega), wrapU _ (by omega) (by omega), or8 _ _ (by omega) (by omega) (by omega) (by omega) (by omega)]
    have e : ((acc : Int) * 256 + (c.toNat : Int)) = ((acc * 256 + c.toNat : Nat) : Int) := by omega
    rw [e, number_l0 s hs m k (i + 1) (acc * 256 + c.toNat) (by omega) (by rw [hq]; omega) (by omega)]
    rfl
theorem pair_num : ∀ (n : Nat) (l : List UInt8) (acc : Nat), l.length = 2 * n → (∀ c ∈ l, isHex c = true) →
    num8 ((pairsS l).map fun x => UInt8.ofNat x.toNat) acc = numH l acc
  | 0, [], acc, _, _ => rfl
  | 0, _ :: _, _, h, _ => by simp at h
  | n + 1, [], _, h, _ => by simp at h
  | n + 1, [_], _, h, _ => by simp at h; omega
  | n + 1, a :: b :: l, acc, h, hh => by
    have ha := hexVal_lt (hh a (by simp))
    have hb := hexVal_lt (hh b (by simp))
    have e : (UInt8.ofNat ((16 * hexVal a + hexVal b : Nat) : Int).toNat).toNat = 16 * hexVal a + hexVal b := by
      rw [Int.toNat_natCast, UInt8.toNat_ofNat', Nat.mod_eq_of_lt (by omega)]
    have ih := pair_num n l (acc * 256 + (16 * hexVal a + hexVal b)) (by simp at h; omega) (fun c hc => hh c (by simp [hc]))
    unfold num8 numH at ih ⊢
    simp only [pairsS, List.map_cons, List.foldl_cons, e]
    rw [ih, show (acc * 16 + hexVal a) * 16 + hexVal b = acc * 256 + (16 * hexVal a + hexVal b) from by omega]
theorem pairs_len : ∀ (n : Nat) (l : List UInt8), l.length = 2 * n → (pairsS l).length = n
  | 0, [], _ => rfl
  | 0, _ :: _, h => by simp at h
  | n + 1, [], h => by simp at h
  | n + 1, [_], h => by simp at h; omega
  | n + 1, a :: b :: l, h => by
    simp only [pairsS, List.length_cons]
    rw [pairs_len n l (by simp at h; omega)]
theorem h16_ok : ∀ (l : List UInt8) (acc : Nat), (acc + 1) * 16 ^ l.length ≤ 18446744073709551616 → (∀ c ∈ l, isHex c = true) → h16 18446744073709551615 acc l = .ok (numH l acc) ∧ numH l acc < 18446744073709551616
  | [], acc, h, _ => ⟨by unfold h16; rfl, by simp at h; show acc < _; omega⟩
  | c :: l, acc, h, hh => by
    have hc := hexVal_lt (hh c (by simp))
    have hp : 0 < 16 ^ l.length := Nat.pow_pos (by decide)
    have hq : 16 ^ (c :: l).length = 16 * 16 ^ l.length := by rw [List.length_cons, Nat.pow_succ, Nat.mul_comm]
    rw [hq, ← Nat.mul_assoc] at h
    have h1 : (acc + 1) * 16 ≤ (acc + 1) * 16 * 16 ^ l.length := Nat.le_mul_of_pos_right _ hp
    have h2 : (acc * 16 + hexVal c + 1) * 16 ^ l.length ≤ (acc + 1) * 16 * 16 ^ l.length := Nat.mul_le_mul_right _ (by omega)
    obtain ⟨i1, i2⟩ := h16_ok l (acc * 16 + hexVal c) (by omega) (fun d hd => hh d (by simp [hd]))
    refine ⟨?_, i2⟩
    unfold h16
    rw [if_neg (by omega), if_neg (by omega), i1]
    rfl
def hexFin (s : ByteArray) (p : Nat) (b : List Int) (j : Nat) : Tok9 :=
  if s.size ≤ j then none9 else if bt s (j : Int) ≠ 39 then none9
  else if bt s (p : Int) = 120 then (3, s.extract p (j + 1), 4, 0, 0, strOfNums b, (p : Int), ((j + 1 : Nat) : Int), decide ((b.length : Int) ≤ 40))
  else if b.length = 8 then (3, s.extract p (j + 1), 3, 0, canonI (num8 (b.map fun x => UInt8.ofNat x.toNat) 0 : Int), ⟨#[]⟩, (p : Int), ((j + 1 : Nat) : Int), true)
  else none9
theorem num8_lt : ∀ (l : List UInt8) (acc : Nat), num8 l acc < (acc + 1) * 256 ^ l.length
  | [], acc => by simp [num8]
  | c :: l, acc => by
    have hc := c.toNat_lt
    have ih := num8_lt l (acc * 256 + c.toNat)
    have h2 : (acc * 256 + c.toNat + 1) * 256 ^ l.length ≤ (acc + 1) * 256 * 256 ^ l.length := Nat.mul_le_mul_right _ (by omega)
    have hq : 256 ^ (c :: l).length = 256 * 256 ^ l.length := by rw [List.length_cons, Nat.pow_succ, Nat.mul_comm]
    rw [hq, ← Nat.mul_assoc]
    exact Nat.lt_of_lt_of_le ih h2
theorem hex_j2 (s : ByteArray) (hs : s.size ≤ 1000) (p : Nat) (b : List Int) (j k : Nat) (hp : p < j) (hj : j < s.size) (hc : bt s (j : Int) = 39) (hk : 20 < k) :
    falseworkref16_hex.j2 (k + 1) s (p : Int) b (j : Int) false = some (hexFin s p b j) := by
  have hw : wrap64 ((j : Int) + 1) = ((j + 1 : Nat) : Int) := by rw [wrap_small (by omega) (by omega)]; omega
  rw [falseworkref16_hex.j2]
  unfold hexFin
  rw [if_neg (show ¬ (false = true) by simp), hw, if_pos (by omega), if_pos (by omega), if_pos (by omega), if_pos (by omega), if_neg (show ¬ (s.size ≤ j) by omega), if_neg (show ¬ (bt s (j : Int) ≠ 39) from fun h => h hc), Int.toNat_natCast, Int.toNat_natCast]
  by_cases h1 : bt s (p : Int) = 120
  · rw [if_pos h1, if_pos h1]
  · rw [if_neg h1, if_neg h1]
    by_cases h2 : b.length = 8
    · rw [if_pos (by omega), if_pos h2]
      have hz : (strOfNums b).size = 8 := by rw [strOfNums_size]; exact h2
      have hl : L8 (strOfNums b) = b.map fun x => UInt8.ofNat x.toNat := strOfNums_data b
      have hn := number_l0 (strOfNums b) hz 8 k 0 0 (by omega) (by decide) (by omega)
      rw [List.drop_zero, hl] at hn
      have hlt := num8_lt (b.map fun x => UInt8.ofNat x.toNat) 0
      rw [List.length_map, h2] at hlt
      unfold falseworkref2_Number.f
      have hn' : falseworkref2_Number.l0 k (strOfNums b) 0 0 = _ := hn
      rw [hn', Option.bind_some, canon_eq _ (by have e : (0 + 1) * 256 ^ 8 = 18446744073709551616 := by decide
                                                omega)]
      rfl
    · rw [if_neg (by omega), if_neg h2]
      rfl
theorem hex_j1 (s : ByteArray) (hs : s.size ≤ 1000) (p : Nat) (b : List Int) (j k : Nat) (hp : p < j) (hk : 30 < k) :
    falseworkref16_hex.j1 (k + 1) s (p : Int) b (j : Int) false = some (hexFin s p b j) := by
  obtain ⟨k, rfl⟩ : ∃ k', k = k' + 1 := ⟨k - 1, by omega⟩
  rw [falseworkref16_hex.j1]
  rw [if_neg (show ¬ (false = true) by simp)]
  by_cases h1 : s.size ≤ j
  · rw [if_pos (by omega)]
    rw [falseworkref16_hex.j2]
    unfold hexFin
    rw [if_pos rfl, if_pos h1]
    rfl
  · rw [if_neg (by omega), if_pos (by omega), if_pos (by omega)]
    by_cases h2 : bt s (j : Int) = 39
    · rw [bne_eq_false_iff_eq.2 h2]
      exact hex_j2 s hs p b j k hp (by omega) h2 (by omega)
    · rw [bne_iff_ne.2 h2]
      rw [falseworkref16_hex.j2]
      unfold hexFin
      rw [if_pos rfl, if_neg h1, if_pos h2]
      rfl
theorem mod_hex (x y : Nat) (hx : x < 16) (hy : y < 16) : (16 * (x : Int) + (y : Int)) % 256 = ((16 * x + y : Nat) : Int) := by omega
def hexRun (s : ByteArray) (j : Nat) : Nat := (((L8 s).drop j).takeWhile isHex).length
theorem hex_l0 (s : ByteArray) (hs : s.size ≤ 1000) (p : Nat) : ∀ (m k j : Nat) (b : List Int), s.size ≤ j + m → p < j → j ≤ s.size + 2 → b.length ≤ j → 2 * m + 100 < k →
    falseworkref16_hex.l0 k s (p : Int) b (j : Int) = some (hexFin s p (b ++ pairsS (((L8 s).drop j).take (2 * (hexRun s j / 2)))) (j + 2 * (hexRun s j / 2)))
  | _, 0, _, _, _, _, _, _, hk => by omega
  | _, 1, _, _, _, _, _, _, hk => by omega
  | m, k + 2, j, b, h, hp, hjs, hb, hk => by
    have hw : wrap64 ((j : Int) + 1) = ((j + 1 : Nat) : Int) ∨ s.size ≤ j := by
      by_cases hj : s.size ≤ j
      · exact .inr hj
      · exact .inl (by rw [wrap_small (by omega) (by omega)]; omega)
    have stop : hexRun s j / 2 = 0 → falseworkref16_hex.j1 (k + 1) s (p : Int) b (j : Int) false = some (hexFin s p (b ++ pairsS (((L8 s).drop j).take (2 * (hexRun s j / 2)))) (j + 2 * (hexRun s j / 2))) := by
      intro h0
      rw [hex_j1 s hs p b j k hp (by omega), h0]
      simp [pairsS]
    unfold falseworkref16_hex.l0
    by_cases hj : j + 1 < s.size
    · have hw : wrap64 ((j : Int) + 1) = ((j + 1 : Nat) : Int) := by rcases hw with hw | hw <;> omega
      have d1 := drop_L8 s j (by omega)
      have d2 := drop_L8 s (j + 1) (by omega)
      have b1 := bt_L8 s j (by omega)
      have b2 := bt_L8 s (j + 1) (by omega)
      generalize (L8 s)[j]'(by rw [L8_len]; omega) = a at d1 b1
      generalize (L8 s)[j + 1]'(by rw [L8_len]; omega) = c at d2 b2
      replace b1 := Aside0.mk b1
      replace b2 := Aside0.mk b2
      rw [hw, if_pos (by omega), if_pos (by omega), if_pos (by omega), b1.out, half_f, Option.bind_some]
      cases hxa : isHex a with
      | false =>
        rw [if_neg (show ¬ (false = true) by simp), if_neg (by omega)]
        exact stop (by unfold hexRun; rw [d1]; simp [hxa])
      | true =>
        rw [if_pos rfl, if_pos (by omega), if_pos (by omega), b2.out, half_f, Option.bind_some]
        cases hxc : isHex c with
        | false =>
          rw [if_neg (show ¬ (false = true) by simp), decide_eq_false (by omega)]
          exact stop (by unfold hexRun; rw [d1, d2]; simp [hxa, hxc])
        | true =>
          have va := hexVal_lt hxa
          have vc := hexVal_lt hxc
          rw [if_pos rfl, decide_eq_true (by omega)]
          obtain ⟨m, rfl⟩ : ∃ m', m = m' + 2 := ⟨m - 2, by omega⟩
          have hw2 : wrap64 ((j : Int) + 2) = ((j + 2 : Nat) : Int) := by rw [wrap_small (by omega) (by omega)]; omega
          have w1 : wrap64 (16 * (hexVal a : Int)) = 16 * (hexVal a : Int) := wrap_small (by omega) (by omega)
          have w2 : wrap64 (16 * (hexVal a : Int) + (hexVal c : Int)) = 16 * (hexVal a : Int) + (hexVal c : Int) := wrap_small (by omega) (by omega)
          have ih := hex_l0 s hs p m k (j + 2) (b ++ [(16 * (hexVal a : Int) + (hexVal c : Int)) % 256]) (by omega) (by omega) (by omega) (by rw [List.length_append, List.length_singleton]; omega) (by omega)
          rw [falseworkref16_hex.j1]
          rw [if_pos rfl, if_pos (by omega), if_pos (by omega), b1.out, half_f, Option.bind_some, hw, if_pos (by omega), if_pos (by omega), b2.out, half_f, Option.bind_some, if_pos (by omega), hw2, hxa, hxc, if_pos rfl, if_pos rfl, w1, w2, ih]
          have hr : hexRun s j = hexRun s (j + 2) + 2 := by
            unfold hexRun
            rw [d1, d2, List.takeWhile_cons, if_pos hxa, List.takeWhile_cons, if_pos hxc]
            rfl
          have hr2 : hexRun s j / 2 = hexRun s (j + 2) / 2 + 1 := by omega
          rw [hr2, d1, d2, show 2 * (hexRun s (j + 2) / 2 + 1) = 2 * (hexRun s (j + 2) / 2) + 1 + 1 from by omega, List.take_succ_cons, List.take_succ_cons]
          have hv : (16 * (hexVal a : Int) + (hexVal c : Int)) % 256 = ((16 * hexVal a + hexVal c : Nat) : Int) := mod_hex _ _ va vc
          rw [hv]
          simp only [pairsS, List.append_assoc, List.singleton_append]
          congr 2
          omega
    · have hnot : ¬ wrap64 ((j : Int) + 1) < (s.size : Int) := by
        rcases hw with hw | hw
        · omega
        · unfold wrap64; omega
      rw [if_neg hnot]
      refine stop ?_
      have : hexRun s j ≤ ((L8 s).drop j).length := (List.takeWhile_sublist _).length_le
      rw [List.length_drop, L8_len] at this
      omega
end Go.Proofs.YtjehfmimbbdnkaaDoor.LexPure
set_option linter.unusedVariables false
namespace Go.Proofs.YtjehfmimbbdnkaaDoor.LexPure
open Go.RowKit Go.Proofs.YtjehfmimbbdnkaaDoorW.PrintWords Go.Proofs.YtjehfmimbbdnkaaDoorW.PrintLast Go.Proofs.YtjehfmimbbdnkaaDoorW.PrintMore
open Go.Proofs.YtjehfmimbbdnkaaDoor.L Go.Proofs.YtjehfmimbbdnkaaDoor
def decN (l : List UInt8) (acc : Nat) : Nat := l.foldl (fun a c => a * 10 + (c.toNat - 48)) acc
theorem decN_ge : ∀ (l : List UInt8) (acc : Nat), acc ≤ decN l acc
  | [], acc => Nat.le_refl _
  | c :: l, acc => by
    have := decN_ge l (acc * 10 + (c.toNat - 48))
    show acc ≤ decN l (acc * 10 + (c.toNat - 48))
    omega
theorem isDig_iff (c : UInt8) : isDig c = true ↔ 48 ≤ c.toNat ∧ c.toNat ≤ 57 := by
  unfold isDig
  rw [Bool.and_eq_true, decide_eq_true_eq, decide_eq_true_eq, UInt8.le_iff_toNat_le, UInt8.le_iff_toNat_le]
  rfl
theorem parseM_dig : ∀ (l : List UInt8) (acc : Nat), acc ≤ 18446744073709551615 → (∀ c ∈ l, isDig c = true) →
    Lib.parseUintM 18446744073709551615 acc l = if decN l acc ≤ 18446744073709551615 then .ok (decN l acc) else .range
  | [], acc, h, _ => by
    unfold Lib.parseUintM
    rw [if_pos (show decN [] acc ≤ _ from h)]
    rfl
  | c :: l, acc, h, hh => by
    have hc := (isDig_iff c).1 (hh c (by simp))
    have hg := decN_ge l (acc * 10 + (c.toNat - 48))
    have he : decN (c :: l) acc = decN l (acc * 10 + (c.toNat - 48)) := rfl
    unfold Lib.parseUintM
    rw [if_pos hc, he]
    by_cases h1 : 1844674407370955162 ≤ acc
    · rw [if_pos h1, if_neg (by omega)]
    · rw [if_neg h1]
      by_cases h2 : 18446744073709551615 < acc * 10 + (c.toNat - 48)
      · rw [if_pos h2, if_neg (by omega)]
      · rw [if_neg h2, parseM_dig l _ (by omega) (fun d hd => hh d (by simp [hd]))]
def numBadR (s : ByteArray) (j : Nat) (minus : Bool) (from_ acc : Nat) : Bool :=
  decide (j = from_) || ((decide (from_ + 1 < j) && decide (bt s (from_ : Int) = 48)) || ((minus && decide (acc = 0)) || ((!minus && decide (acc = 9223372036854775808)) || (decide (j < s.size) && (isLow (byteAt s j) || byteAt s j == 95)))))
def numFin (s : ByteArray) (p j : Nat) (minus : Bool) (from_ acc : Nat) : Tok9 :=
  if numBadR s j minus from_ acc = true then none9 else (3, s.extract p j, 2, if minus = true then -(acc : Int) else (acc : Int), 0, ⟨#[]⟩, (p : Int), (j : Int), true)
theorem bt_byteAt (s : ByteArray) (j : Nat) (h : j < s.size) : bt s (j : Int) = ((byteAt s j).toNat : Int) := by
  rw [bt_L8 s j h]
  unfold byteAt L8
  rw [List.getD_eq_getElem?_getD, List.getElem?_eq_getElem (by simpa using h)]
  rfl
theorem num_j3 (s : ByteArray) (p j k : Nat) (minus : Bool) (from_ acc : Nat) (hp : p ≤ j) (hj : j ≤ s.size) (ha : acc ≤ 9223372036854775808) (hn : minus = false → acc ≠ 9223372036854775808) :
    falseworkref16_number.j3 (k + 1) s (p : Int) (j : Int) minus (-(acc : Int)) false = some (3, s.extract p j, 2, if minus = true then -(acc : Int) else (acc : Int), 0, ⟨#[]⟩, (p : Int), (j : Int), true) := by
  rw [falseworkref16_number.j3, if_neg (show ¬ (false = true) by simp)]
  cases minus with
  | true => rw [if_pos rfl, if_pos (show (0 : Int) ≤ (p : Int) by omega), if_pos (show (p : Int) ≤ (j : Int) by omega), if_pos (show (j : Int) ≤ (s.size : Int) by omega), Int.toNat_natCast, Int.toNat_natCast, if_pos rfl]
  | false =>
    have := hn rfl
    rw [if_neg (show ¬ (false = true) by simp), if_pos (show (0 : Int) ≤ (p : Int) by omega), if_pos (show (p : Int) ≤ (j : Int) by omega), if_pos (show (j : Int) ≤ (s.size : Int) by omega), Int.toNat_natCast, Int.toNat_natCast, if_neg (show ¬ (false = true) by simp), Int.neg_neg, wrap_small (by omega) (by omega)]
theorem num_j3t (s : ByteArray) (p j k : Nat) (minus : Bool) (n : Int) : falseworkref16_number.j3 (k + 1) s (p : Int) (j : Int) minus n true = some none9 := by
  rw [falseworkref16_number.j3]
  rw [if_pos rfl]
  rfl
theorem num_tail (s : ByteArray) (hs : s.size ≤ 1000) (p j k : Nat) (minus : Bool) (from_ acc : Nat) (hp : p ≤ j) (hj : j ≤ s.size) (ha : acc ≤ 9223372036854775808)
    (h1 : j ≠ from_) (h2 : ¬ (from_ + 1 < j ∧ bt s (from_ : Int) = 48)) (h3 : minus = true → acc ≠ 0) (h4 : minus = false → acc ≠ 9223372036854775808) :
    (if (j : Int) < (s.size : Int) then (if 0 ≤ (j : Int) then ((falseworkref16_low.f (bt s (j : Int))).bind fun t => (if t = true then (falseworkref16_number.j3 (k + 1) s (p : Int) (j : Int) minus (-(acc : Int)) true) else (falseworkref16_number.j3 (k + 1) s (p : Int) (j : Int) minus (-(acc : Int)) ((bt s (j : Int)) == 95)))) else (none)) else (falseworkref16_number.j3 (k + 1) s (p : Int) (j : Int) minus (-(acc : Int)) false)) = some (numFin s p j minus from_ acc) := by
  have hb : numBadR s j minus from_ acc = (decide (j < s.size) && (isLow (byteAt s j) || byteAt s j == 95)) := by
    unfold numBadR
    rw [decide_eq_false h1, Bool.false_or]
    have e2 : (decide (from_ + 1 < j) && decide (bt s (from_ : Int) = 48)) = false := by
      rw [← Bool.decide_and]; exact decide_eq_false h2
    rw [e2, Bool.false_or]
    cases minus with
    | true => rw [decide_eq_false (h3 rfl)]; simp
    | false => rw [decide_eq_false (h4 rfl)]; simp
  unfold numFin
  rw [hb]
  by_cases h5 : j < s.size
  · rw [if_pos (by omega), if_pos (by omega), bt_byteAt s j h5, low_f, Option.bind_some, decide_eq_true h5, Bool.true_and]
    have he := b_eq (x := byteAt s j) (k := 95) (by decide)
    cases hl : isLow (byteAt s j) with
    | true => rw [if_pos rfl, num_j3t]; rfl
    | false =>
      rw [if_neg (show ¬ (false = true) by simp), Bool.false_or]
      have he' : (((byteAt s j).toNat : Int) == 95) = (byteAt s j == 95) := he
      rw [he']
      cases hq : byteAt s j == 95 with
      | true => rw [num_j3t]; rfl
      | false => rw [num_j3 s p j k minus from_ acc hp hj ha h4]; rfl
  · rw [if_neg (by omega), decide_eq_false h5, Bool.false_and, num_j3 s p j k minus from_ acc hp hj ha h4]
    rfl
theorem num_end (s : ByteArray) (hs : s.size ≤ 1000) (p j k : Nat) (minus : Bool) (from_ acc : Nat) (hp : p ≤ j) (hj : j ≤ s.size) (hf : from_ ≤ j) (ha : acc ≤ 9223372036854775808) :
    falseworkref16_number.j2 (k + 2) s (p : Int) (j : Int) minus (from_ : Int) (-(acc : Int)) false = some (numFin s p j minus from_ acc) := by
  have hw : wrap64 ((from_ : Int) + 1) = ((from_ + 1 : Nat) : Int) := by rw [wrap_small (by omega) (by omega)]; omega
  have bad : numBadR s j minus from_ acc = true → falseworkref16_number.j3 (k + 1) s (p : Int) (j : Int) minus (-(acc : Int)) true = some (numFin s p j minus from_ acc) := by
    intro h
    rw [num_j3t]
    unfold numFin
    rw [if_pos h]
  have T := num_tail s hs p j k minus from_ acc hp hj ha
  rw [falseworkref16_number.j2]
  rw [if_neg (show ¬ (false = true) by simp)]
  by_cases h1 : j = from_
  · rw [if_pos (by omega)]
    exact bad (by unfold numBadR; rw [decide_eq_true h1]; rfl)
  · rw [if_neg (by omega), hw]
    have mid : ¬ (from_ + 1 < j ∧ bt s (from_ : Int) = 48) → (if minus = true then (if (-(acc : Int)) = 0 then (falseworkref16_number.j3 (k + 1) s (p : Int) (j : Int) minus (-(acc : Int)) true) else (if (j : Int) < (s.size : Int) then (if 0 ≤ (j : Int) then ((falseworkref16_low.f (bt s (j : Int))).bind fun t => (if t = true then (falseworkref16_number.j3 (k + 1) s (p : Int) (j : Int) minus (-(acc : Int)) true) else (falseworkref16_number.j3 (k + 1) s (p : Int) (j : Int) minus (-(acc : Int)) ((bt s (j : Int)) == 95)))) else (none)) else (falseworkref16_number.j3 (k + 1) s (p : Int) (j : Int) minus (-(acc : Int)) false))) else (if (-(acc : Int)) = (-9223372036854775808) then (falseworkref16_number.j3 (k + 1) s (p : Int) (j : Int) minus (-(acc : Int)) true) else (if (j : Int) < (s.size : Int) then (if 0 ≤ (j : Int) then ((falseworkref16_low.f (bt s (j : Int))).bind fun t => (if t = true then (falseworkref16_number.j3 (k + 1) s (p : Int) (j : Int) minus (-(acc : Int)) true) else (falseworkref16_number.j3 (k + 1) s (p : Int) (j : Int) minus (-(acc : Int)) ((bt s (j : Int)) == 95)))) else (none)) else (falseworkref16_number.j3 (k + 1) s (p : Int) (j : Int) minus (-(acc : Int)) false)))) = some (numFin s p j minus from_ acc) := by
      intro h2
      cases minus with
      | true =>
        rw [if_pos rfl]
        by_cases h3 : acc = 0
        · rw [if_pos (by omega)]
          exact bad (by unfold numBadR; rw [decide_eq_true h3]; simp)
        · rw [if_neg (by omega)]
          exact T h1 h2 (fun _ => h3) (fun h => by cases h)
      | false =>
        rw [if_neg (show ¬ (false = true) by simp)]
        by_cases h3 : acc = 9223372036854775808
        · rw [if_pos (by omega)]
          exact bad (by unfold numBadR; rw [decide_eq_true h3]; simp)
        · rw [if_neg (by omega)]
          exact T h1 h2 (fun h => by cases h) (fun _ => h3)
    by_cases h2 : from_ + 1 < j
    · rw [if_pos (by omega), if_pos (by omega), if_pos (by omega)]
      by_cases h3 : bt s (from_ : Int) = 48
      · rw [if_pos h3]
        exact bad (by unfold numBadR; rw [decide_eq_true h2, decide_eq_true h3]; simp)
      · rw [if_neg h3]
        exact mid (fun h => h3 h.2)
    · rw [if_neg (by omega)]
      exact mid (fun h => h2 h.1)
theorem quot_d (d : Nat) (h : d ≤ 9) : wrap64 (Int.tdiv ((-9223372036854775808) + (d : Int)) 10) = if d = 9 then -922337203685477579 else -922337203685477580 := by
  have : d = 0 ∨ d = 1 ∨ d = 2 ∨ d = 3 ∨ d = 4 ∨ d = 5 ∨ d = 6 ∨ d = 7 ∨ d = 8 ∨ d = 9 := by omega
  rcases this with rfl | rfl | rfl | rfl | rfl | rfl | rfl | rfl | rfl | rfl <;> decide +kernel
def digRun (s : ByteArray) (j : Nat) : List UInt8 := ((L8 s).drop j).takeWhile isDig
theorem num_l0 (s : ByteArray) (hs : s.size ≤ 1000) (p : Nat) (minus : Bool) (from_ : Nat) : ∀ (m k j acc : Nat), s.size = j + m → p ≤ j → from_ ≤ j → acc ≤ 9223372036854775808 → 2 * m + 10 < k →
    falseworkref16_number.l0 k s (p : Int) (j : Int) minus (from_ : Int) (-(acc : Int)) = some (if decN (digRun s j) acc ≤ 9223372036854775808 then numFin s p (j + (digRun s j).length) minus from_ (decN (digRun s j) acc) else none9)
  | _, 0, _, _, _, _, _, _, hk => by omega
  | _, 1, _, _, _, _, _, _, hk => by omega
  | _, 2, _, _, _, _, _, _, hk => by omega
  | 0, k + 3, j, acc, h, hp, hf, ha, hk => by
    have : digRun s j = [] := by unfold digRun; rw [List.drop_eq_nil_of_le (by rw [L8_len]; omega)]; rfl
    rw [this]
    unfold falseworkref16_number.l0
    rw [if_neg (by omega), num_end s hs p j k minus from_ acc hp (by omega) hf ha, if_pos (show decN [] acc ≤ _ from ha)]
    rfl
  | m + 1, k + 3, j, acc, h, hp, hf, ha, hk => by
    have hj : j < s.size := by omega
    have hw : wrap64 ((j : Int) + 1) = ((j + 1 : Nat) : Int) := by rw [wrap_small (by omega) (by omega)]; omega
    have hb := bt_L8 s j hj
    have hd : digRun s j = if isDig ((L8 s)[j]'(by rw [L8_len]; exact hj)) = true then (L8 s)[j]'(by rw [L8_len]; exact hj) :: digRun s (j + 1) else [] := by
      unfold digRun
      rw [drop_L8 s j hj, List.takeWhile_cons]
    rw [hd]
    generalize (L8 s)[j]'(by rw [L8_len]; exact hj) = c at hb ⊢
    unfold falseworkref16_number.l0
    rw [if_pos (by omega), if_pos (by omega), hb, digit_f, Option.bind_some]
    cases hc : isDig c with
    | false =>
      rw [if_neg (show ¬ (false = true) by simp), num_end s hs p j k minus from_ acc hp (by omega) hf ha, if_pos (show decN [] acc ≤ _ from ha)]
      rfl
    | true =>
      have hcd := (isDig_iff c).1 hc
      have he : decN (c :: digRun s (j + 1)) acc = decN (digRun s (j + 1)) (acc * 10 + (c.toNat - 48)) := rfl
      have hg := decN_ge (digRun s (j + 1)) (acc * 10 + (c.toNat - 48))
      rw [if_pos rfl, he]
      rw [falseworkref16_number.j2]
      have ed : ((c.toNat : Int) - 48) % 256 = ((c.toNat - 48 : Nat) : Int) := by omega
      rw [if_pos rfl, if_pos (by omega), if_pos (by omega), hb, ed, quot_d _ (by omega)]
      generalize hdv : c.toNat - 48 = d at hg ⊢
      have hd9 : d ≤ 9 := by omega
      have go : acc * 10 + d ≤ 9223372036854775808 → falseworkref16_number.l0 (k + 1) s (p : Int) (wrap64 ((j : Int) + 1)) minus (from_ : Int) (wrap64 ((wrap64 (10 * (-(acc : Int)))) - (d : Int))) =
          some (if decN (digRun s (j + 1)) (acc * 10 + d) ≤ 9223372036854775808 then numFin s p (j + (c :: digRun s (j + 1)).length) minus from_ (decN (digRun s (j + 1)) (acc * 10 + d)) else none9) := by
        intro hle
        rw [hw, wrap_small (i := 10 * (-(acc : Int))) (by omega) (by omega), wrap_small (by omega) (by omega), show 10 * (-(acc : Int)) - (d : Int) = -((acc * 10 + d : Nat) : Int) from by omega,
          num_l0 s hs p minus from_ m (k + 1) (j + 1) (acc * 10 + d) (by omega) (by omega) (by omega) hle (by omega)]
        rw [show j + 1 + (digRun s (j + 1)).length = j + (c :: digRun s (j + 1)).length from by simp; omega]
      by_cases h9 : d = 9
      · rw [if_pos h9]
        by_cases h1 : -(acc : Int) < -922337203685477579
        · rw [if_pos h1, if_neg (by omega)]
          rfl
        · rw [if_neg h1]
          by_cases h2 : -(acc : Int) = -922337203685477579
          · rw [if_pos h2, if_neg (by rw [wrap_small (i := 10 * (-(acc : Int))) (by omega) (by omega), wrap_small (by omega) (by omega)]; omega)]
            exact go (by omega)
          · rw [if_neg h2]
            exact go (by omega)
      · rw [if_neg h9]
        by_cases h1 : -(acc : Int) < -922337203685477580
        · rw [if_pos h1, if_neg (by omega)]
          rfl
        · rw [if_neg h1]
          by_cases h2 : -(acc : Int) = -922337203685477580
          · rw [if_pos h2, if_neg (by rw [wrap_small (i := 10 * (-(acc : Int))) (by omega) (by omega), wrap_small (by omega) (by omega)]; omega)]
            exact go (by omega)
          · rw [if_neg h2]
            exact go (by omega)
end Go.Proofs.YtjehfmimbbdnkaaDoor.LexPure
namespace Go.Proofs.YtjehfmimbbdnkaaDoor.LexPure
open Go.RowKit Go.Proofs.YtjehfmimbbdnkaaDoorW.PrintWords Go.Proofs.YtjehfmimbbdnkaaDoorW.PrintLast Go.Proofs.YtjehfmimbbdnkaaDoorW.PrintMore
open Go.Proofs.YtjehfmimbbdnkaaDoor.L Go.Proofs.YtjehfmimbbdnkaaDoor
def blankAt (s : ByteArray) (i : Nat) : Bool := bt s (i : Int) == 32 || (bt s (i : Int) == 9 || bt s (i : Int) == 10)
def tokAt (s : ByteArray) (i : Nat) : Int × ByteArray × Int × Int × Int × ByteArray × Int × Int := oneR (s.extract i s.size)
def tokOf (r : Int × ByteArray × Int × Int × Int × ByteArray × Int × Int) (i : Nat) : S39 := ⟨r.1, r.2.1, ⟨r.2.2.1, r.2.2.2.1, r.2.2.2.2.1, r.2.2.2.2.2.1⟩, (i : Int)⟩
def endTok (s : ByteArray) : S39 := ⟨0, ⟨#[]⟩, ⟨0, 0, 0, ⟨#[]⟩⟩, (s.size : Int)⟩
def lexT (s : ByteArray) : Nat → Nat → Int → Except Nat (List S39)
  | 0, _, _ => .ok []
  | m + 1, i, nx =>
    if (i : Int) < nx ∨ blankAt s i = true then lexT s m (i + 1) nx
    else if (tokAt s i).2.2.2.2.2.2.2 = 0 then .error i
    else match lexT s m (i + 1) (wrap64 ((i : Int) + (tokAt s i).2.2.2.2.2.2.2)) with
      | .ok l => .ok (tokOf (tokAt s i) i :: l)
      | .error e => .error e
theorem lexT_skip (s : ByteArray) (m i : Nat) (nx : Int) (h : (i : Int) < nx ∨ blankAt s i = true) : lexT s (m + 1) i nx = lexT s m (i + 1) nx := by
  rw [lexT, if_pos h]
theorem lexT_go (s : ByteArray) (m i : Nat) (nx : Int) (h : ¬ ((i : Int) < nx ∨ blankAt s i = true)) : lexT s (m + 1) i nx =
    if (tokAt s i).2.2.2.2.2.2.2 = 0 then .error i
    else match lexT s m (i + 1) (wrap64 ((i : Int) + (tokAt s i).2.2.2.2.2.2.2)) with
      | .ok l => .ok (tokOf (tokAt s i) i :: l)
      | .error e => .error e := by
  rw [lexT, if_neg h]
def lexR (s : ByteArray) (acc : List S39) : Except Nat (List S39) → (List S39) × Int × Int
  | .ok l => (acc ++ l ++ [endTok s], 0, 0)
  | .error e => ([], (e : Int), 3)
theorem lex_loop (s : ByteArray) (hs : s.size ≤ 400) : ∀ (m k i : Nat) (acc : List S39) (nx : Int), i + m = s.size → acc.length ≤ i → 2 * m + 3000 < k →
    lex_Lex.l0 k s acc nx (s.size : Int) (i : Int) = some (lexR s acc (lexT s m i nx))
  | 0, k + 1, i, acc, nx, h, ha, hk => by
    unfold lex_Lex.l0
    rw [if_neg (by omega), if_pos (by omega)]
    simp only [lexT, lexR, List.append_nil]
    rfl
  | m + 1, 0, i, acc, nx, h, ha, hk => by omega
  | m + 1, 1, i, acc, nx, h, ha, hk => by omega
  | m + 1, k + 2, i, acc, nx, h, ha, hk => by
    have hw : wrap64 ((i : Int) + 1) = ((i + 1 : Nat) : Int) := by rw [wrap_small (by omega) (by omega)]; omega
    have skip : lex_Lex.j1 (k + 1) s acc nx (i : Int) (s.size : Int) (i : Int) true = some (lexR s acc (lexT s m (i + 1) nx)) := by
      unfold lex_Lex.j1
      rw [if_pos rfl, hw]
      exact lex_loop s hs m k (i + 1) acc nx (by omega) (by omega) (by omega)
    unfold lex_Lex.l0
    rw [if_pos (by omega)]
    by_cases h1 : (i : Int) < nx
    · rw [if_pos h1, skip]
      rw [lexT_skip s m i nx (.inl h1)]
    · rw [if_neg h1, if_pos (by omega), if_pos (by omega)]
      by_cases h2 : bt s (i : Int) = 32
      · rw [if_pos h2, skip]
        rw [lexT_skip s m i nx (.inr (by unfold blankAt; rw [h2]; rfl))]
      · rw [if_neg h2]
        by_cases h3 : bt s (i : Int) = 9
        · rw [if_pos h3, skip]
          rw [lexT_skip s m i nx (.inr (by unfold blankAt; rw [h3]; rfl))]
        · rw [if_neg h3]
          by_cases h4 : bt s (i : Int) = 10
          · rw [h4]
            refine Eq.trans skip ?_
            rw [lexT_skip s m i nx (.inr (by unfold blankAt; rw [h4]; rfl))]
          · rw [beq_eq_false_iff_ne.2 h4]
            have hb : ¬ ((i : Int) < nx ∨ blankAt s i = true) := by
              unfold blankAt
              rw [beq_eq_false_iff_ne.2 h2, beq_eq_false_iff_ne.2 h3, beq_eq_false_iff_ne.2 h4]
              simpa using h1
            rw [lexT_go s m i nx hb]
            have hz := size_ext s i s.size (Nat.le_refl _)
            unfold lex_Lex.j1
            rw [if_neg (by simp), if_pos (by omega), if_pos (by omega), Int.toNat_natCast, lex_one_eq (s.extract i s.size) (by omega) (by omega) k (by omega), Option.bind_some]
            show (if (tokAt s i).2.2.2.2.2.2.2 = 0 then _ else _) = _
            by_cases h5 : (tokAt s i).2.2.2.2.2.2.2 = 0
            · rw [if_pos h5, if_pos h5]
              rfl
            · rw [if_neg h5, if_neg h5, if_pos (by omega), hw]
              have ih := lex_loop s hs m k (i + 1) (acc ++ [tokOf (tokAt s i) i]) (wrap64 ((i : Int) + (tokAt s i).2.2.2.2.2.2.2)) (by omega) (by simp; omega) (by omega)
              refine Eq.trans ih ?_
              cases lexT s m (i + 1) (wrap64 ((i : Int) + (tokAt s i).2.2.2.2.2.2.2)) with
              | error e => rfl
              | ok l => simp [lexR]
theorem lex_lex_eq (s : ByteArray) (k : Nat) (hk : 4000 < k) : lex_Lex.f k s = some (if 400 < s.size then ([], 0, 2) else lexR s [] (lexT s s.size 0 0)) := by
  unfold lex_Lex.f
  by_cases h : 400 < s.size
  · rw [if_pos (by omega), if_pos h]
  · rw [if_neg (by omega), if_neg h]
    exact lex_loop s (by omega) s.size k 0 [] 0 (by omega) (by simp) (by omega)
end Go.Proofs.YtjehfmimbbdnkaaDoor.LexPure
namespace Go.Proofs.YtjehfmimbbdnkaaDoor.LexPure
open Go.RowKit Go.Proofs.YtjehfmimbbdnkaaDoorW.PrintWords Go.Proofs.YtjehfmimbbdnkaaDoorW.PrintLast Go.Proofs.YtjehfmimbbdnkaaDoorW.PrintMore
open Go.Proofs.YtjehfmimbbdnkaaDoor.L Go.Proofs.YtjehfmimbbdnkaaDoor
def Sound (u : ByteArray) (r : Int × ByteArray × Int × Int × Int × ByteArray × Int × Int) : Prop :=
  r.2.2.2.2.2.2.2 = 0 ∨ ∃ n : Nat, 0 < n ∧ n ≤ u.size ∧ r.2.2.2.2.2.2.2 = (n : Int) ∧ r.2.1 = u.extract 0 n ∧ 1 ≤ r.1 ∧ r.1 ≤ 4
theorem sound_none (u : ByteArray) : Sound u none8 := .inl rfl
theorem sound_mk (u : ByteArray) (n : Nat) (kd vk vn vf : Int) (vs : ByteArray) (a : Int) (hk : 1 ≤ kd ∧ kd ≤ 4) (h0 : 0 < n) (h1 : n ≤ u.size) : Sound u (kd, u.extract 0 n, vk, vn, vf, vs, a, (n : Int)) :=
  .inr ⟨n, h0, h1, rfl, rfl, hk⟩
theorem textS_le : ∀ (m : Nat) (l c : List UInt8) (n : Nat), l.length ≤ m → textS l = some (c, n) → 1 ≤ n ∧ n ≤ l.length
  | m, [], c, n, _, h => by simp [textS] at h
  | 0, _ :: _, c, n, hm, h => by simp at hm
  | m + 1, a :: r, c, n, hm, h => by
    have hm' : r.length ≤ m := by simpa using hm
    rw [textS.eq_def] at h
    simp only [] at h
    split at h
    · split at h
      · rename_i d r'
        split at h
        · rw [Option.map_eq_some_iff] at h
          obtain ⟨⟨c', n'⟩, h1, h2⟩ := h
          obtain ⟨h3, h4⟩ := textS_le m r' c' n' (by simp at hm'; omega) h1
          have : n' + 2 = n := congrArg Prod.snd h2
          simp; omega
        · have : 1 = n := congrArg Prod.snd (Option.some.inj h)
          simp; omega
      · have : 1 = n := congrArg Prod.snd (Option.some.inj h)
        simp; omega
    · split at h
      · cases h
      · rw [Option.map_eq_some_iff] at h
        obtain ⟨⟨c', n'⟩, h1, h2⟩ := h
        obtain ⟨h3, h4⟩ := textS_le m r c' n' hm' h1
        have : n' + 1 = n := congrArg Prod.snd h2
        simp; omega
theorem sound_text (u : ByteArray) (h0 : 0 < u.size) : Sound u (textR u [] 1 (textS ((L8 u).drop 1))) := by
  cases h : textS ((L8 u).drop 1) with
  | none => exact .inl rfl
  | some x =>
    obtain ⟨c, n⟩ := x
    have := textS_le _ _ c n (Nat.le_refl _) h
    rw [List.length_drop, L8_len] at this
    show Sound u (if 40 < ([] : List Int).length + c.length then none8 else (3, u.extract 0 (1 + n), 5, 0, 0, strOfNums ([] ++ c.map fun x => (x.toNat : Int)), 0, ((1 + n : Nat) : Int)))
    split
    · exact sound_none u
    · exact sound_mk u _ _ _ _ _ _ _ (by decide) (by omega) (by omega)
theorem sound_coded (u : ByteArray) : Sound u (codedR u) := by
  unfold codedR
  split
  · exact sound_none u
  · split
    · exact sound_none u
    · split
      · split
        · split
          · exact sound_mk u _ _ _ _ _ _ _ (by decide) (by omega) (by omega)
          · exact sound_none u
        · exact sound_none u
      · split
        · exact sound_none u
        · exact sound_mk u _ _ _ _ _ _ _ (by decide) (by omega) (by omega)
theorem sound_named (u : ByteArray) : Sound u (namedR u) := by
  have hle := headLen_le isNam u
  have h1 : namN u = headLen isNam u := rfl
  unfold namedR
  split
  · exact .inl rfl
  · by_cases h : namN u = 0
    · split
      · exact .inl (by show ((namN u : Nat) : Int) = 0; omega)
      · exact .inl (by show ((namN u : Nat) : Int) = 0; omega)
    · split
      · exact sound_mk u _ _ _ _ _ _ _ (by decide) (by omega) (by omega)
      · exact sound_mk u _ _ _ _ _ _ _ (by decide) (by omega) (by omega)
theorem sound_num (u : ByteArray) (h0 : 0 < u.size) : Sound u (numR u) := by
  have hle := numN_le u (by unfold numAt; split <;> omega)
  unfold numR
  split
  · split
    · exact sound_none u
    · by_cases h : numAt u + numN u = 0
      · exact .inl (by show ((numAt u + numN u : Nat) : Int) = 0; omega)
      · exact sound_mk u _ _ _ _ _ _ _ (by decide) (by omega) (by omega)
  · exact sound_none u
theorem sound_one (u : ByteArray) (h0 : 0 < u.size) : Sound u (oneR u) := by
  unfold oneR
  split
  · exact sound_coded u
  · split
    · exact sound_named u
    · split
      · exact sound_num u h0
      · split
        · exact sound_text u h0
        · split
          · exact sound_mk u 1 _ _ _ _ _ _ (by decide) (by omega) (by omega)
          · exact sound_none u
end Go.Proofs.YtjehfmimbbdnkaaDoor.LexPure
set_option linter.unusedVariables false
namespace Go.Proofs.YtjehfmimbbdnkaaDoor.LexPure
open Go.RowKit Go.Proofs.YtjehfmimbbdnkaaDoorW.PrintWords Go.Proofs.YtjehfmimbbdnkaaDoorW.PrintLast Go.Proofs.YtjehfmimbbdnkaaDoorW.PrintMore
open Go.Proofs.YtjehfmimbbdnkaaDoor.L Go.Proofs.YtjehfmimbbdnkaaDoor
attribute [local irreducible] bt
theorem ext_ext (s : ByteArray) (p n : Nat) (h : p + n ≤ s.size) : (s.extract p s.size).extract 0 n = s.extract p (p + n) := by
  apply ByteArray.ext
  apply Array.toList_inj.1
  have h1 := L8_ext (s.extract p s.size) 0 n
  have h2 := L8_ext s p s.size
  have h3 := L8_ext s p (p + n)
  unfold L8 at h1 h2 h3
  rw [h1, h2, h3, List.drop_zero, List.take_take]
  congr 1
  omega
def from_ (s : ByteArray) (p : Nat) : ByteArray := s.extract p s.size
theorem from_size (s : ByteArray) (p : Nat) : (from_ s p).size = s.size - p := size_ext s p s.size (Nat.le_refl _)
theorem from_L8 (s : ByteArray) (p : Nat) : L8 (from_ s p) = (L8 s).drop p := by
  unfold from_
  rw [L8_ext, List.take_of_length_le (by rw [List.length_drop, L8_len]; exact Nat.le_refl _)]
theorem from_drop (s : ByteArray) (p i : Nat) : (L8 (from_ s p)).drop i = (L8 s).drop (p + i) := by rw [from_L8, List.drop_drop]
theorem from_bt (s : ByteArray) (p i : Nat) (h : p + i < s.size) : bt (from_ s p) (i : Int) = bt s ((p + i : Nat) : Int) := by
  have h1 : i < (from_ s p).size := by rw [from_size]; omega
  rw [bt_L8 _ _ h1, bt_L8 _ _ h]
  simp only [from_L8, List.getElem_drop]
theorem from_ext (s : ByteArray) (p n : Nat) (h : p + n ≤ s.size) : (from_ s p).extract 0 n = s.extract p (p + n) := ext_ext s p n h
theorem agree_quoted (s : ByteArray) (hs : s.size ≤ 1000) (p : Nat) (hp : p < s.size) :
    Agree p (quotedR s p [] (p + 1) (textS ((L8 s).drop (p + 1)))) (textR (from_ s p) [] 1 (textS ((L8 (from_ s p)).drop 1))) := by
  rw [from_drop]
  cases h : textS ((L8 s).drop (p + 1)) with
  | none => exact agree_none p rfl rfl
  | some x =>
    obtain ⟨l, n⟩ := x
    have hl := textS_le _ _ l n (Nat.le_refl _) h
    rw [List.length_drop, L8_len] at hl
    show Agree p (3, s.extract p (p + 1 + n), 5, 0, 0, strOfNums ([] ++ l.map fun c => (c.toNat : Int)), (p : Int), ((p + 1 + n : Nat) : Int), decide (((0 + l.length : Nat) : Int) ≤ 40))
      (if 40 < 0 + l.length then none8 else (3, (from_ s p).extract 0 (1 + n), 5, 0, 0, strOfNums ([] ++ l.map fun c => (c.toNat : Int)), 0, ((1 + n : Nat) : Int)))
    by_cases h2 : 40 < 0 + l.length
    · rw [if_pos h2]
      exact agree_none p (decide_eq_false (by omega)) rfl
    · rw [if_neg h2]
      refine .inr ⟨1 + n, by omega, rfl, ?_⟩
      rw [from_ext s p (1 + n) (by omega), decide_eq_true (by omega), Nat.add_assoc]
theorem from_byte (s : ByteArray) (p i : Nat) : byteAt (from_ s p) i = byteAt s (p + i) := by
  unfold byteAt
  have := from_L8 s p
  unfold L8 at this
  rw [this, List.getD_eq_getElem?_getD, List.getD_eq_getElem?_getD, List.getElem?_drop]
theorem agree_named (s : ByteArray) (hs : s.size ≤ 1000) (p : Nat) (hp : p < s.size) (hl : isLow (byteAt s p) = true) :
    Agree p (nextR s p (p + (((L8 s).drop p).takeWhile isNam).length)) (namedR (from_ s p)) := by
  have hn : namN (from_ s p) = (((L8 s).drop p).takeWhile isNam).length := by
    unfold namN headLen
    have := from_L8 s p
    unfold L8 at this
    rw [this]
  have h0 : 0 < (((L8 s).drop p).takeWhile isNam).length := by
    have hb : (L8 s)[p]'(by rw [L8_len]; exact hp) = byteAt s p := by
      unfold byteAt L8
      rw [List.getD_eq_getElem?_getD, List.getElem?_eq_getElem (by simpa using hp)]
      rfl
    rw [drop_L8 s p hp, List.takeWhile_cons, if_pos (by rw [hb]; unfold isNam; rw [hl]; rfl)]
    simp
  have hle : (((L8 s).drop p).takeWhile isNam).length ≤ ((L8 s).drop p).length := (List.takeWhile_sublist _).length_le
  rw [List.length_drop, L8_len] at hle
  rw [← hn] at h0 hle ⊢
  have he := from_ext s p (namN (from_ s p)) (by omega)
  unfold nextR namedR
  rw [he]
  by_cases h : 16 < namN (from_ s p)
  · rw [if_pos h]
    exact agree_none p (decide_eq_false (by omega)) rfl
  · rw [if_neg h]
    by_cases hw : isWord (s.extract p (p + namN (from_ s p))) = true
    · rw [if_pos hw, if_pos hw]
      exact .inr ⟨_, h0, rfl, by rw [decide_eq_true (by omega)]⟩
    · rw [if_neg hw, if_neg hw]
      exact .inr ⟨_, h0, rfl, by rw [decide_eq_true (by omega)]⟩
theorem coded_odd (u : ByteArray) (h : hexN u % 2 = 1) : (codedR u).2.2.2.2.2.2.2 = 0 := by
  unfold codedR
  split
  · rfl
  · split
    · rfl
    · split
      · rw [if_neg (by omega)]
        rfl
      · rw [if_pos (.inl h)]
        rfl
theorem takeWhile_at (q : UInt8 → Bool) (l : List UInt8) (i : Nat) (h : i < (l.takeWhile q).length) (h2 : i < l.length) : q l[i] = true := by
  have e : (l.takeWhile q)[i] = l[i] := by
    have := List.takeWhile_prefix q (l := l)
    exact this.getElem h
  rw [← e]
  exact takeWhile_all q l _ (List.getElem_mem _)
theorem agree_hex (s : ByteArray) (hs : s.size ≤ 1000) (p : Nat) (h2 : p + 2 ≤ s.size) (hx : bt s (p : Int) = 120 ∨ bt s (p : Int) = 102) :
    Agree p (hexFin s p ([] ++ pairsS (((L8 s).drop (p + 2)).take (2 * (hexRun s (p + 2) / 2)))) (p + 2 + 2 * (hexRun s (p + 2) / 2))) (codedR (from_ s p)) := by
  have hN : hexN (from_ s p) = hexRun s (p + 2) := by
    unfold hexN hexRun
    rw [from_drop]
  have hD : digitsS (from_ s p) = ((L8 s).drop (p + 2)).takeWhile isHex := by
    unfold digitsS
    rw [from_drop]
  have hle := hexN_le (from_ s p) (by rw [from_size]; omega)
  rw [from_size, hN] at hle
  have hz := from_size s p
  rw [List.nil_append]
  by_cases hodd : hexRun s (p + 2) % 2 = 1
  · refine agree_none p ?_ (coded_odd _ (by rw [hN]; exact hodd))
    have hj : p + 2 + 2 * (hexRun s (p + 2) / 2) < s.size := by omega
    have hi : 2 * (hexRun s (p + 2) / 2) < hexRun s (p + 2) := by omega
    have hb := bt_L8 s _ hj
    have ha := takeWhile_at isHex ((L8 s).drop (p + 2)) (2 * (hexRun s (p + 2) / 2)) hi (by rw [List.length_drop, L8_len]; omega)
    rw [List.getElem_drop] at ha
    unfold hexFin
    rw [if_neg (by omega), if_pos]
    · rfl
    · intro e
      rw [hb] at e
      have e2 : (L8 s)[p + 2 + 2 * (hexRun s (p + 2) / 2)]'(by rw [L8_len]; exact hj) = 39 := UInt8.toNat_inj.1 (by show _ = 39; omega)
      rw [e2] at ha
      exact absurd ha (by decide)
  · have heven : 2 * (hexRun s (p + 2) / 2) = hexRun s (p + 2) := by omega
    have hl : (((L8 s).drop (p + 2)).takeWhile isHex).length = 2 * (hexRun s (p + 2) / 2) := by rw [heven]; rfl
    have ht : ((L8 s).drop (p + 2)).take (hexRun s (p + 2)) = ((L8 s).drop (p + 2)).takeWhile isHex := take_takeWhile _ _
    have hlen := pairs_len _ _ hl
    have hall : ∀ c ∈ ((L8 s).drop (p + 2)).takeWhile isHex, isHex c = true := takeWhile_all _ _
    have hnum := pair_num _ _ 0 hl hall
    unfold hexFin codedR
    rw [heven, ht, hN, hD, hz]
    by_cases e1 : s.size ≤ p + 2 + hexRun s (p + 2)
    · rw [if_pos e1, if_pos (show s.size - p ≤ 2 + hexRun s (p + 2) by omega)]
      exact agree_none p rfl rfl
    · have eb : bt (from_ s p) ((2 + hexRun s (p + 2) : Nat) : Int) = bt s ((p + 2 + hexRun s (p + 2) : Nat) : Int) := by
        rw [from_bt s p _ (by omega), Nat.add_assoc]
      have e0 : bt (from_ s p) 0 = bt s (p : Int) := from_bt s p 0 (by omega)
      have ex : (from_ s p).extract 0 (2 + hexRun s (p + 2) + 1) = s.extract p (p + 2 + hexRun s (p + 2) + 1) := by
        rw [from_ext s p _ (by omega)]
        congr 1
        omega
      rw [if_neg e1, if_neg (show ¬ (s.size - p ≤ 2 + hexRun s (p + 2)) by omega), eb, e0, ex]
      by_cases e2 : bt s ((p + 2 + hexRun s (p + 2) : Nat) : Int) = 39
      · rw [if_neg (show ¬ (bt s ((p + 2 + hexRun s (p + 2) : Nat) : Int) ≠ 39) from fun h => h e2), if_neg (show ¬ (bt s ((p + 2 + hexRun s (p + 2) : Nat) : Int) ≠ 39) from fun h => h e2)]
        by_cases e3 : bt s (p : Int) = 120
        · rw [if_pos e3, if_neg (show ¬ (bt s (p : Int) = 102) by omega)]
          by_cases e4 : 40 < hexRun s (p + 2) / 2
          · rw [if_pos (.inr e4)]
            exact agree_none p (decide_eq_false (by rw [hlen]; omega)) rfl
          · rw [if_neg (by omega)]
            refine .inr ⟨2 + hexRun s (p + 2) + 1, by omega, rfl, ?_⟩
            rw [decide_eq_true (by rw [hlen]; omega), show p + (2 + hexRun s (p + 2) + 1) = p + 2 + hexRun s (p + 2) + 1 from by omega]
        · rw [if_neg e3, if_pos (show bt s (p : Int) = 102 by omega)]
          by_cases e4 : hexRun s (p + 2) = 16
          · obtain ⟨k1, k2⟩ := h16_ok (((L8 s).drop (p + 2)).takeWhile isHex) 0 (by rw [hl, heven, e4]; decide) hall
            rw [if_pos (by rw [hlen, e4]), if_pos e4, hnum, k1]
            refine .inr ⟨2 + hexRun s (p + 2) + 1, by omega, rfl, ?_⟩
            rw [show p + (2 + hexRun s (p + 2) + 1) = p + 2 + hexRun s (p + 2) + 1 from by omega]
          · rw [if_neg (by rw [hlen]; omega), if_neg e4]
            exact agree_none p rfl rfl
      · rw [if_pos e2, if_pos e2]
        exact agree_none p rfl rfl
theorem parse_minus (D : List UInt8) (hD : ∀ c ∈ D, isDig c = true) :
    ((D = [] ∨ 9223372036854775808 < decN D 0) → ∀ v, Lib.parseIntB 64 (45 :: D) ≠ .ok v) ∧ (D ≠ [] → decN D 0 ≤ 9223372036854775808 → Lib.parseIntB 64 (45 :: D) = .ok (-(decN D 0 : Int))) := by
  have hp := parseM_dig D 0 (by decide) hD
  rw [Lib.parseIntB_minus]
  unfold Lib.parseUintB
  rw [show (2 : Nat) ^ 64 - 1 = 18446744073709551615 from rfl, show (2 : Nat) ^ (64 - 1) = 9223372036854775808 from rfl, hp]
  constructor
  · rintro (rfl | h) v
    · rw [if_pos rfl]
      simp [Lib.signedC]
    · by_cases he : D = []
      · rw [if_pos he]; simp [Lib.signedC]
      · rw [if_neg he]
        split
        · simp only [Lib.signedC]; rw [if_pos h]; simp
        · simp [Lib.signedC]
  · intro he h
    rw [if_neg he, if_pos (by omega)]
    simp only [Lib.signedC]
    rw [if_neg (by omega)]
theorem parse_plain (D : List UInt8) (hD : ∀ c ∈ D, isDig c = true) :
    ((D = [] ∨ 9223372036854775808 ≤ decN D 0) → ∀ v, Lib.parseIntB 64 D ≠ .ok v) ∧ (D ≠ [] → decN D 0 < 9223372036854775808 → Lib.parseIntB 64 D = .ok (decN D 0 : Int)) := by
  cases D with
  | nil => exact ⟨fun _ v => by simp [Lib.parseIntB], fun h => absurd rfl h⟩
  | cons c r =>
    have hc := (isDig_iff c).1 (hD c (by simp))
    have hp := parseM_dig (c :: r) 0 (by decide) hD
    rw [Lib.parseIntB_plain 64 c r (by omega) (by omega)]
    unfold Lib.parseUintB
    rw [show (2 : Nat) ^ 64 - 1 = 18446744073709551615 from rfl, show (2 : Nat) ^ (64 - 1) = 9223372036854775808 from rfl, hp, if_neg (by simp)]
    constructor
    · rintro (h | h) v
      · cases h
      · split
        · simp only [Lib.signlessC]; rw [if_pos h]; simp
        · simp [Lib.signlessC]
    · intro _ h
      rw [if_pos (by omega)]
      simp only [Lib.signlessC]
      rw [if_neg (by omega)]
theorem numR_none (u : ByteArray) (h : ∀ v, Lib.parseIntB 64 (u.extract 0 (numAt u + numN u)).data.toList ≠ .ok v) : numR u = tokNone := by
  unfold numR
  split
  · rename_i v hv
    exact absurd hv (h v)
  · rfl
theorem numR_ok (u : ByteArray) (v : Int) (h : Lib.parseIntB 64 (u.extract 0 (numAt u + numN u)).data.toList = .ok v) :
    numR u = if numBad u (numAt u) (numN u) = true then tokNone else (3, u.extract 0 (numAt u + numN u), 2, v, 0, ⟨#[]⟩, 0, ((numAt u + numN u : Nat) : Int)) := by
  unfold numR
  rw [h]
theorem bad_eq (a n acc M : Nat) (z Q : Bool) (h0 : 0 < n) (hz : z = true → n = 1 → acc = 0) (hz2 : z = false → acc ≠ 0) :
    (false || ((decide (1 < n) && z) || (((a == 1) && decide (acc = 0)) || ((!(a == 1) && decide (acc = M)) || Q)))) = ((false || ((z && (decide (1 < n) || a == 1)) || Q)) || (!(a == 1) && decide (acc = M))) := by
  cases z with
  | false =>
    rw [decide_eq_false (hz2 rfl)]
    cases a == 1 <;> simp [Bool.or_comm]
  | true =>
    by_cases h1 : 1 < n
    · rw [decide_eq_true h1]
      simp
    · rw [hz rfl (by omega), decide_eq_false h1]
      cases a == 1 <;> simp [Bool.or_comm]
theorem dig_first (s : ByteArray) (j : Nat) (h : 0 < (digRun s j).length) (hj : j < s.size) : ∃ r, digRun s j = byteAt s j :: r := by
  have hd := drop_L8 s j hj
  have hb : (L8 s)[j]'(by rw [L8_len]; exact hj) = byteAt s j := by
    unfold byteAt L8
    rw [List.getD_eq_getElem?_getD, List.getElem?_eq_getElem (by simpa using hj)]
    rfl
  unfold digRun at h ⊢
  rw [hd, hb, List.takeWhile_cons] at h ⊢
  cases hc : isDig (byteAt s j) with
  | true => exact ⟨_, by rw [if_pos rfl]⟩
  | false => rw [hc] at h; simp at h
theorem num_bad (s : ByteArray) (hs : s.size ≤ 1000) (p a : Nat) (hpa : p + a + (digRun s (p + a)).length ≤ s.size) (h0 : 0 < (digRun s (p + a)).length) :
    numBadR s (p + a + (digRun s (p + a)).length) (a == 1) (p + a) (decN (digRun s (p + a)) 0) =
      (numBad (from_ s p) a (digRun s (p + a)).length || (!(a == 1) && decide (decN (digRun s (p + a)) 0 = 9223372036854775808))) := by
  obtain ⟨r, hr⟩ := dig_first s (p + a) h0 (by omega)
  have hD : ∀ c ∈ digRun s (p + a), isDig c = true := takeWhile_all _ _
  have hcd := (isDig_iff (byteAt s (p + a))).1 (hD _ (by rw [hr]; simp))
  have hge := decN_ge r (0 * 10 + ((byteAt s (p + a)).toNat - 48))
  have hde : decN (digRun s (p + a)) 0 = decN r (0 * 10 + ((byteAt s (p + a)).toNat - 48)) := by rw [hr]; rfl
  have hz1 : (byteAt s (p + a) == 48) = true → (digRun s (p + a)).length = 1 → decN (digRun s (p + a)) 0 = 0 := by
    intro h1 h2
    have h1 := beq_iff_eq.1 h1
    rw [hr] at h2
    have hr0 : r = [] := List.eq_nil_of_length_eq_zero (by simpa using h2)
    rw [hde, hr0, h1]
    rfl
  have hz2 : (byteAt s (p + a) == 48) = false → decN (digRun s (p + a)) 0 ≠ 0 := by
    intro h1
    have h1 := beq_eq_false_iff_ne.1 h1
    have h3 : (byteAt s (p + a)).toNat ≠ 48 := fun e => h1 (UInt8.toNat_inj.1 e)
    rw [hde]
    omega
  have hf : bt s ((p + a : Nat) : Int) = ((byteAt s (p + a)).toNat : Int) := bt_byteAt s (p + a) (by omega)
  have h48 : decide (bt s ((p + a : Nat) : Int) = 48) = (byteAt s (p + a) == 48) := by
    rw [hf]
    exact b_eq (x := byteAt s (p + a)) (k := 48) (by decide)
  have K := bad_eq a (digRun s (p + a)).length (decN (digRun s (p + a)) 0) 9223372036854775808 (byteAt s (p + a) == 48)
    (decide (p + a + (digRun s (p + a)).length < s.size) && (isLow (byteAt s (p + a + (digRun s (p + a)).length)) || byteAt s (p + a + (digRun s (p + a)).length) == 95)) h0 hz1 hz2
  unfold numBadR numBad
  rw [from_byte, from_byte, from_size, show p + (a + (digRun s (p + a)).length) = p + a + (digRun s (p + a)).length from by omega, h48]
  have e1 : decide (p + a + (digRun s (p + a)).length = p + a) = false := decide_eq_false (by omega)
  have e2 : decide (p + a + 1 < p + a + (digRun s (p + a)).length) = decide (1 < (digRun s (p + a)).length) := by rw [decide_eq_decide]; omega
  have e3 : ((digRun s (p + a)).length == 0) = false := beq_eq_false_iff_ne.2 (by omega)
  have e4 : decide (a + (digRun s (p + a)).length < s.size - p) = decide (p + a + (digRun s (p + a)).length < s.size) := by rw [decide_eq_decide]; omega
  rw [e1, e2, e3, e4]
  exact K
def refNum (s : ByteArray) (p a : Nat) : Tok9 :=
  if decN (digRun s (p + a)) 0 ≤ 9223372036854775808 then numFin s p (p + a + (digRun s (p + a)).length) (a == 1) (p + a) (decN (digRun s (p + a)) 0) else none9
theorem agree_num (s : ByteArray) (hs : s.size ≤ 1000) (p a : Nat) (hp : p < s.size) (ha : a = if byteAt s p = 45 then 1 else 0) : Agree p (refNum s p a) (numR (from_ s p)) := by
  have hA : numAt (from_ s p) = a := by
    unfold numAt
    rw [from_byte, Nat.add_zero, ha]
  have hN : numN (from_ s p) = (digRun s (p + a)).length := by
    unfold numN headLen digRun
    rw [hA]
    have h1 := L8_ext (from_ s p) a (from_ s p).size
    unfold L8 at h1
    rw [h1]
    have h2 := from_drop s p a
    unfold L8 at h2
    rw [h2, List.take_of_length_le (by rw [List.length_drop, Array.length_toList]; have := from_size s p; show s.size - _ ≤ _; omega)]
  have hD : ∀ c ∈ digRun s (p + a), isDig c = true := takeWhile_all _ _
  have hDl : (digRun s (p + a)).length ≤ s.size - (p + a) := by
    have : (digRun s (p + a)).length ≤ ((L8 s).drop (p + a)).length := (List.takeWhile_sublist _).length_le
    rw [List.length_drop, L8_len] at this
    exact this
  have ha1 : a ≤ 1 := by rw [ha]; split <;> omega
  have hL : ((from_ s p).extract 0 (numAt (from_ s p) + numN (from_ s p))).data.toList = if a = 1 then 45 :: digRun s (p + a) else digRun s (p + a) := by
    have h1 := L8_ext (from_ s p) 0 (a + (digRun s (p + a)).length)
    unfold L8 at h1
    rw [hA, hN, h1, List.drop_zero]
    have h2 := from_L8 s p
    unfold L8 at h2
    rw [h2, Nat.sub_zero]
    by_cases hm : byteAt s p = 45
    · rw [if_pos hm] at ha
      subst ha
      rw [if_pos rfl]
      have hd := drop_L8 s p hp
      have hb : (L8 s)[p]'(by rw [L8_len]; exact hp) = 45 := by
        rw [← hm]
        unfold byteAt L8
        rw [List.getD_eq_getElem?_getD, List.getElem?_eq_getElem (by simpa using hp)]
        rfl
      rw [hb] at hd
      unfold L8 at hd
      rw [hd, show 1 + (digRun s (p + 1)).length = (digRun s (p + 1)).length + 1 from by omega, List.take_succ_cons]
      have T : ((L8 s).drop (p + 1)).take (digRun s (p + 1)).length = digRun s (p + 1) := take_takeWhile isDig _
      exact congrArg (fun l => (45 : UInt8) :: l) T
    · rw [if_neg hm] at ha
      subst ha
      have T : ((L8 s).drop (p + 0)).take (digRun s (p + 0)).length = digRun s (p + 0) := take_takeWhile isDig _
      rw [if_neg (by decide), Nat.zero_add]
      exact T
  have hbad := fun h0 => num_bad s hs p a (by omega) h0
  unfold refNum
  by_cases h0 : (digRun s (p + a)).length = 0
  · have hnil : digRun s (p + a) = [] := List.eq_nil_of_length_eq_zero h0
    have hn : numR (from_ s p) = tokNone := by
      refine numR_none _ ?_
      rw [hL, hnil]
      by_cases hm : a = 1
      · rw [if_pos hm]
        exact (parse_minus [] (by simp)).1 (.inl rfl)
      · rw [if_neg hm]
        exact (parse_plain [] (by simp)).1 (.inl rfl)
    rw [hn]
    refine agree_none p ?_ rfl
    split
    · unfold numFin
      rw [if_pos (by unfold numBadR; rw [decide_eq_true (by omega)]; rfl)]
      rfl
    · rfl
  · have hne : digRun s (p + a) ≠ [] := fun e => h0 (by rw [e]; rfl)
    have hb := hbad (by omega)
    by_cases hm : a = 1
    · rw [if_pos hm] at hL
      by_cases hv : decN (digRun s (p + a)) 0 ≤ 9223372036854775808
      · have hn := numR_ok (from_ s p) _ (by rw [hL]; exact (parse_minus _ hD).2 hne hv)
        rw [hA, hN] at hn
        rw [if_pos hv, hn]
        unfold numFin
        rw [hb, beq_iff_eq.2 hm, Bool.not_true, Bool.false_and, Bool.or_false]
        by_cases hB : numBad (from_ s p) a (digRun s (p + a)).length = true
        · rw [if_pos hB, if_pos hB]
          exact agree_none p rfl rfl
        · rw [if_neg hB, if_neg hB, if_pos rfl]
          refine .inr ⟨a + (digRun s (p + a)).length, by omega, rfl, ?_⟩
          rw [from_ext s p _ (by omega), Nat.add_assoc]
      · have hn := numR_none (from_ s p) (by rw [hL]; exact (parse_minus _ hD).1 (.inr (by omega)))
        rw [if_neg hv, hn]
        exact agree_none p rfl rfl
    · rw [if_neg hm] at hL
      by_cases hv : decN (digRun s (p + a)) 0 < 9223372036854775808
      · have hn := numR_ok (from_ s p) _ (by rw [hL]; exact (parse_plain _ hD).2 hne hv)
        rw [hA, hN] at hn
        rw [if_pos (by omega), hn]
        unfold numFin
        rw [hb, beq_eq_false_iff_ne.2 hm, decide_eq_false (by omega), Bool.and_false, Bool.or_false]
        by_cases hB : numBad (from_ s p) a (digRun s (p + a)).length = true
        · rw [if_pos hB, if_pos hB]
          exact agree_none p rfl rfl
        · rw [if_neg hB, if_neg hB, if_neg (by simp)]
          refine .inr ⟨a + (digRun s (p + a)).length, by omega, rfl, ?_⟩
          rw [from_ext s p _ (by omega), Nat.add_assoc]
      · have hn := numR_none (from_ s p) (by rw [hL]; exact (parse_plain _ hD).1 (.inr (by omega)))
        rw [hn]
        refine agree_none p ?_ rfl
        split
        · unfold numFin
          rw [if_pos (by rw [hb, beq_eq_false_iff_ne.2 hm, decide_eq_true (by omega)]; simp)]
          rfl
        · rfl
end Go.Proofs.YtjehfmimbbdnkaaDoor.LexPure
set_option linter.unusedVariables false
namespace Go.Proofs.YtjehfmimbbdnkaaDoor.LexPure
open Go.RowKit Go.Proofs.YtjehfmimbbdnkaaDoorW.PrintWords Go.Proofs.YtjehfmimbbdnkaaDoorW.PrintLast Go.Proofs.YtjehfmimbbdnkaaDoorW.PrintMore
open Go.Proofs.YtjehfmimbbdnkaaDoor.L Go.Proofs.YtjehfmimbbdnkaaDoor
theorem tok_from (s : ByteArray) (p : Nat) : tokAt s p = oneR (from_ s p) := rfl
attribute [local irreducible] bt from_ byteAt
theorem signs_all : ∀ n : Nat, n < 256 → signs.contains (UInt8.ofNat n) = decide (n = 40 ∨ n = 41 ∨ n = 44 ∨ n = 59 ∨ n = 61 ∨ n = 60 ∨ n = 62 ∨ n = 43 ∨ n = 42) := by decide +kernel
theorem sign_chain (c : UInt8) (V N : Option Tok9) :
    (if (c.toNat : Int) = 40 then V else if (c.toNat : Int) = 41 then V else if (c.toNat : Int) = 44 then V else if (c.toNat : Int) = 59 then V else if (c.toNat : Int) = 61 then V else if (c.toNat : Int) = 60 then V else if (c.toNat : Int) = 62 then V else if (c.toNat : Int) = 43 then V else if (c.toNat : Int) = 42 then V else N) = if signs.contains c = true then V else N := by
  have h := signs_all c.toNat (b256 c)
  rw [UInt8.ofNat_toNat] at h
  rw [h]
  generalize c.toNat = n
  by_cases hc : n = 40 ∨ n = 41 ∨ n = 44 ∨ n = 59 ∨ n = 61 ∨ n = 60 ∨ n = 62 ∨ n = 43 ∨ n = 42
  · rw [if_pos (decide_eq_true hc)]
    rcases hc with e | e | e | e | e | e | e | e | e <;> subst e <;> rfl
  · rw [if_neg (by omega), if_neg (by omega), if_neg (by omega), if_neg (by omega), if_neg (by omega), if_neg (by omega), if_neg (by omega), if_neg (by omega), if_neg (by omega), if_neg (by rw [decide_eq_true_eq]; exact hc)]
theorem next_j2f (s : ByteArray) (hs : s.size ≤ 1000) (p : Nat) (hp : p < s.size) (k : Nat) (hk : 3000 < k) (hm : bt s (p : Int) ≠ 45) :
    ∃ q, falseworkref16_next.j2 (k + 1) s (p : Int) (bt s (p : Int)) false = some q ∧ Agree p q (if bt s (p : Int) = 39 then textR (from_ s p) [] 1 (textS ((L8 (from_ s p)).drop 1))
      else if signs.contains ((bt s (p : Int)).toNat.toUInt8) then (4, (from_ s p).extract 0 1, 0, 0, 0, ⟨#[]⟩, 0, 1) else none8) := by
  have hw : wrap64 ((p : Int) + 1) = ((p + 1 : Nat) : Int) := by rw [wrap_small (by omega) (by omega)]; omega
  rw [falseworkref16_next.j2]
  rw [if_neg (by simp)]
  by_cases h1 : bt s (p : Int) = 39
  · rw [if_pos h1, if_pos h1]
    unfold falseworkref16_quoted.f
    have hq := quoted_loop s hs p 1000 k (p + 1) [] (by omega) (by omega) (by simp) (by omega)
    rw [hw, hq, Option.bind_some]
    exact ⟨_, rfl, agree_quoted s hs p hp⟩
  · rw [if_neg h1, if_neg h1]
    have hb := bt_byteAt s p hp
    rw [hw, if_pos (show (0 : Int) ≤ (p : Int) by omega), if_pos (show (p : Int) ≤ ((p + 1 : Nat) : Int) by omega), if_pos (show ((p + 1 : Nat) : Int) ≤ (s.size : Int) by omega), hb, sign_chain]
    have e : ((byteAt s p).toNat : Int).toNat.toUInt8 = byteAt s p := by
      rw [Int.toNat_natCast]
      exact UInt8.ofNat_toNat
    rw [e]
    by_cases h2 : signs.contains (byteAt s p) = true
    · rw [if_pos h2, if_pos h2]
      refine ⟨_, rfl, .inr ⟨1, by decide, rfl, ?_⟩⟩
      rw [from_ext s p 1 (by omega)]
      rfl
    · rw [if_neg h2, if_neg h2]
      exact ⟨_, rfl, agree_none p rfl rfl⟩
theorem next_num (s : ByteArray) (hs : s.size ≤ 1000) (p : Nat) (hp : p < s.size) (k : Nat) (hk : 3000 < k) :
    ∃ q, falseworkref16_next.j2 (k + 1) s (p : Int) (bt s (p : Int)) true = some q ∧ Agree p q (numR (from_ s p)) := by
  have hb := bt_byteAt s p hp
  have hw : wrap64 ((p : Int) + 1) = ((p + 1 : Nat) : Int) := by rw [wrap_small (by omega) (by omega)]; omega
  obtain ⟨k, rfl⟩ : ∃ k', k = k' + 1 := ⟨k - 1, by omega⟩
  rw [falseworkref16_next.j2]
  unfold falseworkref16_number.f
  rw [if_pos rfl, if_pos (by omega), if_pos (by omega)]
  have N : ∀ a, a ≤ 1 → falseworkref16_number.j0 (k + 1) s (p : Int) ((p + a : Nat) : Int) (a == 1) = some (refNum s p a) := by
    intro a ha
    rw [falseworkref16_number.j0]
    unfold refNum
    exact num_l0 s hs p (a == 1) (p + a) (s.size - (p + a)) k (p + a) 0 (by omega) (by omega) (by omega) (by decide) (by omega)
  by_cases h : byteAt s p = 45
  · have hbe : bt s (p : Int) = 45 := by rw [hb, h]; rfl
    rw [if_pos hbe, hbe, hw]
    have := N 1 (by omega)
    have e : falseworkref16_number.j0 (k + 1) s (p : Int) ((p + 1 : Nat) : Int) ((45 : Int) == 45) = some (refNum s p 1) := this
    rw [e, Option.bind_some]
    have A := agree_num s hs p 1 hp (by rw [if_pos h])
    generalize refNum s p 1 = q at A ⊢
    exact ⟨q, rfl, A⟩
  · have hbe : bt s (p : Int) ≠ 45 := by
      rw [hb]
      intro e
      exact h (UInt8.toNat_inj.1 (by show _ = 45; omega))
    rw [if_neg hbe, beq_eq_false_iff_ne.2 hbe]
    have := N 0 (by omega)
    have e : falseworkref16_number.j0 (k + 1) s (p : Int) (p : Int) false = some (refNum s p 0) := this
    rw [e, Option.bind_some]
    have A := agree_num s hs p 0 hp (by rw [if_neg h])
    generalize refNum s p 0 = q at A ⊢
    exact ⟨q, rfl, A⟩
theorem next_j0 (s : ByteArray) (hs : s.size ≤ 1000) (p : Nat) (hp : p < s.size) (k : Nat) (hk : 3010 < k) (f : Bool) (hf : f = decide ((bt s (p : Int) = 120 ∨ bt s (p : Int) = 102) ∧ p + 1 < s.size ∧ bt s ((p + 1 : Nat) : Int) = 39)) :
    ∃ q, falseworkref16_next.j0 (k + 1) s (p : Int) (bt s (p : Int)) f = some q ∧ Agree p q (oneR (from_ s p)) := by
  have hb := bt_byteAt s p hp
  have e0 : bt (from_ s p) 0 = bt s (p : Int) := from_bt s p 0 (by omega)
  have hz := from_size s p
  rw [falseworkref16_next.j0]
  unfold oneR
  rw [e0, hz]
  by_cases h : (bt s (p : Int) = 120 ∨ bt s (p : Int) = 102) ∧ p + 1 < s.size ∧ bt s ((p + 1 : Nat) : Int) = 39
  · have e1 : bt (from_ s p) 1 = bt s ((p + 1 : Nat) : Int) := from_bt s p 1 (by omega)
    rw [if_pos (by rw [hf]; exact decide_eq_true h), if_pos ⟨h.1, by omega, e1.trans h.2.2⟩]
    have hw : wrap64 ((p : Int) + 2) = ((p + 2 : Nat) : Int) := by rw [wrap_small (by omega) (by omega)]; omega
    unfold falseworkref16_hex.f
    have h12 := h.1
    have h22 := h.2.1
    clear h e0 e1 hb hf hz
    have X := fun y0 y1 y2 y3 y4 => hex_l0 s hs p 1000 k (p + 2) [] y0 y1 y2 y3 y4
    have A := fun y0 => agree_hex s hs p y0 h12
    clear h12
    rw [hw, X (by omega) (by omega) (by omega) (by simp) (by omega), Option.bind_some]
    replace A := A (by omega)
    generalize hexFin s p ([] ++ pairsS (((L8 s).drop (p + 2)).take (2 * (hexRun s (p + 2) / 2)))) (p + 2 + 2 * (hexRun s (p + 2) / 2)) = q at A ⊢
    exact ⟨q, rfl, A⟩
  · rw [if_neg (by rw [hf, decide_eq_false h]; simp), if_neg (by
      rintro ⟨h1, h2, h3⟩
      have e1 : bt (from_ s p) 1 = bt s ((p + 1 : Nat) : Int) := from_bt s p 1 (by omega)
      exact h ⟨h1, (by clear h h1 h3 e1 hf hb e0; omega), e1.symm.trans h3⟩), hb, low_f, Option.bind_some]
    have hlow : isLow (byteAt s p) = true ↔ 97 ≤ ((byteAt s p).toNat : Int) ∧ ((byteAt s p).toNat : Int) ≤ 122 := by
      unfold isLow
      rw [Bool.and_eq_true, decide_eq_true_eq, decide_eq_true_eq, UInt8.le_iff_toNat_le, UInt8.le_iff_toNat_le]
      show 97 ≤ _ ∧ _ ≤ 122 ↔ _
      omega
    by_cases h1 : isLow (byteAt s p) = true
    · rw [if_pos h1, if_pos (hlow.1 h1), next_l0 s hs p (s.size - p) k p (by omega) (by omega) (by omega)]
      exact ⟨_, rfl, agree_named s hs p hp h1⟩
    · rw [if_neg h1, if_neg (fun x => h1 (hlow.2 x)), digit_f, Option.bind_some]
      have hdig := isDig_iff (byteAt s p)
      obtain ⟨k, rfl⟩ : ∃ k', k = k' + 1 := ⟨k - 1, by omega⟩
      by_cases h2 : isDig (byteAt s p) = true
      · have := hdig.1 h2
        rw [if_pos h2, if_pos (.inl (by omega)), ← hb]
        exact next_num s hs p hp k (by omega)
      · have h2' : ¬ (48 ≤ (byteAt s p).toNat ∧ (byteAt s p).toNat ≤ 57) := fun x => h2 (hdig.2 x)
        rw [if_neg h2]
        by_cases h3 : ((byteAt s p).toNat : Int) = 45
        · rw [if_pos (.inr h3), beq_iff_eq.2 h3, ← hb]
          exact next_num s hs p hp k (by omega)
        · rw [if_neg (by omega), beq_eq_false_iff_ne.2 h3, ← hb]
          exact next_j2f s hs p hp k (by omega) (by rw [hb]; exact h3)
theorem next_agree (s : ByteArray) (hs : s.size ≤ 1000) (p : Nat) (hp : p < s.size) (k : Nat) (hk : 3020 < k) : ∃ q, falseworkref16_next.f k s (p : Int) = some q ∧ Agree p q (oneR (from_ s p)) := by
  obtain ⟨k, rfl⟩ : ∃ k', k = k' + 1 := ⟨k - 1, by omega⟩
  have J := next_j0 s hs p hp k (by omega)
  have hw : wrap64 ((p : Int) + 1) = ((p + 1 : Nat) : Int) := by rw [wrap_small (by omega) (by omega)]; omega
  unfold falseworkref16_next.f
  rw [if_pos (by omega), if_pos (by omega), hw]
  by_cases h1 : bt s (p : Int) = 120
  · rw [if_pos h1]
    by_cases h2 : p + 1 < s.size
    · rw [if_pos (by omega), if_pos (by omega)]
      refine J _ ?_
      by_cases h3 : bt s ((p + 1 : Nat) : Int) = 39
      · rw [decide_eq_true ⟨.inl h1, h2, h3⟩, h3]; rfl
      · rw [decide_eq_false (fun e => h3 e.2.2), beq_eq_false_iff_ne.2 h3]
    · rw [if_neg (by omega)]
      exact J _ (by rw [decide_eq_false (fun e => h2 e.2.1)])
  · rw [if_neg h1]
    by_cases h1' : bt s (p : Int) = 102
    · rw [if_pos h1']
      by_cases h2 : p + 1 < s.size
      · rw [if_pos (by omega), if_pos (by omega)]
        refine J _ ?_
        by_cases h3 : bt s ((p + 1 : Nat) : Int) = 39
        · rw [decide_eq_true ⟨.inr h1', h2, h3⟩, h3]; rfl
        · rw [decide_eq_false (fun e => h3 e.2.2), beq_eq_false_iff_ne.2 h3]
      · rw [if_neg (by omega)]
        exact J _ (by rw [decide_eq_false (fun e => h2 e.2.1)])
    · rw [if_neg h1']
      exact J _ (by rw [decide_eq_false (fun e => e.1.elim h1 h1')])
def conv (t : S39) : S47 := ⟨t.f0, t.f1, t.f2, t.f3⟩
def refLR (s : ByteArray) (acc : List S47) : Except Nat (List S39) → List S47 × Int × Int
  | .ok l => (acc ++ l.map conv ++ [conv (endTok s)], 0, 0)
  | .error e => ([], (e : Int), 3)
theorem lexT_jump (s : ByteArray) : ∀ (d m i : Nat), lexT s (m + d) i ((i + d : Nat) : Int) = lexT s m (i + d) ((i + d : Nat) : Int)
  | 0, m, i => rfl
  | d + 1, m, i => by
    rw [show m + (d + 1) = (m + d) + 1 from rfl, lexT_skip _ _ _ _ (.inl (by omega)), show i + (d + 1) = i + 1 + d from by omega]
    exact lexT_jump s d m (i + 1)
theorem lexT_nx (s : ByteArray) : ∀ (m i : Nat) (nx nx' : Int), nx ≤ (i : Int) → nx' ≤ (i : Int) → lexT s m i nx = lexT s m i nx'
  | 0, _, _, _, _, _ => rfl
  | m + 1, i, nx, nx', h, h' => by
    by_cases hb : blankAt s i = true
    · rw [lexT_skip _ _ _ _ (.inr hb), lexT_skip _ _ _ _ (.inr hb)]
      exact lexT_nx s m (i + 1) nx nx' (by omega) (by omega)
    · rw [lexT_go _ _ _ _ (fun x => x.elim (fun y => by omega) hb), lexT_go _ _ _ _ (fun x => x.elim (fun y => by omega) hb)]
theorem ref_loop (s : ByteArray) (hs : s.size ≤ 400) : ∀ (M m k p : Nat) (acc : List S47), m ≤ M → p + m = s.size → acc.length ≤ p → 2 * m + 4000 < k →
    falseworkref16_Lex.l0 k s acc (p : Int) = some (refLR s acc (lexT s m p (p : Int)))
  | _, _, 0, _, _, _, _, _, hk => by omega
  | _, _, 1, _, _, _, _, _, hk => by omega
  | _, 0, k + 2, p, acc, _, h, ha, hk => by
    unfold falseworkref16_Lex.l0
    rw [if_neg (by omega), if_pos (by omega)]
    simp only [lexT, refLR, List.map_nil, List.append_nil]
    rfl
  | 0, m + 1, k + 2, p, acc, hM, _, _, _ => by omega
  | M + 1, m + 1, k + 2, p, acc, hM, h, ha, hk => by
    have hw : wrap64 ((p : Int) + 1) = ((p + 1 : Nat) : Int) := by rw [wrap_small (by omega) (by omega)]; omega
    have hsk := lexT_nx s m (p + 1) (p : Int) ((p + 1 : Nat) : Int) (by omega) (by omega)
    have skip : blankAt s p = true → falseworkref16_Lex.j1 (k + 1) s acc (p : Int) true = some (refLR s acc (lexT s (m + 1) p (p : Int))) := by
      intro hb
      rw [falseworkref16_Lex.j1]
      rw [if_pos rfl, hw, ref_loop s hs M m k (p + 1) acc (by omega) (by omega) (by omega) (by omega), lexT_skip _ _ _ _ (.inr hb), hsk]
    unfold falseworkref16_Lex.l0
    rw [if_pos (by omega), if_pos (by omega)]
    by_cases h2 : bt s (p : Int) = 32
    · rw [if_pos h2]
      exact skip (by unfold blankAt; rw [h2]; rfl)
    · rw [if_neg h2]
      by_cases h3 : bt s (p : Int) = 9
      · rw [if_pos h3]
        exact skip (by unfold blankAt; rw [h3]; rfl)
      · rw [if_neg h3]
        by_cases h4 : bt s (p : Int) = 10
        · rw [h4]
          exact skip (by unfold blankAt; rw [h4]; rfl)
        · rw [beq_eq_false_iff_ne.2 h4]
          have hb : ¬ ((p : Int) < (p : Int) ∨ blankAt s p = true) := by
            unfold blankAt
            rw [beq_eq_false_iff_ne.2 h2, beq_eq_false_iff_ne.2 h3, beq_eq_false_iff_ne.2 h4]
            simp
          rw [lexT_go s m p p hb]
          obtain ⟨q, hq, hA⟩ := next_agree s (by omega) p (by omega) k (by omega)
          rw [falseworkref16_Lex.j1]
          rw [if_neg (by simp), hq, Option.bind_some]
          have hsd := sound_one (from_ s p) (by rw [from_size]; omega)
          rw [tok_from]
          rcases hA with ⟨h5, h6⟩ | ⟨n, h5, h6, rfl⟩
          · rw [if_pos h5, h6, if_neg (by simp)]
            rfl
          · have hn : n ≤ s.size - p := by
              rcases hsd with h7 | ⟨n', _, h8, h9, _⟩
              · omega
              · rw [from_size] at h8; omega
            rw [if_neg (show ¬ ((oneR (from_ s p)).2.2.2.2.2.2.2 = 0) by omega), h6, wrap_small (i := (p : Int) + (n : Int)) (by omega) (by omega)]
            show (if true = true then (if acc.length < 1954687338268 then _ else none) else _) = _
            rw [if_pos rfl, if_pos (by omega)]
            obtain ⟨m', rfl⟩ : ∃ m', m = m' + (n - 1) := ⟨m - (n - 1), by omega⟩
            have hj := lexT_jump s (n - 1) m' (p + 1)
            rw [show p + 1 + (n - 1) = p + n from by omega] at hj
            rw [show (p : Int) + (n : Int) = ((p + n : Nat) : Int) from by omega, hj,
              ref_loop s hs M m' k (p + n) _ (by omega) (by omega) (by simp; omega) (by omega)]
            cases lexT s m' (p + n) ((p + n : Nat) : Int) with
            | error e => rfl
            | ok l =>
              simp only [refLR, List.map_cons, List.append_assoc, List.cons_append]
              rfl
theorem ref_lex_eq (s : ByteArray) (k : Nat) (hk : 5000 < k) : falseworkref16_Lex.f k s = some (if 400 < s.size then ([], 0, 2) else refLR s [] (lexT s s.size 0 0)) := by
  unfold falseworkref16_Lex.f
  by_cases h : 400 < s.size
  · rw [if_pos (by omega), if_pos h]
  · rw [if_neg (by omega), if_neg h]
    exact ref_loop s (by omega) s.size s.size k 0 [] (Nat.le_refl _) (by omega) (by simp) (by omega)
theorem rd39 (l : List S39) (i : Nat) (h : i < l.length) : rd_T39 l (i : Int) = l[i] := by
  unfold rd_T39
  simp [List.getD, h]
theorem rd47 (l : List S47) (i : Nat) (h : i < l.length) : rd_T47 l (i : Int) = l[i] := by
  unfold rd_T47
  simp [List.getD, h]
theorem same_loop (l : List S39) (hl : l.length ≤ 100000) : ∀ (m k i : Nat), i + m = l.length → m < k → falseworklaw16_same.l0 k l (l.map conv) (i : Int) = some true
  | _, 0, _, _, hk => by omega
  | 0, k + 1, i, h, hk => by
    unfold falseworklaw16_same.l0
    rw [if_neg (by omega)]
  | m + 1, k + 1, i, h, hk => by
    have hw : wrap64 ((i : Int) + 1) = ((i + 1 : Nat) : Int) := by rw [wrap_small (by omega) (by omega)]; omega
    have h1 : i < l.length := by omega
    unfold falseworklaw16_same.l0
    rw [if_pos (by omega), if_pos (by omega), if_pos (by rw [List.length_map]; omega), rd39 l i h1, rd47 (l.map conv) i (by rw [List.length_map]; exact h1), List.getElem_map, hw]
    generalize l[i] = t
    rw [if_pos (show t.f0 = (conv t).f0 from rfl), if_pos (show t.f1.toList = (conv t).f1.toList from rfl), if_neg (by simp [conv]), if_pos (show t.f3 = (conv t).f3 from rfl)]
    exact same_loop l hl m k (i + 1) (by omega) (by omega)
theorem lexT_len (s : ByteArray) : ∀ (m i : Nat) (nx : Int) (l : List S39), lexT s m i nx = .ok l → l.length ≤ m
  | 0, i, nx, l, h => by cases (show Except.ok [] = Except.ok l from h); simp
  | m + 1, i, nx, l, h => by
    by_cases hc : (i : Int) < nx ∨ blankAt s i = true
    · rw [lexT_skip _ _ _ _ hc] at h
      have := lexT_len s m (i + 1) nx l h
      omega
    · rw [lexT_go _ _ _ _ hc] at h
      split at h
      · cases h
      · split at h
        · rename_i l' hl'
          have := lexT_len s m (i + 1) _ l' hl'
          cases h
          simp
          omega
        · cases h
theorem same_eq (l : List S39) (hl : l.length ≤ 100000) (k : Nat) (hk : l.length < k) : falseworklaw16_same.f k l (l.map conv) = some true := by
  unfold falseworklaw16_same.f
  rw [if_pos (by rw [List.length_map])]
  exact same_loop l hl l.length k 0 (by omega) hk
theorem awake_all (k : Nat) (hk : 4000 < k) : falseworklaw16_awake.f k = some true := by
  unfold falseworklaw16_awake.f
  rw [lex_lex_eq _ k hk, lex_lex_eq _ k hk]
  decide +kernel
theorem pure_true (s : ByteArray) : ∃ k, falseworklaw16_LexReads.f k s = some true := by
  refine ⟨6000, ?_⟩
  unfold falseworklaw16_LexReads.f
  rw [lex_lex_eq s 6000 (by decide), ref_lex_eq s 6000 (by decide), awake_all 6000 (by decide), Option.bind_some, Option.bind_some]
  by_cases h : 400 < s.size
  · rw [if_pos h, if_pos h]
    have := same_eq [] (by simp) 6000 (by simp)
    simp only [List.map_nil] at this
    simp only [this, falseworklaw16_num.f, Option.bind_some]
    rfl
  · rw [if_neg h, if_neg h]
    cases hl : lexT s s.size 0 0 with
    | error e =>
      have := same_eq [] (by simp) 6000 (by simp)
      simp only [List.map_nil] at this
      simp only [lexR, refLR, this, falseworklaw16_num.f, Option.bind_some]
      simp
    | ok l =>
      have hlen := lexT_len s s.size 0 0 l hl
      have := same_eq (l ++ [endTok s]) (by simp; omega) 6000 (by simp; omega)
      rw [List.map_append] at this
      simp only [lexR, refLR, List.nil_append]
      rw [show [conv (endTok s)] = [endTok s].map conv from rfl, this]
      simp only [falseworklaw16_num.f, Option.bind_some]
      rfl
end Go.Proofs.YtjehfmimbbdnkaaDoor.LexPure
