/- Own texts of this session, packed by its program wip/pp/pack.py: lemmas and walks of functions. -/
import Derived.WalkKit
import Derived.WalkLawsBesides
import Derived.OwnWalk
import Derived.Lib.Hide
import Derived.Laws.Externs
import Derived.Test.YtjgomlcdmpcoaaaDoorProg
import Derived.Deep.QuietTactic
import Derived.BigQuiet
import Derived.Test.YtjgomlcdmpcoaaaDoorKCC0
import Derived.Test.YtjgomlcdmpcoaaaDoorKCC1
import Derived.Test.YtjgomlcdmpcoaaaDoorKCC3
import Derived.Test.YtjgomlcdmpcoaaaDoorKCC4
import Derived.Test.YtjgomlcdmpcoaaaDoorKCC5
import Derived.Test.YtjgomlcdmpcoaaaDoorKCC6
namespace Go.Proofs.YtjgomlcdmpcoaaaDoor.D
open Go.RowKit Go.Proofs.YtjgomlcdmpcoaaaDoorW.PrintWords Go.Proofs.YtjgomlcdmpcoaaaDoorW.PrintLast Go.Proofs.YtjgomlcdmpcoaaaDoorW.PrintMore
attribute [local go_sem] max2_int min2_int max_two min_two max_three min_three max_four min_four
set_option linter.unusedVariables false
set_option linter.unusedSimpArgs false
mutual
def falseworkref6_Name.j0 : Nat → ByteArray → Bool → Option (Bool)
 | 0, _, _ => none
 | k + 1, x0, x24 => if x24 = true then (some false) else (falseworkref6_Name.l0 k x0 0)
def falseworkref6_Name.l0 : Nat → ByteArray → Int → Option (Bool)
 | 0, _, _ => none
 | k + 1, x0, x3 => if x3 < (x0.size : Int) then (if 0 ≤ x3 then ((falseworkref16_Letter.f (bt x0 x3)).bind fun t134 => (if t134 = true then (falseworkref6_Name.l0 k x0 (wrap64 (x3 + 1))) else (some false))) else (none)) else (some true)
end
def falseworkref6_Name.f (k : Nat) (a0 : ByteArray) : Option (Bool) := if a0.toList = ([] : List UInt8) then (falseworkref6_Name.j0 k a0 true) else (if (a0.size : Int) > 16 then (falseworkref6_Name.j0 k a0 true) else (if 0 < (a0.size : Int) then (if (bt a0 0) < 97 then (falseworkref6_Name.j0 k a0 true) else (if (bt a0 0) > 122 then (falseworkref6_Name.j0 k a0 true) else ((falseworkref16_Word.f a0).bind fun t133 => (falseworkref6_Name.j0 k a0 t133)))) else (none)))
theorem falseworkref6_Name.mono_l : ∀ k, (∀ y0 y1, LeO (falseworkref6_Name.j0 k y0 y1) (falseworkref6_Name.j0 (k + 1) y0 y1)) ∧ (∀ y0 y1, LeO (falseworkref6_Name.l0 k y0 y1) (falseworkref6_Name.l0 (k + 1) y0 y1))
 | 0 => ⟨fun _ _ r h => by simp [falseworkref6_Name.j0] at h, fun _ _ r h => by simp [falseworkref6_Name.l0] at h⟩
 | k + 1 => by
  obtain ⟨ih0, ih1⟩ := falseworkref6_Name.mono_l k
  refine ⟨?_, ?_⟩
  ·intro y0 y1
   unfold falseworkref6_Name.j0
   repeat' first
   | (with_reducible exact ih0 _ _)
   | (with_reducible exact ih1 _ _)
   | (with_reducible exact LeO.refl _)
   | (with_reducible exact LeO.none _)
   | (with_reducible refine LeO.ite ?_ ?_)
   | (with_reducible refine LeO.bind ?_ (fun _ => ?_))
   | exact ih0 _ _
   | exact ih1 _ _
   | exact LeO.none _
   | refine LeO.ite ?_ ?_
   | refine LeO.bind ?_ (fun _ => ?_)
  ·intro y0 y1
   unfold falseworkref6_Name.l0
   repeat' first
   | (with_reducible exact ih0 _ _)
   | (with_reducible exact ih1 _ _)
   | (with_reducible exact LeO.refl _)
   | (with_reducible exact LeO.none _)
   | (with_reducible refine LeO.ite ?_ ?_)
   | (with_reducible refine LeO.bind ?_ (fun _ => ?_))
   | exact ih0 _ _
   | exact ih1 _ _
   | exact LeO.none _
   | refine LeO.ite ?_ ?_
   | refine LeO.bind ?_ (fun _ => ?_)
theorem falseworkref6_Name.mono : ∀ a0 k, LeO (falseworkref6_Name.f k a0) (falseworkref6_Name.f (k + 1) a0) := by
 intro a0 k
 obtain ⟨ih0, ih1⟩ := falseworkref6_Name.mono_l k
 unfold falseworkref6_Name.f
 repeat' first
   | (with_reducible exact ih0 _ _)
   | (with_reducible exact ih1 _ _)
   | (with_reducible exact LeO.refl _)
   | (with_reducible exact LeO.none _)
   | (with_reducible refine LeO.ite ?_ ?_)
   | (with_reducible refine LeO.bind ?_ (fun _ => ?_))
   | exact ih0 _ _
   | exact ih1 _ _
   | exact LeO.none _
   | refine LeO.ite ?_ ?_
   | refine LeO.bind ?_ (fun _ => ?_)
set_option maxHeartbeats 8000000 in
set_option maxRecDepth 100000 in
theorem falseworkref6_Name.calls (k : Nat) (a0 : ByteArray) (r : Bool) (w : World) (h : falseworkref6_Name.f k a0 = some r) :
  Calls Tryd.prog 34 #[.string a0] w fun e w' => e = .returned (.bool r) ∧ Drawn0 w w' := by
 have H : (if a0.toList = ([] : List UInt8) then (falseworkref6_Name.j0 k a0 true) else (if (a0.size : Int) > 16 then (falseworkref6_Name.j0 k a0 true) else (if 0 < (a0.size : Int) then (if (bt a0 0) < 97 then (falseworkref6_Name.j0 k a0 true) else (if (bt a0 0) > 122 then (falseworkref6_Name.j0 k a0 true) else ((falseworkref16_Word.f a0).bind fun t133 => (falseworkref6_Name.j0 k a0 t133)))) else (none)))) = some r := h
 clear h; have HC2 := Aside0.mk H; clear H; go_enter Tryd.func34, Tryd.ntmps34
 go_upto_region 1 with (fail)
 go_cut [24] (fun v24 wc => ∃ (kq : Nat) (x24_1 : Bool), v24 = .bool x24_1 ∧ Aside0 (falseworkref6_Name.j0 kq a0 x24_1 = some r) ∧ Aside0 (kq ≤ k) ∧ Drawn0 w wc)
 case first =>
  have H := HC2.out; clear HC2; by_cases c3 : a0.toList = ([] : List UInt8)
  ·rw [if_pos c3] at H
   have c3b0 : (a0.toList == ([] : List UInt8)) = true := beq_iff_eq.mpr c3
   have c3b1 : (a0.toList != ([] : List UInt8)) = false := bne_eq_false_iff_eq.mpr c3
   clear c3
   (first | rw [c3b0] | (simp only [i64_w, i32_w]; rw [c3b0]) | skip)
   have H' := Aside0.mk H; clear H; go_wp2; go_meet
   case rel => exact ⟨_, (true), (by first | rfl | (simp; done) | (simp [*]; done)), H', ⟨by first | omega | exact Nat.le_refl _⟩, by repeat (first | exact Drawn0.refl _ | apply Drawn0.step)⟩
  ·rw [if_neg c3] at H
   have c3b0 : (a0.toList == ([] : List UInt8)) = false := beq_eq_false_iff_ne.mpr c3
   have c3b1 : (a0.toList != ([] : List UInt8)) = true := bne_iff_ne.mpr c3
   (first | rw [c3b0] | (simp only [i64_w, i32_w]; rw [c3b0]) | skip)
   by_cases c4 : (a0.size : Int) > 16
   ·rw [if_pos c4] at H
    have c4b0 : decide (16 < (a0.size : Int)) = true := decide_eq_true c4
    have c4b1 : decide (16 < a0.size) = true := decide_eq_true (by omega)
    clear c4; have H' := Aside0.mk H; clear H; go_wp2; go_meet
    case rel => exact ⟨_, (true), (by first | rfl | (simp; done) | (simp [*]; done)), H', ⟨by first | omega | exact Nat.le_refl _⟩, by repeat (first | exact Drawn0.refl _ | apply Drawn0.step)⟩
   ·rw [if_neg c4] at H
    have c4b0 : decide (16 < (a0.size : Int)) = false := decide_eq_false c4
    have c4b1 : decide (16 < a0.size) = false := decide_eq_false (by omega)
    clear c4; by_cases c5 : 0 < (a0.size : Int)
    ·rw [if_pos c5] at H
     have c5b0 : decide (0 < (a0.size : Int)) = true := decide_eq_true c5
     have c5b1 : decide (0 < a0.size) = true := decide_eq_true (by omega)
     clear c5; by_cases c7 : (bt a0 0) < 97
     ·rw [if_pos c7] at H
      have c7b0 : decide ((bt a0 0) < 97) = true := decide_eq_true c7
      clear c7; have H' := Aside0.mk H; clear H; have p6 : 0 ≤ (0 : Int) := (by omega)
      have q6 : 0 < a0.size := (by have : (0 : Int) < (a0.size : Int) := of_decide_eq_true (by first | (with_reducible assumption) | assumption); omega)
      have hx6 : ∀ h : 0 < a0.size, ((a0[0]'h).toNat : Int) = bt a0 0 := bt_at a0 0
      clear p6; have qi6 : (0 < (a0.size : Int)) = True := eq_true (of_decide_eq_true (by first | (with_reducible assumption) | assumption))
      replace q6 := eq_true q6
      go_wp2; go_meet
      case rel => exact ⟨_, (true), (by first | rfl | (simp; done) | (simp [*]; done)), H', ⟨by first | omega | exact Nat.le_refl _⟩, by repeat (first | exact Drawn0.refl _ | apply Drawn0.step)⟩
     ·rw [if_neg c7] at H
      have c7b0 : decide ((bt a0 0) < 97) = false := decide_eq_false c7
      clear c7; by_cases c9 : (bt a0 0) > 122
      ·rw [if_pos c9] at H
       have c9b0 : decide (122 < (bt a0 0)) = true := decide_eq_true c9
       clear c9; have H' := Aside0.mk H; clear H; have p6 : 0 ≤ (0 : Int) := (by omega)
       have q6 : 0 < a0.size := (by have : (0 : Int) < (a0.size : Int) := of_decide_eq_true (by first | (with_reducible assumption) | assumption); omega)
       have hx6 : ∀ h : 0 < a0.size, ((a0[0]'h).toNat : Int) = bt a0 0 := bt_at a0 0
       clear p6; have qi6 : (0 < (a0.size : Int)) = True := eq_true (of_decide_eq_true (by first | (with_reducible assumption) | assumption))
       replace q6 := eq_true q6
       have p8 : 0 ≤ (0 : Int) := (by omega)
       have q8 : 0 < a0.size := (by have : (0 : Int) < (a0.size : Int) := of_decide_eq_true (by first | (with_reducible assumption) | assumption); omega)
       have hx8 : ∀ h : 0 < a0.size, ((a0[0]'h).toNat : Int) = bt a0 0 := bt_at a0 0
       clear p8; have qi8 : (0 < (a0.size : Int)) = True := eq_true (of_decide_eq_true (by first | (with_reducible assumption) | assumption))
       replace q8 := eq_true q8
       go_wp2; go_meet
       case rel => exact ⟨_, (true), (by first | rfl | (simp; done) | (simp [*]; done)), H', ⟨by first | omega | exact Nat.le_refl _⟩, by repeat (first | exact Drawn0.refl _ | apply Drawn0.step)⟩
      ·rw [if_neg c9] at H
       have c9b0 : decide (122 < (bt a0 0)) = false := decide_eq_false c9
       clear c9; replace H := Option.bind_eq_some_iff.mp H; obtain ⟨t133, A100, H⟩ := H
       replace H : (falseworkref6_Name.j0 k a0 t133) = some r := H
       have A10 := Aside0.mk A100; clear A100; have H' := Aside0.mk H; clear H; have p6 : 0 ≤ (0 : Int) := (by omega)
       have q6 : 0 < a0.size := (by have : (0 : Int) < (a0.size : Int) := of_decide_eq_true (by first | (with_reducible assumption) | assumption); omega)
       have hx6 : ∀ h : 0 < a0.size, ((a0[0]'h).toNat : Int) = bt a0 0 := bt_at a0 0
       clear p6; have qi6 : (0 < (a0.size : Int)) = True := eq_true (of_decide_eq_true (by first | (with_reducible assumption) | assumption))
       replace q6 := eq_true q6
       have p8 : 0 ≤ (0 : Int) := (by omega)
       have q8 : 0 < a0.size := (by have : (0 : Int) < (a0.size : Int) := of_decide_eq_true (by first | (with_reducible assumption) | assumption); omega)
       have hx8 : ∀ h : 0 < a0.size, ((a0[0]'h).toNat : Int) = bt a0 0 := bt_at a0 0
       clear p8; have qi8 : (0 < (a0.size : Int)) = True := eq_true (of_decide_eq_true (by first | (with_reducible assumption) | assumption))
       replace q8 := eq_true q8
       go_wp2_with (first | (go_at_call 72; (with_reducible refine (falseworkref16_Word.calls a0 t133 _ A10.out).mono ?_); rintro e w' ⟨rfl, ⟨nd, rfl⟩⟩))
       go_meet
       case rel => exact ⟨_, (t133), (by first | rfl | (simp; done) | (simp [*]; done)), H', ⟨by first | omega | exact Nat.le_refl _⟩, by repeat (first | exact Drawn0.refl _ | apply Drawn0.step)⟩
    ·rw [if_neg c5] at H
     exact absurd H (by simp)
 case rest =>
  clear HC2; (try clear p2); (try clear c3); (try clear c3b0); (try clear c3b1); (try clear c4); (try clear c4b0); (try clear c4b1); (try clear c5); (try clear c5b0); (try clear c5b1); (try clear p6)
  (try clear q6); (try clear hx6); (try clear qi6); (try clear c7); (try clear c7b0); (try clear p8); (try clear q8); (try clear hx8); (try clear qi8); (try clear c9); (try clear c9b0); (try clear p6)
  (try clear p8); (try clear q6); (try clear q8); obtain ⟨kq, x24_1, rfl, HA, HJ1, ⟨mc1, rfl⟩⟩ := hcut
  cases kq with
  | zero => exact absurd HA.out (by simp [falseworkref6_Name.j0])
  | succ kj1 =>
   have H := HA.out; clear HA; simp only [falseworkref6_Name.j0] at H
   by_cases c11 : x24_1 = true
   ·subst c11
    have H1 : (some false) = some r := by rw [if_pos rfl] at H; exact H
    clear H; have H := H1; clear H1; obtain rfl := Option.some.inj H; go_wp2; go_ret; exact ⟨by first | rfl | (simp; done) | (simp [*]; done), by repeat (first | exact Drawn0.refl _ | apply Drawn0.step)⟩
   ·replace c11 := Bool.eq_false_iff.mpr c11
    subst c11; have H1 : (falseworkref6_Name.l0 kj1 a0 0) = some r := by rw [if_neg (show ¬ (false = true) by decide)] at H; exact H
    clear H; have H := H1; clear H1; have H' := Aside0.mk H; clear H; go_wp2; go_loopg [3] kj1 (fun kq v3 w' => ∃ (x3_2 : Int), v3 = .int .i64 x3_2 ∧ Aside0 (falseworkref6_Name.l0 kq a0 x3_2 = some r) ∧ Aside0 (kq ≤ kj1) ∧ Drawn0 w w')
    case atStart => exact ⟨(0), (by first | rfl | (simp; done) | (simp [*]; done)), H', ⟨Nat.le_refl _⟩, by repeat (first | exact Drawn0.refl _ | apply Drawn0.step)⟩
    case round =>
     clear H'; (try clear c1); (try clear p2); (try clear c3); (try clear c3b0); (try clear c3b1); (try clear c4); (try clear c4b0); (try clear c4b1); (try clear c5); (try clear c5b0); (try clear c5b1)
     (try clear p6); (try clear q6); (try clear hx6); (try clear qi6); (try clear c7); (try clear c7b0); (try clear p8); (try clear q8); (try clear hx8); (try clear qi8); (try clear c9); (try clear c9b0)
     (try clear c11); (try clear p2); (try clear p6); (try clear p8); (try clear q6); (try clear q8); obtain ⟨x3_2, rfl, HA, HK2, ⟨m2, rfl⟩⟩ := hrel
     cases gk with
     | zero => exact absurd HA.out (by simp [falseworkref6_Name.l0])
     | succ k2 =>
      have H := HA.out; clear HA; simp only [falseworkref6_Name.l0] at H
      by_cases c12 : x3_2 < (a0.size : Int)
      ·rw [if_pos c12] at H
       have c12b0 : decide (x3_2 < (a0.size : Int)) = true := decide_eq_true c12
       clear c12; by_cases c13 : 0 ≤ x3_2
       ·rw [if_pos c13] at H
        have c13b0 : decide (0 ≤ x3_2) = true := decide_eq_true c13
        clear c13; replace H := Option.bind_eq_some_iff.mp H; obtain ⟨t134, A150, H⟩ := H
        replace H : (if t134 = true then (falseworkref6_Name.l0 k2 a0 (wrap64 (x3_2 + 1))) else (some false)) = some r := H
        have A15 := Aside0.mk A150; clear A150; by_cases c16 : t134 = true
        ·subst c16
         have H1 : (falseworkref6_Name.l0 k2 a0 (wrap64 (x3_2 + 1))) = some r := by rw [if_pos rfl] at H; exact H
         clear H; have H := H1; clear H1; have H' := Aside0.mk H; clear H; have p14 : 0 ≤ (x3_2 : Int) := of_decide_eq_true (by first | (with_reducible assumption) | assumption)
         have q14 : x3_2 < (a0.size : Int) := of_decide_eq_true (by first | (with_reducible assumption) | assumption)
         have hx14 := bt_at a0 x3_2
         replace p14 := eq_true p14
         replace q14 := eq_true q14
         go_wp2_with (first | ((with_reducible refine gate_callee (f := 73) rfl ?_); refine goesL_ (some 34) rfl rfl Tryd.func73 (by kernel_rfl) rfl #[.int .u8 (bt a0 x3_2)] rfl (by (try simp only [List.map_toArray, List.map_cons, List.map_nil]); first | done | rfl | (simp only [List.length_drop, List.length_take]; rfl)) ?_; (with_reducible refine (falseworkref16_Letter.calls (bt a0 x3_2) true _ A15.out).mono ?_); rintro e w' ⟨rfl, ⟨nd, rfl⟩⟩; refine ⟨_, rfl, ?_⟩))
         go_roundg k2
         case measure => have := HJ1.out; have := HK2.out; omega
         case rel => exact ⟨(wrap64 (x3_2 + 1)), (by first | rfl | (simp; done) | (simp [*]; done)), H', ⟨by have := HJ1.out; have := HK2.out; omega⟩, by repeat (first | exact Drawn0.refl _ | apply Drawn0.step)⟩
        ·replace c16 := Bool.eq_false_iff.mpr c16
         subst c16; have H1 : (some false) = some r := by rw [if_neg (show ¬ (false = true) by decide)] at H; exact H
         clear H; have H := H1; clear H1; obtain rfl := Option.some.inj H; have p14 : 0 ≤ (x3_2 : Int) := of_decide_eq_true (by first | (with_reducible assumption) | assumption)
         have q14 : x3_2 < (a0.size : Int) := of_decide_eq_true (by first | (with_reducible assumption) | assumption)
         have hx14 := bt_at a0 x3_2
         replace p14 := eq_true p14
         replace q14 := eq_true q14
         go_wp2_with (first | ((with_reducible refine gate_callee (f := 73) rfl ?_); refine goesL_ (some 34) rfl rfl Tryd.func73 (by kernel_rfl) rfl #[.int .u8 (bt a0 x3_2)] rfl (by (try simp only [List.map_toArray, List.map_cons, List.map_nil]); first | done | rfl | (simp only [List.length_drop, List.length_take]; rfl)) ?_; (with_reducible refine (falseworkref16_Letter.calls (bt a0 x3_2) false _ A15.out).mono ?_); rintro e w' ⟨rfl, ⟨nd, rfl⟩⟩; refine ⟨_, rfl, ?_⟩))
         go_ret; exact ⟨by first | rfl | (simp; done) | (simp [*]; done), by repeat (first | exact Drawn0.refl _ | apply Drawn0.step)⟩
       ·rw [if_neg c13] at H
        exact absurd H (by simp)
      ·rw [if_neg c12] at H
       have c12b0 : decide (x3_2 < (a0.size : Int)) = false := decide_eq_false c12
       clear c12; obtain rfl := Option.some.inj H; go_wp2; go_ret; exact ⟨by first | rfl | (simp; done) | (simp [*]; done), by repeat (first | exact Drawn0.refl _ | apply Drawn0.step)⟩
end Go.Proofs.YtjgomlcdmpcoaaaDoor.D
namespace Go.Proofs.YtjgomlcdmpcoaaaDoor.H
open Go.RowKit Go.Proofs.YtjgomlcdmpcoaaaDoorW.PrintWords Go.Proofs.YtjgomlcdmpcoaaaDoorW.PrintLast Go.Proofs.YtjgomlcdmpcoaaaDoorW.PrintMore
open Go.Proofs.YtjgomlcdmpcoaaaDoor.D Go.Proofs.YtjgomlcdmpcoaaaDoor
theorem str_index (l : List ByteArray) (s : ByteArray) (hl : l.length < 1000000) : ∀ (m k i : Nat), i + m = l.length → m < k →
    ∃ j, slices_Index_string_string.l0 k l s (l.length : Int) (i : Int) = some j ∧ decide (j ≥ 0) = (l.drop i).any (fun w => s.toList == w.toList)
  | 0, k + 1, i, h, _ => by
    obtain rfl : i = l.length := by omega
    refine ⟨-1, ?_, ?_⟩
    · simp [slices_Index_string_string.l0]
    · simp
  | m + 1, k + 1, i, h, hk => by
    obtain ⟨j, hj, ha⟩ := str_index l s hl m k (i + 1) (by omega) (by omega)
    have hi : i < l.length := by omega
    have hd : l.drop i = l[i] :: l.drop (i + 1) := List.drop_eq_getElem_cons hi
    have hr : rdOf ByteArray.empty l (i : Int) = l[i] := by simp [rdOf, List.getD, hi]
    unfold slices_Index_string_string.l0
    rw [if_pos (by omega), if_pos (by omega), if_pos (by omega), hr, hd]
    by_cases hs : s.toList = l[i].toList
    · rw [if_pos hs]
      exact ⟨_, rfl, by rw [List.any_cons, beq_iff_eq.mpr hs, Bool.true_or]; exact decide_eq_true (by omega)⟩
    · rw [if_neg hs, wrap_small (by omega) (by omega)]
      refine ⟨j, by simpa using hj, ?_⟩
      rw [ha, List.any_cons, beq_eq_false_iff_ne.mpr hs, Bool.false_or]
theorem str_contains (l : List ByteArray) (s : ByteArray) (k : Nat) (hl : l.length < 1000000) (hk : l.length < k) :
    slices_Contains_string_string.f k l s = some (l.any (fun w => s.toList == w.toList)) := by
  obtain ⟨j, hj, ha⟩ := str_index l s hl l.length k 0 (by omega) (by omega)
  unfold slices_Contains_string_string.f slices_Index_string_string.f
  have hj' : slices_Index_string_string.l0 k l s (l.length : Int) 0 = some j := hj
  rw [hj', Option.bind_some, ha, List.drop_zero]
theorem words_len : wordsL.length = 32 := by decide +kernel
theorem bt_get (s : ByteArray) (i : Nat) (h : i < s.size) : bt s (i : Int) = ((s.data.toList[i]'(by rw [Array.length_toList]; exact h)).toNat : Int) := by
  unfold bt
  rw [dif_pos (by simpa using h)]
  simp [ByteArray.getElem_eq_getElem_data]
theorem drop_get (s : ByteArray) (i : Nat) (h : i < s.size) : s.data.toList.drop i = s.data.toList[i]'(by rw [Array.length_toList]; exact h) :: s.data.toList.drop (i + 1) :=
  List.drop_eq_getElem_cons (by rw [Array.length_toList]; exact h)
theorem namC_of (c : UInt8) : namC c = (if (c.toNat : Int) < 97 then (if (c.toNat : Int) < 48 then decide ((c.toNat : Int) = 95) else if (c.toNat : Int) > 57 then decide ((c.toNat : Int) = 95) else true)
    else if (c.toNat : Int) > 122 then (if (c.toNat : Int) < 48 then decide ((c.toNat : Int) = 95) else if (c.toNat : Int) > 57 then decide ((c.toNat : Int) = 95) else true) else true) := by
  unfold namC lowC
  rw [Bool.eq_iff_iff]
  repeat' split
  all_goals simp
  all_goals omega
theorem name_loop (s : ByteArray) (hs : s.size ≤ 16) : ∀ (m k i : Nat), i + m = s.size → m < k →
    desc_Name.l0 k s (s.size : Int) (i : Int) = some ((s.data.toList.drop i).all namC)
  | 0, k + 1, i, h, _ => by
    obtain rfl : i = s.size := by omega
    have : s.data.toList.drop s.size = [] := List.drop_eq_nil_of_le (by rw [Array.length_toList]; exact Nat.le_refl _)
    rw [this, desc_Name.l0, if_neg (by omega)]
    rfl
  | m + 1, k + 1, i, h, hk => by
    have hi : i < s.size := by omega
    have ih := name_loop s hs m k (i + 1) (by omega) (by omega)
    have hw : wrap64 ((i : Int) + 1) = ((i + 1 : Nat) : Int) := by rw [wrap_small (by omega) (by omega)]; omega
    rw [desc_Name.l0, if_pos (by omega), if_pos (by omega), if_pos (by omega), bt_get s i hi, hw, ih, drop_get s i hi, List.all_cons, namC_of]
    generalize s.data.toList[i] = c
    generalize (s.data.toList.drop (i + 1)).all namC = R
    repeat' split
    all_goals first | omega | simp_all
theorem nameB_if (s : ByteArray) : nameB s = (decide (1 ≤ s.size) && (decide (s.size ≤ 16) && (decide (97 ≤ bt s 0) && (decide (bt s 0 ≤ 122) && (!isWord s && s.data.toList.all namC))))) := by
  unfold nameB
  cases h : s.data.toList with
  | nil =>
    have : s.size = 0 := by
      have : s.data.toList.length = 0 := by rw [h]; rfl
      rw [Array.length_toList] at this
      exact this
    simp [this]
  | cons c l =>
    have hz : 0 < s.size := by show 0 < s.data.size; rw [← Array.length_toList, h]; simp
    have h0 : bt s 0 = (c.toNat : Int) := by
      have := bt_get s 0 hz
      simp only [h] at this
      exact this
    have h1 : decide (1 ≤ s.size) = true := decide_eq_true (by omega)
    have e1 : decide (97 ≤ (c.toNat : Int)) = decide (97 ≤ c.toNat) := by rw [decide_eq_decide]; omega
    have e2 : decide ((c.toNat : Int) ≤ 122) = decide (c.toNat ≤ 122) := by rw [decide_eq_decide]; omega
    simp only [h0, h1, Bool.true_and, lowC, e1, e2, Bool.and_assoc]
theorem desc_name (s : ByteArray) (k : Nat) (hk : 100 < k) : desc_Name.f k s = some (nameB s) := by
  have hc : slices_Contains_string_string.f k wordsL s = some (isWord s) := str_contains wordsL s k (by rw [words_len]; omega) (by rw [words_len]; omega)
  obtain ⟨k, rfl⟩ : ∃ m, k = m + 1 := ⟨k - 1, by omega⟩
  unfold desc_Name.f desc_words.f
  rw [nameB_if, Option.bind_some, hc, Option.bind_some]
  have hj : ∀ b, desc_Name.j0 (k + 1) s b = if b = true then some false else desc_Name.l0 k s (s.size : Int) 0 := fun _ => by rw [desc_Name.j0]
  simp only [hj]
  by_cases h1 : (s.size : Int) < 1
  · rw [if_pos h1, if_pos trivial, decide_eq_false (by omega : ¬ 1 ≤ s.size)]; rfl
  · rw [if_neg h1]
    by_cases h2 : (s.size : Int) > 16
    · rw [if_pos h2, if_pos trivial, decide_eq_false (by omega : ¬ s.size ≤ 16)]; simp
    · have hl := name_loop s (by omega) s.size k 0 (by omega) (by omega)
      have hl' : desc_Name.l0 k s (s.size : Int) 0 = some (s.data.toList.all namC) := hl
      rw [if_neg h2, if_pos (by omega), hl', decide_eq_true (by omega : 1 ≤ s.size), decide_eq_true (by omega : s.size ≤ 16)]
      by_cases h3 : bt s 0 < 97
      · rw [if_pos h3, if_pos trivial, decide_eq_false (by omega : ¬ 97 ≤ bt s 0)]; rfl
      · rw [if_neg h3, decide_eq_true (by omega : 97 ≤ bt s 0)]
        by_cases h4 : bt s 0 > 122
        · rw [if_pos h4, if_pos trivial, decide_eq_false (by omega : ¬ bt s 0 ≤ 122)]; rfl
        · rw [if_neg h4, decide_eq_true (by omega : bt s 0 ≤ 122)]
          cases isWord s <;> simp
theorem nameCalls : NameCalls := fun s w hG => desc_Name.calls 101 s (nameB s) w (desc_name s 101 (by decide)) hG
theorem chain (t : List UInt8) : ∀ l : List (List UInt8), l.foldr (fun w r => if t = w then some true else r) (some false) = some (l.any fun w => t == w)
  | [] => rfl
  | w :: l => by
    rw [List.foldr_cons, chain t l, List.any_cons]
    by_cases h : t = w
    · rw [if_pos h, beq_iff_eq.mpr h, Bool.true_or]
    · rw [if_neg h, beq_eq_false_iff_ne.mpr h, Bool.false_or]
def wordsT : List (List UInt8) := wordsL.map ByteArray.toList
theorem wordsT_eq : wordsT = [[105, 110, 115, 101, 114, 116], [105, 110, 116, 111], [118, 97, 108, 117, 101, 115], [117, 112, 100, 97, 116, 101], [115, 101, 116], [119, 104, 101, 114, 101], [97, 110, 100], [100, 101, 108, 101, 116, 101], [102, 114, 111, 109], [115, 101, 108, 101, 99, 116], [99, 114, 101, 97, 116, 101], [117, 110, 105, 113, 117, 101], [116, 97, 98, 108, 101], [105, 110, 100, 101, 120], [111, 110], [100, 114, 111, 112], [97, 108, 116, 101, 114], [97, 100, 100], [99, 111, 108, 117, 109, 110], [100, 101, 102, 97, 117, 108, 116], [110, 111, 116], [110, 117, 108, 108], [105, 115], [112, 114, 105, 109, 97, 114, 121], [107, 101, 121], [98, 111, 111, 108], [105, 110, 116], [102, 108, 111, 97, 116], [98, 121, 116, 101, 115], [116, 101, 120, 116], [116, 114, 117, 101], [102, 97, 108, 115, 101]] := by decide +kernel
theorem isWord_T (s : ByteArray) : isWord s = wordsT.any fun w => s.toList == w := by unfold isWord wordsT; rw [List.any_map]; rfl
theorem ref_word (s : ByteArray) : falseworkref16_Word.f s = some (isWord s) := by
  rw [isWord_T, ← chain, wordsT_eq]
  rfl
theorem ref_letter (c : UInt8) : falseworkref16_Letter.f (c.toNat : Int) = some (namC c) := by
  unfold falseworkref16_Letter.f falseworkref16_low.f falseworkref16_digit.f
  rw [namC_of]
  repeat' split
  all_goals simp
  all_goals first | omega | skip
  all_goals (repeat' split)
  all_goals first | omega | simp_all
  all_goals rfl
theorem ref_name_loop (s : ByteArray) (hs : s.size ≤ 16) : ∀ (m k i : Nat), i + m = s.size → m < k →
    falseworkref6_Name.l0 k s (i : Int) = some ((s.data.toList.drop i).all namC)
  | 0, k + 1, i, h, _ => by
    obtain rfl : i = s.size := by omega
    have : s.data.toList.drop s.size = [] := List.drop_eq_nil_of_le (by rw [Array.length_toList]; exact Nat.le_refl _)
    rw [this, falseworkref6_Name.l0, if_neg (by omega)]
    rfl
  | m + 1, k + 1, i, h, hk => by
    have hi : i < s.size := by omega
    have ih := ref_name_loop s hs m k (i + 1) (by omega) (by omega)
    have hw : wrap64 ((i : Int) + 1) = ((i + 1 : Nat) : Int) := by rw [wrap_small (by omega) (by omega)]; omega
    rw [falseworkref6_Name.l0, if_pos (by omega), if_pos (by omega), bt_get s i hi, hw, ih, drop_get s i hi, List.all_cons, ref_letter, Option.bind_some]
    cases namC s.data.toList[i] <;> simp
theorem ref_name (s : ByteArray) (k : Nat) (hk : 100 < k) : falseworkref6_Name.f k s = some (nameB s) := by
  obtain ⟨k, rfl⟩ : ∃ m, k = m + 1 := ⟨k - 1, by omega⟩
  unfold falseworkref6_Name.f
  rw [nameB_if, ref_word, Option.bind_some]
  have hj : ∀ b, falseworkref6_Name.j0 (k + 1) s b = if b = true then some false else falseworkref6_Name.l0 k s 0 := fun _ => by rw [falseworkref6_Name.j0]
  simp only [hj]
  have hz : (s.toList = ([] : List UInt8)) ↔ (s.size : Int) < 1 := by
    rw [ByteArray.toList_eq]
    constructor
    · intro h
      have h2 : s.data.toList.length = 0 := by rw [h]; rfl
      rw [Array.length_toList] at h2
      show (s.data.size : Int) < 1
      omega
    · intro h
      have h2 : (s.data.size : Int) < 1 := h
      refine List.eq_nil_of_length_eq_zero ?_
      rw [Array.length_toList]
      omega
  by_cases h1 : (s.size : Int) < 1
  · rw [if_pos (hz.2 h1), if_pos trivial, decide_eq_false (by omega : ¬ 1 ≤ s.size)]; rfl
  · rw [if_neg (fun h => h1 (hz.1 h))]
    by_cases h2 : (s.size : Int) > 16
    · rw [if_pos h2, if_pos trivial, decide_eq_false (by omega : ¬ s.size ≤ 16)]; simp
    · have hl := ref_name_loop s (by omega) s.size k 0 (by omega) (by omega)
      have hl' : falseworkref6_Name.l0 k s 0 = some (s.data.toList.all namC) := hl
      rw [if_neg h2, if_pos (by omega), hl', decide_eq_true (by omega : 1 ≤ s.size), decide_eq_true (by omega : s.size ≤ 16)]
      by_cases h3 : bt s 0 < 97
      · rw [if_pos h3, if_pos trivial, decide_eq_false (by omega : ¬ 97 ≤ bt s 0)]; rfl
      · rw [if_neg h3, decide_eq_true (by omega : 97 ≤ bt s 0)]
        by_cases h4 : bt s 0 > 122
        · rw [if_pos h4, if_pos trivial, decide_eq_false (by omega : ¬ bt s 0 ≤ 122)]; rfl
        · rw [if_neg h4, decide_eq_true (by omega : bt s 0 ≤ 122)]
          cases isWord s <;> simp
end Go.Proofs.YtjgomlcdmpcoaaaDoor.H
namespace Go.Proofs.YtjgomlcdmpcoaaaDoor
open Go.RowKit Go.Proofs.YtjgomlcdmpcoaaaDoorW.PrintWords Go.Proofs.YtjgomlcdmpcoaaaDoorW.PrintLast
def canonI (a : Int) : Int := if a % 9223372036854775808 > 9218868437227405312 then 9221120237041090560 else if a = 9223372036854775808 then 0 else a
def flo_Canon.f (a0 : Int) : Option Int := if 0 ≤ a0 then if a0 < 18446744073709551616 then some (canonI a0) else none else none
theorem signW : Ieee.double.signWeight = 9223372036854775808 := by decide +kernel
theorem binadeW : Ieee.double.binade = 4503599627370496 := by decide +kernel
theorem infW : Ieee.double.infRung = 9218868437227405312 := by decide +kernel
theorem signed_zero (s : Bool) (m k : Nat) : Ieee.signed s m k = 0 ↔ m = 0 := by
  unfold Ieee.signed
  have h2 : 2 ^ k ≠ 0 := Nat.pos_iff_ne_zero.1 (Nat.pow_pos (by decide))
  have h3 : m <<< k = 0 ↔ m = 0 := by rw [Nat.shiftLeft_eq, Nat.mul_eq_zero]; exact ⟨fun h => h.resolve_right h2, .inl⟩
  rw [← h3]
  generalize m <<< k = z
  cases s <;> simp
theorem order_self (d : Ieee.Datum) : (d.order d == some .eq) = !d.isNaN := by
  cases d with
  | number s m i =>
    simp only [Ieee.Datum.order, Ieee.Datum.isNaN]
    have h : ∀ a : Int, compare a a = Ordering.eq := fun a => by simp
    rw [h]
    rfl
  | infinity s => cases s <;> rfl
  | nan s f => rfl
theorem read_nan (n : Nat) : (Ieee.double.read n).isNaN = decide (n % 9223372036854775808 > 9218868437227405312) := by
  unfold Ieee.Format.read
  simp only [signW, binadeW, infW]
  generalize n % 9223372036854775808 = r
  split
  · rename_i h
    simp only [Ieee.Datum.isNaN]
    rw [decide_eq_false (by omega)]
  · split
    · rename_i h1 h
      simp only [Ieee.Datum.isNaN]
      rw [decide_eq_false (by omega)]
    · split
      · rename_i h
        subst h
        rfl
      · rename_i h1 h2 h3
        simp only [Ieee.Datum.isNaN]
        rw [decide_eq_true (by omega)]
theorem eq_self (n : Nat) : Op.floatEq .f64 n n = !decide (n % 9223372036854775808 > 9218868437227405312) := by
  rw [← read_nan]
  exact order_self _
theorem read_0 : Ieee.double.read 0 = .number false 0 Ieee.double.leastPlace := by rfl
theorem num_zero (s : Bool) (m : Nat) (i j : Int) : ((Ieee.Datum.number s m i).order (.number false 0 j) == some .eq) = decide (m = 0) := by
  simp only [Ieee.Datum.order]
  have h0 : ∀ k, Ieee.signed false 0 k = 0 := fun k => (signed_zero false 0 k).2 rfl
  rw [h0]
  by_cases hm : m = 0
  · rw [(signed_zero s m _).2 hm, decide_eq_true hm]
    rfl
  · rw [decide_eq_false hm]
    have h1 : Ieee.signed s m (i - min i j).toNat ≠ 0 := fun h => hm ((signed_zero s m _).1 h)
    generalize Ieee.signed s m (i - min i j).toNat = z at h1
    have h2 : compare z 0 ≠ Ordering.eq := by simpa using h1
    cases hc : compare z 0 <;> simp_all
theorem eq_zero (n : Nat) : Op.floatEq .f64 n 0 = decide (n % 9223372036854775808 = 0) := by
  show ((Ieee.double.read n).order (Ieee.double.read 0) == some .eq) = _
  rw [read_0]
  unfold Ieee.Format.read
  simp only [signW, binadeW, infW]
  generalize n % 9223372036854775808 = r
  split
  · rename_i h
    exact num_zero _ _ _ _
  · split
    · rename_i h1 h
      rw [num_zero, decide_eq_false (by omega), decide_eq_false (by omega)]
    · split
      · rename_i h
        rw [decide_eq_false (by omega)]
        cases (n / 9223372036854775808 % 2 == 1) <;> rfl
      · rw [decide_eq_false (by omega)]
        rfl
theorem from_run (n : Int) (w : World) : (callFunc 179 #[.int .u64 n]).run Tryd.prog w = .ok (.value (.float .f64 n.toNat)) w := by
  rw [run_callFunc_extern (e := Extern.MathFloatBits.float64frombits) Tryd.func179 (by kernel_rfl) (by kernel_rfl) (by kernel_rfl) (by kernel_rfl)]
  rfl
theorem bits_self (n : Nat) : (FloatKind.f64.format.order n n != some .eq) = decide (n % 9223372036854775808 > 9218868437227405312) := by
  have h := eq_self n
  unfold Op.floatEq at h
  rw [bne, h, Bool.not_not]
theorem bits_zero (n : Nat) : (FloatKind.f64.format.order n 0 == some .eq) = decide (n % 9223372036854775808 = 0) := eq_zero n
set_option maxHeartbeats 400000 in
theorem flo_Canon.calls (a0 : Int) (r : Int) (w : World) (h : flo_Canon.f a0 = some r) :
    Calls Tryd.prog 171 #[.int .u64 a0] w fun e w' => e = .returned (.int .u64 r) ∧ Drawn0 w w' := by
  unfold flo_Canon.f at h
  by_cases h0 : 0 ≤ a0
  · by_cases h1 : a0 < 18446744073709551616
    · rw [if_pos h0, if_pos h1] at h
      have hx : canonI a0 = r := Option.some.inj h
      have hr := from_run a0
      have hm : ((a0.toNat % 9223372036854775808 : Nat) : Int) = a0 % 9223372036854775808 := by omega
      unfold canonI at hx
      by_cases hn : a0 % 9223372036854775808 > 9218868437227405312
      · rw [if_pos hn] at hx
        have b1 : (FloatKind.f64.format.order a0.toNat a0.toNat != some .eq) = true := by rw [bits_self]; exact decide_eq_true (by omega)
        clear hm hn h h0 h1
        have HX := Lib.hid hx
        clear hx
        go_enter Tryd.func171, Tryd.ntmps171
        go_wp2
        go_ret
        exact ⟨by rw [← HX.out]; rfl, Drawn0.refl _⟩
      · rw [if_neg hn] at hx
        have b1 : (FloatKind.f64.format.order a0.toNat a0.toNat != some .eq) = false := by rw [bits_self]; exact decide_eq_false (by omega)
        by_cases hz : a0 % 9223372036854775808 = 0
        · have b2 : (FloatKind.f64.format.order a0.toNat 0 == some .eq) = true := by rw [bits_zero]; exact decide_eq_true (by omega)
          have hx2 : 0 = r := by
            rw [← hx]
            split
            · rfl
            · omega
          clear hm hn h h0 h1 hz hx
          have HX := Lib.hid hx2
          clear hx2
          go_enter Tryd.func171, Tryd.ntmps171
          go_wp2
          go_ret
          exact ⟨by rw [← HX.out]; rfl, Drawn0.refl _⟩
        · have b2 : (FloatKind.f64.format.order a0.toNat 0 == some .eq) = false := by rw [bits_zero]; exact decide_eq_false (by omega)
          have hx2 : a0 = r := by
            rw [← hx, if_neg (by omega)]
          clear hm hn h h0 h1 hz hx
          have HX := Lib.hid hx2
          clear hx2
          go_enter Tryd.func171, Tryd.ntmps171
          go_wp2
          go_ret
          exact ⟨by rw [HX.out]; rfl, Drawn0.refl _⟩
    · rw [if_pos h0, if_neg h1] at h
      cases h
  · rw [if_neg h0] at h
    cases h
end Go.Proofs.YtjgomlcdmpcoaaaDoor
namespace Go.Proofs.YtjgomlcdmpcoaaaDoor
open Go.RowKit Go.Proofs.YtjgomlcdmpcoaaaDoorW.PrintWords Go.Proofs.YtjgomlcdmpcoaaaDoorW.PrintLast
def mayB (k n f : Int) (s : ByteArray) : Bool :=
  if k = 0 then n == 0 && (f == 0 && (s.toList == ([] : List UInt8)))
  else if k = 1 then (n == 0 || n == 1) && (f == 0 && (s.toList == ([] : List UInt8)))
  else if k = 2 then f == 0 && (s.toList == ([] : List UInt8))
  else if k = 4 ∨ k = 5 then decide (s.size ≤ 40) && (n == 0 && f == 0)
  else false
def value_May.f (a0_0 : Int) (a0_1 : Int) (a0_2 : Int) (a0_3 : ByteArray) : Option Bool :=
  if a0_0 = 3 then (flo_Canon.f a0_2).bind fun t => some (t == a0_2 && (a0_1 == 0 && (a0_3.toList == ([] : List UInt8)))) else some (mayB a0_0 a0_1 a0_2 a0_3)
theorem ret_bool {a b : Bool} (h : a = b) : Ending.returned (.bool a) = Ending.returned (.bool b) := by rw [h]
set_option maxHeartbeats 1000000 in
theorem value_May.calls (a0_0 : Int) (a0_1 : Int) (a0_2 : Int) (a0_3 : ByteArray) (r : Bool) (w : World) (h : value_May.f a0_0 a0_1 a0_2 a0_3 = some r) :
    Calls Tryd.prog 144 #[.agg #[.int .i64 a0_0, .int .i64 a0_1, .int .u64 a0_2, .string a0_3]] w fun e w' => e = .returned (.bool r) ∧ Below w.heap.size w w' := by
  unfold value_May.f at h
  by_cases k3 : a0_0 = 3
  · rw [if_pos k3] at h
    subst k3
    obtain ⟨t, ht, hr⟩ := Option.bind_eq_some_iff.mp h
    have hx := Option.some.inj hr
    have HX := Lib.hid hx
    have HT := Lib.hid ht
    clear hx hr h ht
    by_cases hc : t = a0_2
    · have b1 : (t != a0_2) = false := bne_eq_false_iff_eq.mpr hc
      have HC := Lib.hid hc
      clear hc
      go_enter Tryd.func144, Tryd.ntmps144
      go_wp2
      go_quiet ((go_at_call 171; exact Calls.quiet_of ((flo_Canon.calls _ t _ HT.out).mono fun e w' h => ⟨h.1, h.2.out⟩)))
      go_wp2
      all_goals
        go_ret
        refine ⟨ret_bool ?_, by repeat (first | exact Below.refl _ _ | apply below_alloc | apply pw_below_drewN | apply below_drew1 | refine below_set ?_ (by first | exact Nat.le_refl _ | exact Nat.le_succ _))⟩
        rw [← HX.out, beq_iff_eq.2 HC.out]
        simp_all
    · have b1 : (t != a0_2) = true := bne_iff_ne.mpr hc
      have HC := Lib.hid hc
      clear hc
      go_enter Tryd.func144, Tryd.ntmps144
      go_wp2
      go_quiet ((go_at_call 171; exact Calls.quiet_of ((flo_Canon.calls _ t _ HT.out).mono fun e w' h => ⟨h.1, h.2.out⟩)))
      go_wp2
      go_ret
      refine ⟨ret_bool ?_, by repeat (first | exact Below.refl _ _ | apply below_alloc | apply pw_below_drewN | apply below_drew1 | refine below_set ?_ (by first | exact Nat.le_refl _ | exact Nat.le_succ _))⟩
      rw [← HX.out, beq_eq_false_iff_ne.2 HC.out]
      rfl
  · rw [if_neg k3] at h
    have hx := Option.some.inj h
    unfold mayB at hx
    clear h
    by_cases k0 : a0_0 = 0
    · subst k0
      rw [if_pos rfl] at hx
      have HX := Lib.hid hx
      clear hx k3
      go_enter Tryd.func144, Tryd.ntmps144
      go_wp2
      all_goals
        go_ret
        refine ⟨ret_bool ?_, by repeat (first | exact Below.refl _ _ | apply below_alloc | apply pw_below_drewN | apply below_drew1 | refine below_set ?_ (by first | exact Nat.le_refl _ | exact Nat.le_succ _))⟩
        rw [← HX.out]
        simp_all
    · rw [if_neg k0] at hx
      by_cases k1 : a0_0 = 1
      · subst k1
        rw [if_pos rfl] at hx
        clear k3 k0
        by_cases n0 : a0_1 = 0
        · have b0 : (a0_1 != 0) = false := bne_eq_false_iff_eq.mpr n0
          have e0 : (a0_1 == 0) = true := beq_iff_eq.mpr n0
          rw [e0] at hx
          clear n0
          have HX := Lib.hid hx
          clear hx
          go_enter Tryd.func144, Tryd.ntmps144
          go_wp2
          all_goals
            go_ret
            refine ⟨ret_bool ?_, by repeat (first | exact Below.refl _ _ | apply below_alloc | apply pw_below_drewN | apply below_drew1 | refine below_set ?_ (by first | exact Nat.le_refl _ | exact Nat.le_succ _))⟩
            rw [← HX.out]
            simp_all
        · have b0 : (a0_1 != 0) = true := bne_iff_ne.mpr n0
          have e0 : (a0_1 == 0) = false := beq_eq_false_iff_ne.mpr n0
          rw [e0] at hx
          clear n0
          by_cases n1 : a0_1 = 1
          · have b1 : (a0_1 != 1) = false := bne_eq_false_iff_eq.mpr n1
            have e1 : (a0_1 == 1) = true := beq_iff_eq.mpr n1
            rw [e1] at hx
            clear n1
            have HX := Lib.hid hx
            clear hx
            go_enter Tryd.func144, Tryd.ntmps144
            go_wp2
            all_goals
              go_ret
              refine ⟨ret_bool ?_, by repeat (first | exact Below.refl _ _ | apply below_alloc | apply pw_below_drewN | apply below_drew1 | refine below_set ?_ (by first | exact Nat.le_refl _ | exact Nat.le_succ _))⟩
              rw [← HX.out]
              simp_all
          · have b1 : (a0_1 != 1) = true := bne_iff_ne.mpr n1
            have e1 : (a0_1 == 1) = false := beq_eq_false_iff_ne.mpr n1
            rw [e1] at hx
            clear n1
            have HX := Lib.hid hx
            clear hx
            go_enter Tryd.func144, Tryd.ntmps144
            go_wp2
            all_goals
              go_ret
              refine ⟨ret_bool ?_, by repeat (first | exact Below.refl _ _ | apply below_alloc | apply pw_below_drewN | apply below_drew1 | refine below_set ?_ (by first | exact Nat.le_refl _ | exact Nat.le_succ _))⟩
              rw [← HX.out]
              simp_all
      · rw [if_neg k1] at hx
        by_cases k2 : a0_0 = 2
        · subst k2
          rw [if_pos rfl] at hx
          clear k3 k0 k1
          have HX := Lib.hid hx
          clear hx
          go_enter Tryd.func144, Tryd.ntmps144
          go_wp2
          all_goals
            go_ret
            refine ⟨ret_bool ?_, by repeat (first | exact Below.refl _ _ | apply below_alloc | apply pw_below_drewN | apply below_drew1 | refine below_set ?_ (by first | exact Nat.le_refl _ | exact Nat.le_succ _))⟩
            rw [← HX.out]
            simp_all
        · rw [if_neg k2] at hx
          have e0 : (a0_0 == 0) = false := beq_eq_false_iff_ne.mpr k0
          have e1 : (a0_0 == 1) = false := beq_eq_false_iff_ne.mpr k1
          have e2 : (a0_0 == 2) = false := beq_eq_false_iff_ne.mpr k2
          have e3 : (a0_0 == 3) = false := beq_eq_false_iff_ne.mpr k3
          by_cases k4 : a0_0 = 4
          · subst k4
            rw [if_pos (.inl rfl)] at hx
            clear k3 k0 k1 k2 e0 e1 e2 e3
            by_cases hs : a0_3.size ≤ 40
            · have b1 : decide (40 < (a0_3.size : Int)) = false := decide_eq_false (by omega)
              have b2 : decide (40 < a0_3.size) = false := decide_eq_false (by omega)
              rw [decide_eq_true hs] at hx
              clear hs
              have HX := Lib.hid hx
              clear hx
              go_enter Tryd.func144, Tryd.ntmps144
              go_wp2
              all_goals
                go_ret
                refine ⟨ret_bool ?_, by repeat (first | exact Below.refl _ _ | apply below_alloc | apply pw_below_drewN | apply below_drew1 | refine below_set ?_ (by first | exact Nat.le_refl _ | exact Nat.le_succ _))⟩
                rw [← HX.out]
                simp_all
            · have b1 : decide (40 < (a0_3.size : Int)) = true := decide_eq_true (by omega)
              have b2 : decide (40 < a0_3.size) = true := decide_eq_true (by omega)
              rw [decide_eq_false hs] at hx
              clear hs
              have HX := Lib.hid hx
              clear hx
              go_enter Tryd.func144, Tryd.ntmps144
              go_wp2
              all_goals
                go_ret
                refine ⟨ret_bool ?_, by repeat (first | exact Below.refl _ _ | apply below_alloc | apply pw_below_drewN | apply below_drew1 | refine below_set ?_ (by first | exact Nat.le_refl _ | exact Nat.le_succ _))⟩
                rw [← HX.out]
                simp_all
          · have e4 : (a0_0 == 4) = false := beq_eq_false_iff_ne.mpr k4
            by_cases k5 : a0_0 = 5
            · subst k5
              rw [if_pos (.inr rfl)] at hx
              clear k3 k0 k1 k2 k4 e0 e1 e2 e3 e4
              by_cases hs : a0_3.size ≤ 40
              · have b1 : decide (40 < (a0_3.size : Int)) = false := decide_eq_false (by omega)
                have b2 : decide (40 < a0_3.size) = false := decide_eq_false (by omega)
                rw [decide_eq_true hs] at hx
                clear hs
                have HX := Lib.hid hx
                clear hx
                go_enter Tryd.func144, Tryd.ntmps144
                go_wp2
                all_goals
                  go_ret
                  refine ⟨ret_bool ?_, by repeat (first | exact Below.refl _ _ | apply below_alloc | apply pw_below_drewN | apply below_drew1 | refine below_set ?_ (by first | exact Nat.le_refl _ | exact Nat.le_succ _))⟩
                  rw [← HX.out]
                  simp_all
              · have b1 : decide (40 < (a0_3.size : Int)) = true := decide_eq_true (by omega)
                have b2 : decide (40 < a0_3.size) = true := decide_eq_true (by omega)
                rw [decide_eq_false hs] at hx
                clear hs
                have HX := Lib.hid hx
                clear hx
                go_enter Tryd.func144, Tryd.ntmps144
                go_wp2
                all_goals
                  go_ret
                  refine ⟨ret_bool ?_, by repeat (first | exact Below.refl _ _ | apply below_alloc | apply pw_below_drewN | apply below_drew1 | refine below_set ?_ (by first | exact Nat.le_refl _ | exact Nat.le_succ _))⟩
                  rw [← HX.out]
                  simp_all
            · have e5 : (a0_0 == 5) = false := beq_eq_false_iff_ne.mpr k5
              rw [if_neg (by omega)] at hx
              clear k3 k0 k1 k2 k4 k5
              have HX := Lib.hid hx
              clear hx
              go_enter Tryd.func144, Tryd.ntmps144
              go_wp2
              all_goals
                go_ret
                refine ⟨ret_bool ?_, by repeat (first | exact Below.refl _ _ | apply below_alloc | apply pw_below_drewN | apply below_drew1 | refine below_set ?_ (by first | exact Nat.le_refl _ | exact Nat.le_succ _))⟩
                rw [← HX.out]
end Go.Proofs.YtjgomlcdmpcoaaaDoor
