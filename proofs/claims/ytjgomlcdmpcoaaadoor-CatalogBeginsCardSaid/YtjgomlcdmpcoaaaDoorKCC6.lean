/- Own texts of this session, packed by its program wip/pp/pack.py: lemmas and walks of functions. -/
import Derived.Test.YtjgomlcdmpcoaaaDoorKCC3
namespace Go.Proofs.YtjgomlcdmpcoaaaDoor.D
open Go.RowKit Go.Proofs.YtjgomlcdmpcoaaaDoorW.PrintWords Go.Proofs.YtjgomlcdmpcoaaaDoorW.PrintLast Go.Proofs.YtjgomlcdmpcoaaaDoorW.PrintMore
attribute [local go_sem] max2_int min2_int max_two min_two max_three min_three max_four min_four
set_option linter.unusedVariables false
set_option linter.unusedSimpArgs false
def falseworkref16_Word.f (a0 : ByteArray) : Option (Bool) := if a0.toList = ([105, 110, 115, 101, 114, 116] : List UInt8) then (some true) else (if a0.toList = ([105, 110, 116, 111] : List UInt8) then (some true) else (if a0.toList = ([118, 97, 108, 117, 101, 115] : List UInt8) then (some true) else (if a0.toList = ([117, 112, 100, 97, 116, 101] : List UInt8) then (some true) else (if a0.toList = ([115, 101, 116] : List UInt8) then (some true) else (if a0.toList = ([119, 104, 101, 114, 101] : List UInt8) then (some true) else (if a0.toList = ([97, 110, 100] : List UInt8) then (some true) else (if a0.toList = ([100, 101, 108, 101, 116, 101] : List UInt8) then (some true) else (if a0.toList = ([102, 114, 111, 109] : List UInt8) then (some true) else (if a0.toList = ([115, 101, 108, 101, 99, 116] : List UInt8) then (some true) else (if a0.toList = ([99, 114, 101, 97, 116, 101] : List UInt8) then (some true) else (if a0.toList = ([117, 110, 105, 113, 117, 101] : List UInt8) then (some true) else (if a0.toList = ([116, 97, 98, 108, 101] : List UInt8) then (some true) else (if a0.toList = ([105, 110, 100, 101, 120] : List UInt8) then (some true) else (if a0.toList = ([111, 110] : List UInt8) then (some true) else (if a0.toList = ([100, 114, 111, 112] : List UInt8) then (some true) else (if a0.toList = ([97, 108, 116, 101, 114] : List UInt8) then (some true) else (if a0.toList = ([97, 100, 100] : List UInt8) then (some true) else (if a0.toList = ([99, 111, 108, 117, 109, 110] : List UInt8) then (some true) else (if a0.toList = ([100, 101, 102, 97, 117, 108, 116] : List UInt8) then (some true) else (if a0.toList = ([110, 111, 116] : List UInt8) then (some true) else (if a0.toList = ([110, 117, 108, 108] : List UInt8) then (some true) else (if a0.toList = ([105, 115] : List UInt8) then (some true) else (if a0.toList = ([112, 114, 105, 109, 97, 114, 121] : List UInt8) then (some true) else (if a0.toList = ([107, 101, 121] : List UInt8) then (some true) else (if a0.toList = ([98, 111, 111, 108] : List UInt8) then (some true) else (if a0.toList = ([105, 110, 116] : List UInt8) then (some true) else (if a0.toList = ([102, 108, 111, 97, 116] : List UInt8) then (some true) else (if a0.toList = ([98, 121, 116, 101, 115] : List UInt8) then (some true) else (if a0.toList = ([116, 101, 120, 116] : List UInt8) then (some true) else (if a0.toList = ([116, 114, 117, 101] : List UInt8) then (some true) else (if a0.toList = ([102, 97, 108, 115, 101] : List UInt8) then (some true) else (some false))))))))))))))))))))))))))))))))
set_option maxHeartbeats 8000000 in
set_option maxRecDepth 100000 in
theorem falseworkref16_Word.calls (a0 : ByteArray) (r : Bool) (w : World) (h : falseworkref16_Word.f a0 = some r) :
  Calls Tryd.prog 72 #[.string a0] w fun e w' => e = .returned (.bool r) ∧ Drawn0 w w' := by
 have H : (if a0.toList = ([105, 110, 115, 101, 114, 116] : List UInt8) then (some true) else (if a0.toList = ([105, 110, 116, 111] : List UInt8) then (some true) else (if a0.toList = ([118, 97, 108, 117, 101, 115] : List UInt8) then (some true) else (if a0.toList = ([117, 112, 100, 97, 116, 101] : List UInt8) then (some true) else (if a0.toList = ([115, 101, 116] : List UInt8) then (some true) else (if a0.toList = ([119, 104, 101, 114, 101] : List UInt8) then (some true) else (if a0.toList = ([97, 110, 100] : List UInt8) then (some true) else (if a0.toList = ([100, 101, 108, 101, 116, 101] : List UInt8) then (some true) else (if a0.toList = ([102, 114, 111, 109] : List UInt8) then (some true) else (if a0.toList = ([115, 101, 108, 101, 99, 116] : List UInt8) then (some true) else (if a0.toList = ([99, 114, 101, 97, 116, 101] : List UInt8) then (some true) else (if a0.toList = ([117, 110, 105, 113, 117, 101] : List UInt8) then (some true) else (if a0.toList = ([116, 97, 98, 108, 101] : List UInt8) then (some true) else (if a0.toList = ([105, 110, 100, 101, 120] : List UInt8) then (some true) else (if a0.toList = ([111, 110] : List UInt8) then (some true) else (if a0.toList = ([100, 114, 111, 112] : List UInt8) then (some true) else (if a0.toList = ([97, 108, 116, 101, 114] : List UInt8) then (some true) else (if a0.toList = ([97, 100, 100] : List UInt8) then (some true) else (if a0.toList = ([99, 111, 108, 117, 109, 110] : List UInt8) then (some true) else (if a0.toList = ([100, 101, 102, 97, 117, 108, 116] : List UInt8) then (some true) else (if a0.toList = ([110, 111, 116] : List UInt8) then (some true) else (if a0.toList = ([110, 117, 108, 108] : List UInt8) then (some true) else (if a0.toList = ([105, 115] : List UInt8) then (some true) else (if a0.toList = ([112, 114, 105, 109, 97, 114, 121] : List UInt8) then (some true) else (if a0.toList = ([107, 101, 121] : List UInt8) then (some true) else (if a0.toList = ([98, 111, 111, 108] : List UInt8) then (some true) else (if a0.toList = ([105, 110, 116] : List UInt8) then (some true) else (if a0.toList = ([102, 108, 111, 97, 116] : List UInt8) then (some true) else (if a0.toList = ([98, 121, 116, 101, 115] : List UInt8) then (some true) else (if a0.toList = ([116, 101, 120, 116] : List UInt8) then (some true) else (if a0.toList = ([116, 114, 117, 101] : List UInt8) then (some true) else (if a0.toList = ([102, 97, 108, 115, 101] : List UInt8) then (some true) else (some false))))))))))))))))))))))))))))))))) = some r := h
 clear h; by_cases c2 : a0.toList = ([105, 110, 115, 101, 114, 116] : List UInt8)
 ·rw [if_pos c2] at H
  have c2b0 : (a0.toList == ([105, 110, 115, 101, 114, 116] : List UInt8)) = true := beq_iff_eq.mpr c2
  have c2b1 : (a0.toList != ([105, 110, 115, 101, 114, 116] : List UInt8)) = false := bne_eq_false_iff_eq.mpr c2
  clear c2; obtain rfl := Option.some.inj H; go_enter Tryd.func72, Tryd.ntmps72
  go_wp2; go_ret; exact ⟨by first | rfl | (simp; done) | (simp [*]; done), by repeat (first | exact Drawn0.refl _ | apply Drawn0.step)⟩
 ·rw [if_neg c2] at H
  have c2b0 : (a0.toList == ([105, 110, 115, 101, 114, 116] : List UInt8)) = false := beq_eq_false_iff_ne.mpr c2
  have c2b1 : (a0.toList != ([105, 110, 115, 101, 114, 116] : List UInt8)) = true := bne_iff_ne.mpr c2
  by_cases c3 : a0.toList = ([105, 110, 116, 111] : List UInt8)
  ·rw [if_pos c3] at H
   have c3b0 : (a0.toList == ([105, 110, 116, 111] : List UInt8)) = true := beq_iff_eq.mpr c3
   have c3b1 : (a0.toList != ([105, 110, 116, 111] : List UInt8)) = false := bne_eq_false_iff_eq.mpr c3
   clear c3; obtain rfl := Option.some.inj H; go_enter Tryd.func72, Tryd.ntmps72
   go_wp2; go_ret; exact ⟨by first | rfl | (simp; done) | (simp [*]; done), by repeat (first | exact Drawn0.refl _ | apply Drawn0.step)⟩
  ·rw [if_neg c3] at H
   have c3b0 : (a0.toList == ([105, 110, 116, 111] : List UInt8)) = false := beq_eq_false_iff_ne.mpr c3
   have c3b1 : (a0.toList != ([105, 110, 116, 111] : List UInt8)) = true := bne_iff_ne.mpr c3
   by_cases c4 : a0.toList = ([118, 97, 108, 117, 101, 115] : List UInt8)
   ·rw [if_pos c4] at H
    have c4b0 : (a0.toList == ([118, 97, 108, 117, 101, 115] : List UInt8)) = true := beq_iff_eq.mpr c4
    have c4b1 : (a0.toList != ([118, 97, 108, 117, 101, 115] : List UInt8)) = false := bne_eq_false_iff_eq.mpr c4
    clear c4; obtain rfl := Option.some.inj H; go_enter Tryd.func72, Tryd.ntmps72
    go_wp2; go_ret; exact ⟨by first | rfl | (simp; done) | (simp [*]; done), by repeat (first | exact Drawn0.refl _ | apply Drawn0.step)⟩
   ·rw [if_neg c4] at H
    have c4b0 : (a0.toList == ([118, 97, 108, 117, 101, 115] : List UInt8)) = false := beq_eq_false_iff_ne.mpr c4
    have c4b1 : (a0.toList != ([118, 97, 108, 117, 101, 115] : List UInt8)) = true := bne_iff_ne.mpr c4
    by_cases c5 : a0.toList = ([117, 112, 100, 97, 116, 101] : List UInt8)
    ·rw [if_pos c5] at H
     have c5b0 : (a0.toList == ([117, 112, 100, 97, 116, 101] : List UInt8)) = true := beq_iff_eq.mpr c5
     have c5b1 : (a0.toList != ([117, 112, 100, 97, 116, 101] : List UInt8)) = false := bne_eq_false_iff_eq.mpr c5
     clear c5; obtain rfl := Option.some.inj H; go_enter Tryd.func72, Tryd.ntmps72
     go_wp2; go_ret; exact ⟨by first | rfl | (simp; done) | (simp [*]; done), by repeat (first | exact Drawn0.refl _ | apply Drawn0.step)⟩
    ·rw [if_neg c5] at H
     have c5b0 : (a0.toList == ([117, 112, 100, 97, 116, 101] : List UInt8)) = false := beq_eq_false_iff_ne.mpr c5
     have c5b1 : (a0.toList != ([117, 112, 100, 97, 116, 101] : List UInt8)) = true := bne_iff_ne.mpr c5
     by_cases c6 : a0.toList = ([115, 101, 116] : List UInt8)
     ·rw [if_pos c6] at H
      have c6b0 : (a0.toList == ([115, 101, 116] : List UInt8)) = true := beq_iff_eq.mpr c6
      have c6b1 : (a0.toList != ([115, 101, 116] : List UInt8)) = false := bne_eq_false_iff_eq.mpr c6
      clear c6; obtain rfl := Option.some.inj H; go_enter Tryd.func72, Tryd.ntmps72
      go_wp2; go_ret; exact ⟨by first | rfl | (simp; done) | (simp [*]; done), by repeat (first | exact Drawn0.refl _ | apply Drawn0.step)⟩
     ·rw [if_neg c6] at H
      have c6b0 : (a0.toList == ([115, 101, 116] : List UInt8)) = false := beq_eq_false_iff_ne.mpr c6
      have c6b1 : (a0.toList != ([115, 101, 116] : List UInt8)) = true := bne_iff_ne.mpr c6
      by_cases c7 : a0.toList = ([119, 104, 101, 114, 101] : List UInt8)
      ·rw [if_pos c7] at H
       have c7b0 : (a0.toList == ([119, 104, 101, 114, 101] : List UInt8)) = true := beq_iff_eq.mpr c7
       have c7b1 : (a0.toList != ([119, 104, 101, 114, 101] : List UInt8)) = false := bne_eq_false_iff_eq.mpr c7
       clear c7; obtain rfl := Option.some.inj H; go_enter Tryd.func72, Tryd.ntmps72
       go_wp2; go_ret; exact ⟨by first | rfl | (simp; done) | (simp [*]; done), by repeat (first | exact Drawn0.refl _ | apply Drawn0.step)⟩
      ·rw [if_neg c7] at H
       have c7b0 : (a0.toList == ([119, 104, 101, 114, 101] : List UInt8)) = false := beq_eq_false_iff_ne.mpr c7
       have c7b1 : (a0.toList != ([119, 104, 101, 114, 101] : List UInt8)) = true := bne_iff_ne.mpr c7
       by_cases c8 : a0.toList = ([97, 110, 100] : List UInt8)
       ·rw [if_pos c8] at H
        have c8b0 : (a0.toList == ([97, 110, 100] : List UInt8)) = true := beq_iff_eq.mpr c8
        have c8b1 : (a0.toList != ([97, 110, 100] : List UInt8)) = false := bne_eq_false_iff_eq.mpr c8
        clear c8; obtain rfl := Option.some.inj H; go_enter Tryd.func72, Tryd.ntmps72
        go_wp2; go_ret; exact ⟨by first | rfl | (simp; done) | (simp [*]; done), by repeat (first | exact Drawn0.refl _ | apply Drawn0.step)⟩
       ·rw [if_neg c8] at H
        have c8b0 : (a0.toList == ([97, 110, 100] : List UInt8)) = false := beq_eq_false_iff_ne.mpr c8
        have c8b1 : (a0.toList != ([97, 110, 100] : List UInt8)) = true := bne_iff_ne.mpr c8
        by_cases c9 : a0.toList = ([100, 101, 108, 101, 116, 101] : List UInt8)
        ·rw [if_pos c9] at H
         have c9b0 : (a0.toList == ([100, 101, 108, 101, 116, 101] : List UInt8)) = true := beq_iff_eq.mpr c9
         have c9b1 : (a0.toList != ([100, 101, 108, 101, 116, 101] : List UInt8)) = false := bne_eq_false_iff_eq.mpr c9
         clear c9; obtain rfl := Option.some.inj H; go_enter Tryd.func72, Tryd.ntmps72
         go_wp2; go_ret; exact ⟨by first | rfl | (simp; done) | (simp [*]; done), by repeat (first | exact Drawn0.refl _ | apply Drawn0.step)⟩
        ·rw [if_neg c9] at H
         have c9b0 : (a0.toList == ([100, 101, 108, 101, 116, 101] : List UInt8)) = false := beq_eq_false_iff_ne.mpr c9
         have c9b1 : (a0.toList != ([100, 101, 108, 101, 116, 101] : List UInt8)) = true := bne_iff_ne.mpr c9
         by_cases c10 : a0.toList = ([102, 114, 111, 109] : List UInt8)
         ·rw [if_pos c10] at H
          have c10b0 : (a0.toList == ([102, 114, 111, 109] : List UInt8)) = true := beq_iff_eq.mpr c10
          have c10b1 : (a0.toList != ([102, 114, 111, 109] : List UInt8)) = false := bne_eq_false_iff_eq.mpr c10
          clear c10; obtain rfl := Option.some.inj H; go_enter Tryd.func72, Tryd.ntmps72
          go_wp2; go_ret; exact ⟨by first | rfl | (simp; done) | (simp [*]; done), by repeat (first | exact Drawn0.refl _ | apply Drawn0.step)⟩
         ·rw [if_neg c10] at H
          have c10b0 : (a0.toList == ([102, 114, 111, 109] : List UInt8)) = false := beq_eq_false_iff_ne.mpr c10
          have c10b1 : (a0.toList != ([102, 114, 111, 109] : List UInt8)) = true := bne_iff_ne.mpr c10
          by_cases c11 : a0.toList = ([115, 101, 108, 101, 99, 116] : List UInt8)
          ·rw [if_pos c11] at H
           have c11b0 : (a0.toList == ([115, 101, 108, 101, 99, 116] : List UInt8)) = true := beq_iff_eq.mpr c11
           have c11b1 : (a0.toList != ([115, 101, 108, 101, 99, 116] : List UInt8)) = false := bne_eq_false_iff_eq.mpr c11
           clear c11; obtain rfl := Option.some.inj H; go_enter Tryd.func72, Tryd.ntmps72
           go_wp2; go_ret; exact ⟨by first | rfl | (simp; done) | (simp [*]; done), by repeat (first | exact Drawn0.refl _ | apply Drawn0.step)⟩
          ·rw [if_neg c11] at H
           have c11b0 : (a0.toList == ([115, 101, 108, 101, 99, 116] : List UInt8)) = false := beq_eq_false_iff_ne.mpr c11
           have c11b1 : (a0.toList != ([115, 101, 108, 101, 99, 116] : List UInt8)) = true := bne_iff_ne.mpr c11
           by_cases c12 : a0.toList = ([99, 114, 101, 97, 116, 101] : List UInt8)
           ·rw [if_pos c12] at H
            have c12b0 : (a0.toList == ([99, 114, 101, 97, 116, 101] : List UInt8)) = true := beq_iff_eq.mpr c12
            have c12b1 : (a0.toList != ([99, 114, 101, 97, 116, 101] : List UInt8)) = false := bne_eq_false_iff_eq.mpr c12
            clear c12; obtain rfl := Option.some.inj H; go_enter Tryd.func72, Tryd.ntmps72
            go_wp2; go_ret; exact ⟨by first | rfl | (simp; done) | (simp [*]; done), by repeat (first | exact Drawn0.refl _ | apply Drawn0.step)⟩
           ·rw [if_neg c12] at H
            have c12b0 : (a0.toList == ([99, 114, 101, 97, 116, 101] : List UInt8)) = false := beq_eq_false_iff_ne.mpr c12
            have c12b1 : (a0.toList != ([99, 114, 101, 97, 116, 101] : List UInt8)) = true := bne_iff_ne.mpr c12
            by_cases c13 : a0.toList = ([117, 110, 105, 113, 117, 101] : List UInt8)
            ·rw [if_pos c13] at H
             have c13b0 : (a0.toList == ([117, 110, 105, 113, 117, 101] : List UInt8)) = true := beq_iff_eq.mpr c13
             have c13b1 : (a0.toList != ([117, 110, 105, 113, 117, 101] : List UInt8)) = false := bne_eq_false_iff_eq.mpr c13
             clear c13; obtain rfl := Option.some.inj H; go_enter Tryd.func72, Tryd.ntmps72
             go_wp2; go_ret; exact ⟨by first | rfl | (simp; done) | (simp [*]; done), by repeat (first | exact Drawn0.refl _ | apply Drawn0.step)⟩
            ·rw [if_neg c13] at H
             have c13b0 : (a0.toList == ([117, 110, 105, 113, 117, 101] : List UInt8)) = false := beq_eq_false_iff_ne.mpr c13
             have c13b1 : (a0.toList != ([117, 110, 105, 113, 117, 101] : List UInt8)) = true := bne_iff_ne.mpr c13
             by_cases c14 : a0.toList = ([116, 97, 98, 108, 101] : List UInt8)
             ·rw [if_pos c14] at H
              have c14b0 : (a0.toList == ([116, 97, 98, 108, 101] : List UInt8)) = true := beq_iff_eq.mpr c14
              have c14b1 : (a0.toList != ([116, 97, 98, 108, 101] : List UInt8)) = false := bne_eq_false_iff_eq.mpr c14
              clear c14; obtain rfl := Option.some.inj H; go_enter Tryd.func72, Tryd.ntmps72
              go_wp2; go_ret; exact ⟨by first | rfl | (simp; done) | (simp [*]; done), by repeat (first | exact Drawn0.refl _ | apply Drawn0.step)⟩
             ·rw [if_neg c14] at H
              have c14b0 : (a0.toList == ([116, 97, 98, 108, 101] : List UInt8)) = false := beq_eq_false_iff_ne.mpr c14
              have c14b1 : (a0.toList != ([116, 97, 98, 108, 101] : List UInt8)) = true := bne_iff_ne.mpr c14
              by_cases c15 : a0.toList = ([105, 110, 100, 101, 120] : List UInt8)
              ·rw [if_pos c15] at H
               have c15b0 : (a0.toList == ([105, 110, 100, 101, 120] : List UInt8)) = true := beq_iff_eq.mpr c15
               have c15b1 : (a0.toList != ([105, 110, 100, 101, 120] : List UInt8)) = false := bne_eq_false_iff_eq.mpr c15
               clear c15; obtain rfl := Option.some.inj H; go_enter Tryd.func72, Tryd.ntmps72
               go_wp2; go_ret; exact ⟨by first | rfl | (simp; done) | (simp [*]; done), by repeat (first | exact Drawn0.refl _ | apply Drawn0.step)⟩
              ·rw [if_neg c15] at H
               have c15b0 : (a0.toList == ([105, 110, 100, 101, 120] : List UInt8)) = false := beq_eq_false_iff_ne.mpr c15
               have c15b1 : (a0.toList != ([105, 110, 100, 101, 120] : List UInt8)) = true := bne_iff_ne.mpr c15
               by_cases c16 : a0.toList = ([111, 110] : List UInt8)
               ·rw [if_pos c16] at H
                have c16b0 : (a0.toList == ([111, 110] : List UInt8)) = true := beq_iff_eq.mpr c16
                have c16b1 : (a0.toList != ([111, 110] : List UInt8)) = false := bne_eq_false_iff_eq.mpr c16
                clear c16; obtain rfl := Option.some.inj H; go_enter Tryd.func72, Tryd.ntmps72
                go_wp2; go_ret; exact ⟨by first | rfl | (simp; done) | (simp [*]; done), by repeat (first | exact Drawn0.refl _ | apply Drawn0.step)⟩
               ·rw [if_neg c16] at H
                have c16b0 : (a0.toList == ([111, 110] : List UInt8)) = false := beq_eq_false_iff_ne.mpr c16
                have c16b1 : (a0.toList != ([111, 110] : List UInt8)) = true := bne_iff_ne.mpr c16
                by_cases c17 : a0.toList = ([100, 114, 111, 112] : List UInt8)
                ·rw [if_pos c17] at H
                 have c17b0 : (a0.toList == ([100, 114, 111, 112] : List UInt8)) = true := beq_iff_eq.mpr c17
                 have c17b1 : (a0.toList != ([100, 114, 111, 112] : List UInt8)) = false := bne_eq_false_iff_eq.mpr c17
                 clear c17; obtain rfl := Option.some.inj H; go_enter Tryd.func72, Tryd.ntmps72
                 go_wp2; go_ret; exact ⟨by first | rfl | (simp; done) | (simp [*]; done), by repeat (first | exact Drawn0.refl _ | apply Drawn0.step)⟩
                ·rw [if_neg c17] at H
                 have c17b0 : (a0.toList == ([100, 114, 111, 112] : List UInt8)) = false := beq_eq_false_iff_ne.mpr c17
                 have c17b1 : (a0.toList != ([100, 114, 111, 112] : List UInt8)) = true := bne_iff_ne.mpr c17
                 by_cases c18 : a0.toList = ([97, 108, 116, 101, 114] : List UInt8)
                 ·rw [if_pos c18] at H
                  have c18b0 : (a0.toList == ([97, 108, 116, 101, 114] : List UInt8)) = true := beq_iff_eq.mpr c18
                  have c18b1 : (a0.toList != ([97, 108, 116, 101, 114] : List UInt8)) = false := bne_eq_false_iff_eq.mpr c18
                  clear c18; obtain rfl := Option.some.inj H; go_enter Tryd.func72, Tryd.ntmps72
                  go_wp2; go_ret; exact ⟨by first | rfl | (simp; done) | (simp [*]; done), by repeat (first | exact Drawn0.refl _ | apply Drawn0.step)⟩
                 ·rw [if_neg c18] at H
                  have c18b0 : (a0.toList == ([97, 108, 116, 101, 114] : List UInt8)) = false := beq_eq_false_iff_ne.mpr c18
                  have c18b1 : (a0.toList != ([97, 108, 116, 101, 114] : List UInt8)) = true := bne_iff_ne.mpr c18
                  by_cases c19 : a0.toList = ([97, 100, 100] : List UInt8)
                  ·rw [if_pos c19] at H
                   have c19b0 : (a0.toList == ([97, 100, 100] : List UInt8)) = true := beq_iff_eq.mpr c19
                   have c19b1 : (a0.toList != ([97, 100, 100] : List UInt8)) = false := bne_eq_false_iff_eq.mpr c19
                   clear c19; obtain rfl := Option.some.inj H; go_enter Tryd.func72, Tryd.ntmps72
                   go_wp2; go_ret; exact ⟨by first | rfl | (simp; done) | (simp [*]; done), by repeat (first | exact Drawn0.refl _ | apply Drawn0.step)⟩
                  ·rw [if_neg c19] at H
                   have c19b0 : (a0.toList == ([97, 100, 100] : List UInt8)) = false := beq_eq_false_iff_ne.mpr c19
                   have c19b1 : (a0.toList != ([97, 100, 100] : List UInt8)) = true := bne_iff_ne.mpr c19
                   by_cases c20 : a0.toList = ([99, 111, 108, 117, 109, 110] : List UInt8)
                   ·rw [if_pos c20] at H
                    have c20b0 : (a0.toList == ([99, 111, 108, 117, 109, 110] : List UInt8)) = true := beq_iff_eq.mpr c20
                    have c20b1 : (a0.toList != ([99, 111, 108, 117, 109, 110] : List UInt8)) = false := bne_eq_false_iff_eq.mpr c20
                    clear c20; obtain rfl := Option.some.inj H; go_enter Tryd.func72, Tryd.ntmps72
                    go_wp2; go_ret; exact ⟨by first | rfl | (simp; done) | (simp [*]; done), by repeat (first | exact Drawn0.refl _ | apply Drawn0.step)⟩
                   ·rw [if_neg c20] at H
                    have c20b0 : (a0.toList == ([99, 111, 108, 117, 109, 110] : List UInt8)) = false := beq_eq_false_iff_ne.mpr c20
                    have c20b1 : (a0.toList != ([99, 111, 108, 117, 109, 110] : List UInt8)) = true := bne_iff_ne.mpr c20
                    by_cases c21 : a0.toList = ([100, 101, 102, 97, 117, 108, 116] : List UInt8)
                    ·rw [if_pos c21] at H
                     have c21b0 : (a0.toList == ([100, 101, 102, 97, 117, 108, 116] : List UInt8)) = true := beq_iff_eq.mpr c21
                     have c21b1 : (a0.toList != ([100, 101, 102, 97, 117, 108, 116] : List UInt8)) = false := bne_eq_false_iff_eq.mpr c21
                     clear c21; obtain rfl := Option.some.inj H; go_enter Tryd.func72, Tryd.ntmps72
                     go_wp2; go_ret; exact ⟨by first | rfl | (simp; done) | (simp [*]; done), by repeat (first | exact Drawn0.refl _ | apply Drawn0.step)⟩
                    ·rw [if_neg c21] at H
                     have c21b0 : (a0.toList == ([100, 101, 102, 97, 117, 108, 116] : List UInt8)) = false := beq_eq_false_iff_ne.mpr c21
                     have c21b1 : (a0.toList != ([100, 101, 102, 97, 117, 108, 116] : List UInt8)) = true := bne_iff_ne.mpr c21
                     by_cases c22 : a0.toList = ([110, 111, 116] : List UInt8)
                     ·rw [if_pos c22] at H
                      have c22b0 : (a0.toList == ([110, 111, 116] : List UInt8)) = true := beq_iff_eq.mpr c22
                      have c22b1 : (a0.toList != ([110, 111, 116] : List UInt8)) = false := bne_eq_false_iff_eq.mpr c22
                      clear c22; obtain rfl := Option.some.inj H; go_enter Tryd.func72, Tryd.ntmps72
                      go_wp2; go_ret; exact ⟨by first | rfl | (simp; done) | (simp [*]; done), by repeat (first | exact Drawn0.refl _ | apply Drawn0.step)⟩
                     ·rw [if_neg c22] at H
                      have c22b0 : (a0.toList == ([110, 111, 116] : List UInt8)) = false := beq_eq_false_iff_ne.mpr c22
                      have c22b1 : (a0.toList != ([110, 111, 116] : List UInt8)) = true := bne_iff_ne.mpr c22
                      by_cases c23 : a0.toList = ([110, 117, 108, 108] : List UInt8)
                      ·rw [if_pos c23] at H
                       have c23b0 : (a0.toList == ([110, 117, 108, 108] : List UInt8)) = true := beq_iff_eq.mpr c23
                       have c23b1 : (a0.toList != ([110, 117, 108, 108] : List UInt8)) = false := bne_eq_false_iff_eq.mpr c23
                       clear c23; obtain rfl := Option.some.inj H; go_enter Tryd.func72, Tryd.ntmps72
                       go_wp2; go_ret; exact ⟨by first | rfl | (simp; done) | (simp [*]; done), by repeat (first | exact Drawn0.refl _ | apply Drawn0.step)⟩
                      ·rw [if_neg c23] at H
                       have c23b0 : (a0.toList == ([110, 117, 108, 108] : List UInt8)) = false := beq_eq_false_iff_ne.mpr c23
                       have c23b1 : (a0.toList != ([110, 117, 108, 108] : List UInt8)) = true := bne_iff_ne.mpr c23
                       by_cases c24 : a0.toList = ([105, 115] : List UInt8)
                       ·rw [if_pos c24] at H
                        have c24b0 : (a0.toList == ([105, 115] : List UInt8)) = true := beq_iff_eq.mpr c24
                        have c24b1 : (a0.toList != ([105, 115] : List UInt8)) = false := bne_eq_false_iff_eq.mpr c24
                        clear c24; obtain rfl := Option.some.inj H; go_enter Tryd.func72, Tryd.ntmps72
                        go_wp2; go_ret; exact ⟨by first | rfl | (simp; done) | (simp [*]; done), by repeat (first | exact Drawn0.refl _ | apply Drawn0.step)⟩
                       ·rw [if_neg c24] at H
                        have c24b0 : (a0.toList == ([105, 115] : List UInt8)) = false := beq_eq_false_iff_ne.mpr c24
                        have c24b1 : (a0.toList != ([105, 115] : List UInt8)) = true := bne_iff_ne.mpr c24
                        by_cases c25 : a0.toList = ([112, 114, 105, 109, 97, 114, 121] : List UInt8)
                        ·rw [if_pos c25] at H
                         have c25b0 : (a0.toList == ([112, 114, 105, 109, 97, 114, 121] : List UInt8)) = true := beq_iff_eq.mpr c25
                         have c25b1 : (a0.toList != ([112, 114, 105, 109, 97, 114, 121] : List UInt8)) = false := bne_eq_false_iff_eq.mpr c25
                         clear c25; obtain rfl := Option.some.inj H; go_enter Tryd.func72, Tryd.ntmps72
                         go_wp2; go_ret; exact ⟨by first | rfl | (simp; done) | (simp [*]; done), by repeat (first | exact Drawn0.refl _ | apply Drawn0.step)⟩
                        ·rw [if_neg c25] at H
                         have c25b0 : (a0.toList == ([112, 114, 105, 109, 97, 114, 121] : List UInt8)) = false := beq_eq_false_iff_ne.mpr c25
                         have c25b1 : (a0.toList != ([112, 114, 105, 109, 97, 114, 121] : List UInt8)) = true := bne_iff_ne.mpr c25
                         by_cases c26 : a0.toList = ([107, 101, 121] : List UInt8)
                         ·rw [if_pos c26] at H
                          have c26b0 : (a0.toList == ([107, 101, 121] : List UInt8)) = true := beq_iff_eq.mpr c26
                          have c26b1 : (a0.toList != ([107, 101, 121] : List UInt8)) = false := bne_eq_false_iff_eq.mpr c26
                          clear c26; obtain rfl := Option.some.inj H; go_enter Tryd.func72, Tryd.ntmps72
                          go_wp2; go_ret; exact ⟨by first | rfl | (simp; done) | (simp [*]; done), by repeat (first | exact Drawn0.refl _ | apply Drawn0.step)⟩
                         ·rw [if_neg c26] at H
                          have c26b0 : (a0.toList == ([107, 101, 121] : List UInt8)) = false := beq_eq_false_iff_ne.mpr c26
                          have c26b1 : (a0.toList != ([107, 101, 121] : List UInt8)) = true := bne_iff_ne.mpr c26
                          by_cases c27 : a0.toList = ([98, 111, 111, 108] : List UInt8)
                          ·rw [if_pos c27] at H
                           have c27b0 : (a0.toList == ([98, 111, 111, 108] : List UInt8)) = true := beq_iff_eq.mpr c27
                           have c27b1 : (a0.toList != ([98, 111, 111, 108] : List UInt8)) = false := bne_eq_false_iff_eq.mpr c27
                           clear c27; obtain rfl := Option.some.inj H; go_enter Tryd.func72, Tryd.ntmps72
                           go_wp2; go_ret; exact ⟨by first | rfl | (simp; done) | (simp [*]; done), by repeat (first | exact Drawn0.refl _ | apply Drawn0.step)⟩
                          ·rw [if_neg c27] at H
                           have c27b0 : (a0.toList == ([98, 111, 111, 108] : List UInt8)) = false := beq_eq_false_iff_ne.mpr c27
                           have c27b1 : (a0.toList != ([98, 111, 111, 108] : List UInt8)) = true := bne_iff_ne.mpr c27
                           by_cases c28 : a0.toList = ([105, 110, 116] : List UInt8)
                           ·rw [if_pos c28] at H
                            have c28b0 : (a0.toList == ([105, 110, 116] : List UInt8)) = true := beq_iff_eq.mpr c28
                            have c28b1 : (a0.toList != ([105, 110, 116] : List UInt8)) = false := bne_eq_false_iff_eq.mpr c28
                            clear c28; obtain rfl := Option.some.inj H; go_enter Tryd.func72, Tryd.ntmps72
                            go_wp2; go_ret; exact ⟨by first | rfl | (simp; done) | (simp [*]; done), by repeat (first | exact Drawn0.refl _ | apply Drawn0.step)⟩
                           ·rw [if_neg c28] at H
                            have c28b0 : (a0.toList == ([105, 110, 116] : List UInt8)) = false := beq_eq_false_iff_ne.mpr c28
                            have c28b1 : (a0.toList != ([105, 110, 116] : List UInt8)) = true := bne_iff_ne.mpr c28
                            by_cases c29 : a0.toList = ([102, 108, 111, 97, 116] : List UInt8)
                            ·rw [if_pos c29] at H
                             have c29b0 : (a0.toList == ([102, 108, 111, 97, 116] : List UInt8)) = true := beq_iff_eq.mpr c29
                             have c29b1 : (a0.toList != ([102, 108, 111, 97, 116] : List UInt8)) = false := bne_eq_false_iff_eq.mpr c29
                             clear c29; obtain rfl := Option.some.inj H; go_enter Tryd.func72, Tryd.ntmps72
                             go_wp2; go_ret; exact ⟨by first | rfl | (simp; done) | (simp [*]; done), by repeat (first | exact Drawn0.refl _ | apply Drawn0.step)⟩
                            ·rw [if_neg c29] at H
                             have c29b0 : (a0.toList == ([102, 108, 111, 97, 116] : List UInt8)) = false := beq_eq_false_iff_ne.mpr c29
                             have c29b1 : (a0.toList != ([102, 108, 111, 97, 116] : List UInt8)) = true := bne_iff_ne.mpr c29
                             by_cases c30 : a0.toList = ([98, 121, 116, 101, 115] : List UInt8)
                             ·rw [if_pos c30] at H
                              have c30b0 : (a0.toList == ([98, 121, 116, 101, 115] : List UInt8)) = true := beq_iff_eq.mpr c30
                              have c30b1 : (a0.toList != ([98, 121, 116, 101, 115] : List UInt8)) = false := bne_eq_false_iff_eq.mpr c30
                              clear c30; obtain rfl := Option.some.inj H; go_enter Tryd.func72, Tryd.ntmps72
                              go_wp2; go_ret; exact ⟨by first | rfl | (simp; done) | (simp [*]; done), by repeat (first | exact Drawn0.refl _ | apply Drawn0.step)⟩
                             ·rw [if_neg c30] at H
                              have c30b0 : (a0.toList == ([98, 121, 116, 101, 115] : List UInt8)) = false := beq_eq_false_iff_ne.mpr c30
                              have c30b1 : (a0.toList != ([98, 121, 116, 101, 115] : List UInt8)) = true := bne_iff_ne.mpr c30
                              by_cases c31 : a0.toList = ([116, 101, 120, 116] : List UInt8)
                              ·rw [if_pos c31] at H
                               have c31b0 : (a0.toList == ([116, 101, 120, 116] : List UInt8)) = true := beq_iff_eq.mpr c31
                               have c31b1 : (a0.toList != ([116, 101, 120, 116] : List UInt8)) = false := bne_eq_false_iff_eq.mpr c31
                               clear c31; obtain rfl := Option.some.inj H; go_enter Tryd.func72, Tryd.ntmps72
                               go_wp2; go_ret; exact ⟨by first | rfl | (simp; done) | (simp [*]; done), by repeat (first | exact Drawn0.refl _ | apply Drawn0.step)⟩
                              ·rw [if_neg c31] at H
                               have c31b0 : (a0.toList == ([116, 101, 120, 116] : List UInt8)) = false := beq_eq_false_iff_ne.mpr c31
                               have c31b1 : (a0.toList != ([116, 101, 120, 116] : List UInt8)) = true := bne_iff_ne.mpr c31
                               by_cases c32 : a0.toList = ([116, 114, 117, 101] : List UInt8)
                               ·rw [if_pos c32] at H
                                have c32b0 : (a0.toList == ([116, 114, 117, 101] : List UInt8)) = true := beq_iff_eq.mpr c32
                                have c32b1 : (a0.toList != ([116, 114, 117, 101] : List UInt8)) = false := bne_eq_false_iff_eq.mpr c32
                                clear c32; obtain rfl := Option.some.inj H; go_enter Tryd.func72, Tryd.ntmps72
                                go_wp2; go_ret; exact ⟨by first | rfl | (simp; done) | (simp [*]; done), by repeat (first | exact Drawn0.refl _ | apply Drawn0.step)⟩
                               ·rw [if_neg c32] at H
                                have c32b0 : (a0.toList == ([116, 114, 117, 101] : List UInt8)) = false := beq_eq_false_iff_ne.mpr c32
                                have c32b1 : (a0.toList != ([116, 114, 117, 101] : List UInt8)) = true := bne_iff_ne.mpr c32
                                by_cases c33 : a0.toList = ([102, 97, 108, 115, 101] : List UInt8)
                                ·rw [if_pos c33] at H
                                 have c33b0 : (a0.toList == ([102, 97, 108, 115, 101] : List UInt8)) = true := beq_iff_eq.mpr c33
                                 have c33b1 : (a0.toList != ([102, 97, 108, 115, 101] : List UInt8)) = false := bne_eq_false_iff_eq.mpr c33
                                 clear c33; obtain rfl := Option.some.inj H; go_enter Tryd.func72, Tryd.ntmps72
                                 go_wp2; go_ret; exact ⟨by first | rfl | (simp; done) | (simp [*]; done), by repeat (first | exact Drawn0.refl _ | apply Drawn0.step)⟩
                                ·rw [if_neg c33] at H
                                 have c33b0 : (a0.toList == ([102, 97, 108, 115, 101] : List UInt8)) = false := beq_eq_false_iff_ne.mpr c33
                                 have c33b1 : (a0.toList != ([102, 97, 108, 115, 101] : List UInt8)) = true := bne_iff_ne.mpr c33
                                 obtain rfl := Option.some.inj H; go_enter Tryd.func72, Tryd.ntmps72
                                 go_wp2; go_ret; exact ⟨by first | rfl | (simp; done) | (simp [*]; done), by repeat (first | exact Drawn0.refl _ | apply Drawn0.step)⟩
end Go.Proofs.YtjgomlcdmpcoaaaDoor.D
namespace Go.Proofs.YtjgomlcdmpcoaaaDoor.D
open Go.RowKit Go.Proofs.YtjgomlcdmpcoaaaDoorW.PrintWords Go.Proofs.YtjgomlcdmpcoaaaDoorW.PrintLast Go.Proofs.YtjgomlcdmpcoaaaDoorW.PrintMore
attribute [local go_sem] max2_int min2_int max_two min_two max_three min_three max_four min_four
set_option linter.unusedVariables false
set_option linter.unusedSimpArgs false
def falseworkref16_low.f (a0 : Int) : Option (Bool) := if a0 ≥ 97 then (some (decide (a0 ≤ 122))) else (some false)
set_option maxHeartbeats 8000000 in
set_option maxRecDepth 100000 in
theorem falseworkref16_low.calls (a0 : Int) (r : Bool) (w : World) (h : falseworkref16_low.f a0 = some r) :
  Calls Tryd.prog 121 #[.int .u8 a0] w fun e w' => e = .returned (.bool r) ∧ Drawn0 w w' := by
 have H : (if a0 ≥ 97 then (some (decide (a0 ≤ 122))) else (some false)) = some r := h
 clear h; by_cases c2 : a0 ≥ 97
 ·rw [if_pos c2] at H
  have c2b0 : decide (97 ≤ a0) = true := decide_eq_true c2
  clear c2; obtain rfl := Option.some.inj H; go_enter Tryd.func121, Tryd.ntmps121
  go_wp2; go_ret; exact ⟨by first | rfl | (simp; done) | (simp [*]; done), by repeat (first | exact Drawn0.refl _ | apply Drawn0.step)⟩
 ·rw [if_neg c2] at H
  have c2b0 : decide (97 ≤ a0) = false := decide_eq_false c2
  clear c2; obtain rfl := Option.some.inj H; go_enter Tryd.func121, Tryd.ntmps121
  go_wp2; go_ret; exact ⟨by first | rfl | (simp; done) | (simp [*]; done), by repeat (first | exact Drawn0.refl _ | apply Drawn0.step)⟩
end Go.Proofs.YtjgomlcdmpcoaaaDoor.D
namespace Go.Proofs.YtjgomlcdmpcoaaaDoor.D
open Go.RowKit Go.Proofs.YtjgomlcdmpcoaaaDoorW.PrintWords Go.Proofs.YtjgomlcdmpcoaaaDoorW.PrintLast Go.Proofs.YtjgomlcdmpcoaaaDoorW.PrintMore
attribute [local go_sem] max2_int min2_int max_two min_two max_three min_three max_four min_four
set_option linter.unusedVariables false
set_option linter.unusedSimpArgs false
def falseworkref16_digit.f (a0 : Int) : Option (Bool) := if a0 ≥ 48 then (some (decide (a0 ≤ 57))) else (some false)
set_option maxHeartbeats 8000000 in
set_option maxRecDepth 100000 in
theorem falseworkref16_digit.calls (a0 : Int) (r : Bool) (w : World) (h : falseworkref16_digit.f a0 = some r) :
  Calls Tryd.prog 122 #[.int .u8 a0] w fun e w' => e = .returned (.bool r) ∧ Drawn0 w w' := by
 have H : (if a0 ≥ 48 then (some (decide (a0 ≤ 57))) else (some false)) = some r := h
 clear h; by_cases c2 : a0 ≥ 48
 ·rw [if_pos c2] at H
  have c2b0 : decide (48 ≤ a0) = true := decide_eq_true c2
  clear c2; obtain rfl := Option.some.inj H; go_enter Tryd.func122, Tryd.ntmps122
  go_wp2; go_ret; exact ⟨by first | rfl | (simp; done) | (simp [*]; done), by repeat (first | exact Drawn0.refl _ | apply Drawn0.step)⟩
 ·rw [if_neg c2] at H
  have c2b0 : decide (48 ≤ a0) = false := decide_eq_false c2
  clear c2; obtain rfl := Option.some.inj H; go_enter Tryd.func122, Tryd.ntmps122
  go_wp2; go_ret; exact ⟨by first | rfl | (simp; done) | (simp [*]; done), by repeat (first | exact Drawn0.refl _ | apply Drawn0.step)⟩
end Go.Proofs.YtjgomlcdmpcoaaaDoor.D
namespace Go.Proofs.YtjgomlcdmpcoaaaDoor.D
open Go.RowKit Go.Proofs.YtjgomlcdmpcoaaaDoorW.PrintWords Go.Proofs.YtjgomlcdmpcoaaaDoorW.PrintLast Go.Proofs.YtjgomlcdmpcoaaaDoorW.PrintMore
attribute [local go_sem] max2_int min2_int max_two min_two max_three min_three max_four min_four
set_option linter.unusedVariables false
set_option linter.unusedSimpArgs false
def falseworkref16_Letter.f (a0 : Int) : Option (Bool) := (falseworkref16_low.f a0).bind fun t131 => (if t131 = true then (some true) else ((falseworkref16_digit.f a0).bind fun t132 => (if t132 = true then (some true) else (some (a0 == 95)))))
set_option maxHeartbeats 8000000 in
set_option maxRecDepth 100000 in
theorem falseworkref16_Letter.calls (a0 : Int) (r : Bool) (w : World) (h : falseworkref16_Letter.f a0 = some r) :
  Calls Tryd.prog 73 #[.int .u8 a0] w fun e w' => e = .returned (.bool r) ∧ Drawn0 w w' := by
 have H : ((falseworkref16_low.f a0).bind fun t131 => (if t131 = true then (some true) else ((falseworkref16_digit.f a0).bind fun t132 => (if t132 = true then (some true) else (some (a0 == 95)))))) = some r := h
 clear h; replace H := Option.bind_eq_some_iff.mp H; obtain ⟨t131, A20, H⟩ := H
 replace H : (if t131 = true then (some true) else ((falseworkref16_digit.f a0).bind fun t132 => (if t132 = true then (some true) else (some (a0 == 95))))) = some r := H
 have A2 := Aside0.mk A20; clear A20; by_cases c3 : t131 = true
 ·subst c3
  have H1 : (some true) = some r := by rw [if_pos rfl] at H; exact H
  clear H; have H := H1; clear H1; obtain rfl := Option.some.inj H; go_enter Tryd.func73, Tryd.ntmps73
  go_wp2_with (first | ((with_reducible refine gate_callee (f := 121) rfl ?_); refine goesL_ (some 4) rfl rfl Tryd.func121 (by kernel_rfl) rfl #[.int .u8 a0] rfl (by (try simp only [List.map_toArray, List.map_cons, List.map_nil]); first | done | rfl | (simp only [List.length_drop, List.length_take]; rfl)) ?_; (with_reducible refine (falseworkref16_low.calls a0 true _ A2.out).mono ?_); rintro e w' ⟨rfl, ⟨nd, rfl⟩⟩; refine ⟨_, rfl, ?_⟩))
  go_ret; exact ⟨by first | rfl | (simp; done) | (simp [*]; done), by repeat (first | exact Drawn0.refl _ | apply Drawn0.step)⟩
 ·replace c3 := Bool.eq_false_iff.mpr c3
  subst c3; have H1 : ((falseworkref16_digit.f a0).bind fun t132 => (if t132 = true then (some true) else (some (a0 == 95)))) = some r := by rw [if_neg (show ¬ (false = true) by decide)] at H; exact H
  clear H; have H := H1; clear H1; replace H := Option.bind_eq_some_iff.mp H; obtain ⟨t132, A40, H⟩ := H
  replace H : (if t132 = true then (some true) else (some (a0 == 95))) = some r := H
  have A4 := Aside0.mk A40; clear A40; by_cases c5 : t132 = true
  ·subst c5
   have H1 : (some true) = some r := by rw [if_pos rfl] at H; exact H
   clear H; have H := H1; clear H1; obtain rfl := Option.some.inj H; go_enter Tryd.func73, Tryd.ntmps73
   go_wp2_with (first | ((with_reducible refine gate_callee (f := 121) rfl ?_); refine goesL_ (some 4) rfl rfl Tryd.func121 (by kernel_rfl) rfl #[.int .u8 a0] rfl (by (try simp only [List.map_toArray, List.map_cons, List.map_nil]); first | done | rfl | (simp only [List.length_drop, List.length_take]; rfl)) ?_; (with_reducible refine (falseworkref16_low.calls a0 false _ A2.out).mono ?_); rintro e w' ⟨rfl, ⟨nd, rfl⟩⟩; refine ⟨_, rfl, ?_⟩) | (go_at_call 122; (with_reducible refine (falseworkref16_digit.calls a0 true _ A4.out).mono ?_); rintro e w' ⟨rfl, ⟨nd, rfl⟩⟩))
   go_ret; exact ⟨by first | rfl | (simp; done) | (simp [*]; done), by repeat (first | exact Drawn0.refl _ | apply Drawn0.step)⟩
  ·replace c5 := Bool.eq_false_iff.mpr c5
   subst c5; have H1 : (some (a0 == 95)) = some r := by rw [if_neg (show ¬ (false = true) by decide)] at H; exact H
   clear H; have H := H1; clear H1; obtain rfl := Option.some.inj H; go_enter Tryd.func73, Tryd.ntmps73
   go_wp2_with (first | ((with_reducible refine gate_callee (f := 121) rfl ?_); refine goesL_ (some 4) rfl rfl Tryd.func121 (by kernel_rfl) rfl #[.int .u8 a0] rfl (by (try simp only [List.map_toArray, List.map_cons, List.map_nil]); first | done | rfl | (simp only [List.length_drop, List.length_take]; rfl)) ?_; (with_reducible refine (falseworkref16_low.calls a0 false _ A2.out).mono ?_); rintro e w' ⟨rfl, ⟨nd, rfl⟩⟩; refine ⟨_, rfl, ?_⟩) | (go_at_call 122; (with_reducible refine (falseworkref16_digit.calls a0 false _ A4.out).mono ?_); rintro e w' ⟨rfl, ⟨nd, rfl⟩⟩))
   go_ret; exact ⟨by first | rfl | (simp; done) | (simp [*]; done), by repeat (first | exact Drawn0.refl _ | apply Drawn0.step)⟩
end Go.Proofs.YtjgomlcdmpcoaaaDoor.D
