/- Own texts of this session, packed by its program wip/pp/pack.py: lemmas and walks of functions. -/
import Derived.Test.YtjehfmimbbdnkaaDoorKReads2
namespace Go.Proofs.YtjehfmimbbdnkaaDoor.L
open Go.RowKit Go.Proofs.YtjehfmimbbdnkaaDoorW.PrintWords Go.Proofs.YtjehfmimbbdnkaaDoorW.PrintLast Go.Proofs.YtjehfmimbbdnkaaDoorW.PrintMore
attribute [local go_sem] max2_int min2_int max_two min_two max_three min_three max_four min_four
set_option linter.unusedVariables false
set_option linter.unusedSimpArgs false
def falseworkref16_Word.f (a0 : ByteArray) : Option (Bool) := if a0.toList = ([105, 110, 115, 101, 114, 116] : List UInt8) then (some true) else (if a0.toList = ([105, 110, 116, 111] : List UInt8) then (some true) else (if a0.toList = ([118, 97, 108, 117, 101, 115] : List UInt8) then (some true) else (if a0.toList = ([117, 112, 100, 97, 116, 101] : List UInt8) then (some true) else (if a0.toList = ([115, 101, 116] : List UInt8) then (some true) else (if a0.toList = ([119, 104, 101, 114, 101] : List UInt8) then (some true) else (if a0.toList = ([97, 110, 100] : List UInt8) then (some true) else (if a0.toList = ([100, 101, 108, 101, 116, 101] : List UInt8) then (some true) else (if a0.toList = ([102, 114, 111, 109] : List UInt8) then (some true) else (if a0.toList = ([115, 101, 108, 101, 99, 116] : List UInt8) then (some true) else (if a0.toList = ([99, 114, 101, 97, 116, 101] : List UInt8) then (some true) else (if a0.toList = ([117, 110, 105, 113, 117, 101] : List UInt8) then (some true) else (if a0.toList = ([116, 97, 98, 108, 101] : List UInt8) then (some true) else (if a0.toList = ([105, 110, 100, 101, 120] : List UInt8) then (some true) else (if a0.toList = ([111, 110] : List UInt8) then (some true) else (if a0.toList = ([100, 114, 111, 112] : List UInt8) then (some true) else (if a0.toList = ([97, 108, 116, 101, 114] : List UInt8) then (some true) else (if a0.toList = ([97, 100, 100] : List UInt8) then (some true) else (if a0.toList = ([99, 111, 108, 117, 109, 110] : List UInt8) then (some true) else (if a0.toList = ([100, 101, 102, 97, 117, 108, 116] : List UInt8) then (some true) else (if a0.toList = ([110, 111, 116] : List UInt8) then (some true) else (if a0.toList = ([110, 117, 108, 108] : List UInt8) then (some true) else (if a0.toList = ([105, 115] : List UInt8) then (some true) else (if a0.toList = ([112, 114, 105, 109, 97, 114, 121] : List UInt8) then (some true) else (if a0.toList = ([107, 101, 121] : List UInt8) then (some true) else (if a0.toList = ([98, 111, 111, 108] : List UInt8) then (some true) else (if a0.toList = ([105, 110, 116] : List UInt8) then (some true) else (if a0.toList = ([102, 108, 111, 97, 116] : List UInt8) then (some true) else (if a0.toList = ([98, 121, 116, 101, 115] : List UInt8) then (some true) else (if a0.toList = ([116, 101, 120, 116] : List UInt8) then (some true) else (if a0.toList = ([116, 114, 117, 101] : List UInt8) then (some true) else (if a0.toList = ([102, 97, 108, 115, 101] : List UInt8) then (some true) else (some false))))))))))))))))))))))))))))))))
set_option maxHeartbeats 8000000 in
set_option maxRecDepth 100000 in
theorem falseworkref16_Word.calls (a0 : ByteArray) (r : Bool) (w : World) (h : falseworkref16_Word.f a0 = some r) :
  Calls Tryd.prog 15 #[.string a0] w fun e w' => e = .returned (.bool r) ∧ Drawn0 w w' := by
 have H : (if a0.toList = ([105, 110, 115, 101, 114, 116] : List UInt8) then (some true) else (if a0.toList = ([105, 110, 116, 111] : List UInt8) then (some true) else (if a0.toList = ([118, 97, 108, 117, 101, 115] : List UInt8) then (some true) else (if a0.toList = ([117, 112, 100, 97, 116, 101] : List UInt8) then (some true) else (if a0.toList = ([115, 101, 116] : List UInt8) then (some true) else (if a0.toList = ([119, 104, 101, 114, 101] : List UInt8) then (some true) else (if a0.toList = ([97, 110, 100] : List UInt8) then (some true) else (if a0.toList = ([100, 101, 108, 101, 116, 101] : List UInt8) then (some true) else (if a0.toList = ([102, 114, 111, 109] : List UInt8) then (some true) else (if a0.toList = ([115, 101, 108, 101, 99, 116] : List UInt8) then (some true) else (if a0.toList = ([99, 114, 101, 97, 116, 101] : List UInt8) then (some true) else (if a0.toList = ([117, 110, 105, 113, 117, 101] : List UInt8) then (some true) else (if a0.toList = ([116, 97, 98, 108, 101] : List UInt8) then (some true) else (if a0.toList = ([105, 110, 100, 101, 120] : List UInt8) then (some true) else (if a0.toList = ([111, 110] : List UInt8) then (some true) else (if a0.toList = ([100, 114, 111, 112] : List UInt8) then (some true) else (if a0.toList = ([97, 108, 116, 101, 114] : List UInt8) then (some true) else (if a0.toList = ([97, 100, 100] : List UInt8) then (some true) else (if a0.toList = ([99, 111, 108, 117, 109, 110] : List UInt8) then (some true) else (if a0.toList = ([100, 101, 102, 97, 117, 108, 116] : List UInt8) then (some true) else (if a0.toList = ([110, 111, 116] : List UInt8) then (some true) else (if a0.toList = ([110, 117, 108, 108] : List UInt8) then (some true) else (if a0.toList = ([105, 115] : List UInt8) then (some true) else (if a0.toList = ([112, 114, 105, 109, 97, 114, 121] : List UInt8) then (some true) else (if a0.toList = ([107, 101, 121] : List UInt8) then (some true) else (if a0.toList = ([98, 111, 111, 108] : List UInt8) then (some true) else (if a0.toList = ([105, 110, 116] : List UInt8) then (some true) else (if a0.toList = ([102, 108, 111, 97, 116] : List UInt8) then (some true) else (if a0.toList = ([98, 121, 116, 101, 115] : List UInt8) then (some true) else (if a0.toList = ([116, 101, 120, 116] : List UInt8) then (some true) else (if a0.toList = ([116, 114, 117, 101] : List UInt8) then (some true) else (if a0.toList = ([102, 97, 108, 115, 101] : List UInt8) then (some true) else (some false))))))))))))))))))))))))))))))))) = some r := h
 clear h
 by_cases c2 : a0.toList = ([105, 110, 115, 101, 114, 116] : List UInt8)
 ·rw [if_pos c2] at H
  have c2b0 : (a0.toList == ([105, 110, 115, 101, 114, 116] : List UInt8)) = true := beq_iff_eq.mpr c2
  have c2b1 : (a0.toList != ([105, 110, 115, 101, 114, 116] : List UInt8)) = false := bne_eq_false_iff_eq.mpr c2
  clear c2
  obtain rfl := Option.some.inj H
  go_enter Tryd.func15, Tryd.ntmps15
  go_wp2
  go_ret
  exact ⟨by first | rfl | (simp; done) | (simp [*]; done), by repeat (first | exact Drawn0.refl _ | apply Drawn0.step)⟩
 ·rw [if_neg c2] at H
  have c2b0 : (a0.toList == ([105, 110, 115, 101, 114, 116] : List UInt8)) = false := beq_eq_false_iff_ne.mpr c2
  have c2b1 : (a0.toList != ([105, 110, 115, 101, 114, 116] : List UInt8)) = true := bne_iff_ne.mpr c2
  by_cases c3 : a0.toList = ([105, 110, 116, 111] : List UInt8)
  ·rw [if_pos c3] at H
   have c3b0 : (a0.toList == ([105, 110, 116, 111] : List UInt8)) = true := beq_iff_eq.mpr c3
   have c3b1 : (a0.toList != ([105, 110, 116, 111] : List UInt8)) = false := bne_eq_false_iff_eq.mpr c3
   clear c3
   obtain rfl := Option.some.inj H
   go_enter Tryd.func15, Tryd.ntmps15
   go_wp2
   go_ret
   exact ⟨by first | rfl | (simp; done) | (simp [*]; done), by repeat (first | exact Drawn0.refl _ | apply Drawn0.step)⟩
  ·rw [if_neg c3] at H
   have c3b0 : (a0.toList == ([105, 110, 116, 111] : List UInt8)) = false := beq_eq_false_iff_ne.mpr c3
   have c3b1 : (a0.toList != ([105, 110, 116, 111] : List UInt8)) = true := bne_iff_ne.mpr c3
   by_cases c4 : a0.toList = ([118, 97, 108, 117, 101, 115] : List UInt8)
   ·rw [if_pos c4] at H
    have c4b0 : (a0.toList == ([118, 97, 108, 117, 101, 115] : List UInt8)) = true := beq_iff_eq.mpr c4
    have c4b1 : (a0.toList != ([118, 97, 108, 117, 101, 115] : List UInt8)) = false := bne_eq_false_iff_eq.mpr c4
    clear c4
    obtain rfl := Option.some.inj H
    go_enter Tryd.func15, Tryd.ntmps15
    go_wp2
    go_ret
    exact ⟨by first | rfl | (simp; done) | (simp [*]; done), by repeat (first | exact Drawn0.refl _ | apply Drawn0.step)⟩
   ·rw [if_neg c4] at H
    have c4b0 : (a0.toList == ([118, 97, 108, 117, 101, 115] : List UInt8)) = false := beq_eq_false_iff_ne.mpr c4
    have c4b1 : (a0.toList != ([118, 97, 108, 117, 101, 115] : List UInt8)) = true := bne_iff_ne.mpr c4
    by_cases c5 : a0.toList = ([117, 112, 100, 97, 116, 101] : List UInt8)
    ·rw [if_pos c5] at H
     have c5b0 : (a0.toList == ([117, 112, 100, 97, 116, 101] : List UInt8)) = true := beq_iff_eq.mpr c5
     have c5b1 : (a0.toList != ([117, 112, 100, 97, 116, 101] : List UInt8)) = false := bne_eq_false_iff_eq.mpr c5
     clear c5
     obtain rfl := Option.some.inj H
     go_enter Tryd.func15, Tryd.ntmps15
     go_wp2
     go_ret
     exact ⟨by first | rfl | (simp; done) | (simp [*]; done), by repeat (first | exact Drawn0.refl _ | apply Drawn0.step)⟩
    ·rw [if_neg c5] at H
     have c5b0 : (a0.toList == ([117, 112, 100, 97, 116, 101] : List UInt8)) = false := beq_eq_false_iff_ne.mpr c5
     have c5b1 : (a0.toList != ([117, 112, 100, 97, 116, 101] : List UInt8)) = true := bne_iff_ne.mpr c5
     by_cases c6 : a0.toList = ([115, 101, 116] : List UInt8)
     ·rw [if_pos c6] at H
      have c6b0 : (a0.toList == ([115, 101, 116] : List UInt8)) = true := beq_iff_eq.mpr c6
      have c6b1 : (a0.toList != ([115, 101, 116] : List UInt8)) = false := bne_eq_false_iff_eq.mpr c6
      clear c6
      obtain rfl := Option.some.inj H
      go_enter Tryd.func15, Tryd.ntmps15
      go_wp2
      go_ret
      exact ⟨by first | rfl | (simp; done) | (simp [*]; done), by repeat (first | exact Drawn0.refl _ | apply Drawn0.step)⟩
     ·rw [if_neg c6] at H
      have c6b0 : (a0.toList == ([115, 101, 116] : List UInt8)) = false := beq_eq_false_iff_ne.mpr c6
      have c6b1 : (a0.toList != ([115, 101, 116] : List UInt8)) = true := bne_iff_ne.mpr c6
      by_cases c7 : a0.toList = ([119, 104, 101, 114, 101] : List UInt8)
      ·rw [if_pos c7] at H
       have c7b0 : (a0.toList == ([119, 104, 101, 114, 101] : List UInt8)) = true := beq_iff_eq.mpr c7
       have c7b1 : (a0.toList != ([119, 104, 101, 114, 101] : List UInt8)) = false := bne_eq_false_iff_eq.mpr c7
       clear c7
       obtain rfl := Option.some.inj H
       go_enter Tryd.func15, Tryd.ntmps15
       go_wp2
       go_ret
       exact ⟨by first | rfl | (simp; done) | (simp [*]; done), by repeat (first | exact Drawn0.refl _ | apply Drawn0.step)⟩
      ·rw [if_neg c7] at H
       have c7b0 : (a0.toList == ([119, 104, 101, 114, 101] : List UInt8)) = false := beq_eq_false_iff_ne.mpr c7
       have c7b1 : (a0.toList != ([119, 104, 101, 114, 101] : List UInt8)) = true := bne_iff_ne.mpr c7
       by_cases c8 : a0.toList = ([97, 110, 100] : List UInt8)
       ·rw [if_pos c8] at H
        have c8b0 : (a0.toList == ([97, 110, 100] : List UInt8)) = true := beq_iff_eq.mpr c8
        have c8b1 : (a0.toList != ([97, 110, 100] : List UInt8)) = false := bne_eq_false_iff_eq.mpr c8
        clear c8
        obtain rfl := Option.some.inj H
        go_enter Tryd.func15, Tryd.ntmps15
        go_wp2
        go_ret
        exact ⟨by first | rfl | (simp; done) | (simp [*]; done), by repeat (first | exact Drawn0.refl _ | apply Drawn0.step)⟩
       ·rw [if_neg c8] at H
        have c8b0 : (a0.toList == ([97, 110, 100] : List UInt8)) = false := beq_eq_false_iff_ne.mpr c8
        have c8b1 : (a0.toList != ([97, 110, 100] : List UInt8)) = true := bne_iff_ne.mpr c8
        by_cases c9 : a0.toList = ([100, 101, 108, 101, 116, 101] : List UInt8)
        ·rw [if_pos c9] at H
         have c9b0 : (a0.toList == ([100, 101, 108, 101, 116, 101] : List UInt8)) = true := beq_iff_eq.mpr c9
         have c9b1 : (a0.toList != ([100, 101, 108, 101, 116, 101] : List UInt8)) = false := bne_eq_false_iff_eq.mpr c9
         clear c9
         obtain rfl := Option.some.inj H
         go_enter Tryd.func15, Tryd.ntmps15
         go_wp2
         go_ret
         exact ⟨by first | rfl | (simp; done) | (simp [*]; done), by repeat (first | exact Drawn0.refl _ | apply Drawn0.step)⟩
        ·rw [if_neg c9] at H
         have c9b0 : (a0.toList == ([100, 101, 108, 101, 116, 101] : List UInt8)) = false := beq_eq_false_iff_ne.mpr c9
         have c9b1 : (a0.toList != ([100, 101, 108, 101, 116, 101] : List UInt8)) = true := bne_iff_ne.mpr c9
         by_cases c10 : a0.toList = ([102, 114, 111, 109] : List UInt8)
         ·rw [if_pos c10] at H
          have c10b0 : (a0.toList == ([102, 114, 111, 109] : List UInt8)) = true := beq_iff_eq.mpr c10
          have c10b1 : (a0.toList != ([102, 114, 111, 109] : List UInt8)) = false := bne_eq_false_iff_eq.mpr c10
          clear c10
          obtain rfl := Option.some.inj H
          go_enter Tryd.func15, Tryd.ntmps15
          go_wp2
          go_ret
          exact ⟨by first | rfl | (simp; done) | (simp [*]; done), by repeat (first | exact Drawn0.refl _ | apply Drawn0.step)⟩
         ·rw [if_neg c10] at H
          have c10b0 : (a0.toList == ([102, 114, 111, 109] : List UInt8)) = false := beq_eq_false_iff_ne.mpr c10
          have c10b1 : (a0.toList != ([102, 114, 111, 109] : List UInt8)) = true := bne_iff_ne.mpr c10
          by_cases c11 : a0.toList = ([115, 101, 108, 101, 99, 116] : List UInt8)
          ·rw [if_pos c11] at H
           have c11b0 : (a0.toList == ([115, 101, 108, 101, 99, 116] : List UInt8)) = true := beq_iff_eq.mpr c11
           have c11b1 : (a0.toList != ([115, 101, 108, 101, 99, 116] : List UInt8)) = false := bne_eq_false_iff_eq.mpr c11
           clear c11
           obtain rfl := Option.some.inj H
           go_enter Tryd.func15, Tryd.ntmps15
           go_wp2
           go_ret
           exact ⟨by first | rfl | (simp; done) | (simp [*]; done), by repeat (first | exact Drawn0.refl _ | apply Drawn0.step)⟩
          ·rw [if_neg c11] at H
           have c11b0 : (a0.toList == ([115, 101, 108, 101, 99, 116] : List UInt8)) = false := beq_eq_false_iff_ne.mpr c11
           have c11b1 : (a0.toList != ([115, 101, 108, 101, 99, 116] : List UInt8)) = true := bne_iff_ne.mpr c11
           by_cases c12 : a0.toList = ([99, 114, 101, 97, 116, 101] : List UInt8)
           ·rw [if_pos c12] at H
            have c12b0 : (a0.toList == ([99, 114, 101, 97, 116, 101] : List UInt8)) = true := beq_iff_eq.mpr c12
            have c12b1 : (a0.toList != ([99, 114, 101, 97, 116, 101] : List UInt8)) = false := bne_eq_false_iff_eq.mpr c12
            clear c12
            obtain rfl := Option.some.inj H
            go_enter Tryd.func15, Tryd.ntmps15
            go_wp2
            go_ret
            exact ⟨by first | rfl | (simp; done) | (simp [*]; done), by repeat (first | exact Drawn0.refl _ | apply Drawn0.step)⟩
           ·rw [if_neg c12] at H
            have c12b0 : (a0.toList == ([99, 114, 101, 97, 116, 101] : List UInt8)) = false := beq_eq_false_iff_ne.mpr c12
            have c12b1 : (a0.toList != ([99, 114, 101, 97, 116, 101] : List UInt8)) = true := bne_iff_ne.mpr c12
            by_cases c13 : a0.toList = ([117, 110, 105, 113, 117, 101] : List UInt8)
            ·rw [if_pos c13] at H
             have c13b0 : (a0.toList == ([117, 110, 105, 113, 117, 101] : List UInt8)) = true := beq_iff_eq.mpr c13
             have c13b1 : (a0.toList != ([117, 110, 105, 113, 117, 101] : List UInt8)) = false := bne_eq_false_iff_eq.mpr c13
             clear c13
             obtain rfl := Option.some.inj H
             go_enter Tryd.func15, Tryd.ntmps15
             go_wp2
             go_ret
             exact ⟨by first | rfl | (simp; done) | (simp [*]; done), by repeat (first | exact Drawn0.refl _ | apply Drawn0.step)⟩
            ·rw [if_neg c13] at H
             have c13b0 : (a0.toList == ([117, 110, 105, 113, 117, 101] : List UInt8)) = false := beq_eq_false_iff_ne.mpr c13
             have c13b1 : (a0.toList != ([117, 110, 105, 113, 117, 101] : List UInt8)) = true := bne_iff_ne.mpr c13
             by_cases c14 : a0.toList = ([116, 97, 98, 108, 101] : List UInt8)
             ·rw [if_pos c14] at H
              have c14b0 : (a0.toList == ([116, 97, 98, 108, 101] : List UInt8)) = true := beq_iff_eq.mpr c14
              have c14b1 : (a0.toList != ([116, 97, 98, 108, 101] : List UInt8)) = false := bne_eq_false_iff_eq.mpr c14
              clear c14
              obtain rfl := Option.some.inj H
              go_enter Tryd.func15, Tryd.ntmps15
              go_wp2
              go_ret
              exact ⟨by first | rfl | (simp; done) | (simp [*]; done), by repeat (first | exact Drawn0.refl _ | apply Drawn0.step)⟩
             ·rw [if_neg c14] at H
              have c14b0 : (a0.toList == ([116, 97, 98, 108, 101] : List UInt8)) = false := beq_eq_false_iff_ne.mpr c14
              have c14b1 : (a0.toList != ([116, 97, 98, 108, 101] : List UInt8)) = true := bne_iff_ne.mpr c14
              by_cases c15 : a0.toList = ([105, 110, 100, 101, 120] : List UInt8)
              ·rw [if_pos c15] at H
               have c15b0 : (a0.toList == ([105, 110, 100, 101, 120] : List UInt8)) = true := beq_iff_eq.mpr c15
               have c15b1 : (a0.toList != ([105, 110, 100, 101, 120] : List UInt8)) = false := bne_eq_false_iff_eq.mpr c15
               clear c15
               obtain rfl := Option.some.inj H
               go_enter Tryd.func15, Tryd.ntmps15
               go_wp2
               go_ret
               exact ⟨by first | rfl | (simp; done) | (simp [*]; done), by repeat (first | exact Drawn0.refl _ | apply Drawn0.step)⟩
              ·rw [if_neg c15] at H
               have c15b0 : (a0.toList == ([105, 110, 100, 101, 120] : List UInt8)) = false := beq_eq_false_iff_ne.mpr c15
               have c15b1 : (a0.toList != ([105, 110, 100, 101, 120] : List UInt8)) = true := bne_iff_ne.mpr c15
               by_cases c16 : a0.toList = ([111, 110] : List UInt8)
               ·rw [if_pos c16] at H
                have c16b0 : (a0.toList == ([111, 110] : List UInt8)) = true := beq_iff_eq.mpr c16
                have c16b1 : (a0.toList != ([111, 110] : List UInt8)) = false := bne_eq_false_iff_eq.mpr c16
                clear c16
                obtain rfl := Option.some.inj H
                go_enter Tryd.func15, Tryd.ntmps15
                go_wp2
                go_ret
                exact ⟨by first | rfl | (simp; done) | (simp [*]; done), by repeat (first | exact Drawn0.refl _ | apply Drawn0.step)⟩
               ·rw [if_neg c16] at H
                have c16b0 : (a0.toList == ([111, 110] : List UInt8)) = false := beq_eq_false_iff_ne.mpr c16
                have c16b1 : (a0.toList != ([111, 110] : List UInt8)) = true := bne_iff_ne.mpr c16
                by_cases c17 : a0.toList = ([100, 114, 111, 112] : List UInt8)
                ·rw [if_pos c17] at H
                 have c17b0 : (a0.toList == ([100, 114, 111, 112] : List UInt8)) = true := beq_iff_eq.mpr c17
                 have c17b1 : (a0.toList != ([100, 114, 111, 112] : List UInt8)) = false := bne_eq_false_iff_eq.mpr c17
                 clear c17
                 obtain rfl := Option.some.inj H
                 go_enter Tryd.func15, Tryd.ntmps15
                 go_wp2
                 go_ret
                 exact ⟨by first | rfl | (simp; done) | (simp [*]; done), by repeat (first | exact Drawn0.refl _ | apply Drawn0.step)⟩
                ·rw [if_neg c17] at H
                 have c17b0 : (a0.toList == ([100, 114, 111, 112] : List UInt8)) = false := beq_eq_false_iff_ne.mpr c17
                 have c17b1 : (a0.toList != ([100, 114, 111, 112] : List UInt8)) = true := bne_iff_ne.mpr c17
                 by_cases c18 : a0.toList = ([97, 108, 116, 101, 114] : List UInt8)
                 ·rw [if_pos c18] at H
                  have c18b0 : (a0.toList == ([97, 108, 116, 101, 114] : List UInt8)) = true := beq_iff_eq.mpr c18
                  have c18b1 : (a0.toList != ([97, 108, 116, 101, 114] : List UInt8)) = false := bne_eq_false_iff_eq.mpr c18
                  clear c18
                  obtain rfl := Option.some.inj H
                  go_enter Tryd.func15, Tryd.ntmps15
                  go_wp2
                  go_ret
                  exact ⟨by first | rfl | (simp; done) | (simp [*]; done), by repeat (first | exact Drawn0.refl _ | apply Drawn0.step)⟩
                 ·rw [if_neg c18] at H
                  have c18b0 : (a0.toList == ([97, 108, 116, 101, 114] : List UInt8)) = false := beq_eq_false_iff_ne.mpr c18
                  have c18b1 : (a0.toList != ([97, 108, 116, 101, 114] : List UInt8)) = true := bne_iff_ne.mpr c18
                  by_cases c19 : a0.toList = ([97, 100, 100] : List UInt8)
                  ·rw [if_pos c19] at H
                   have c19b0 : (a0.toList == ([97, 100, 100] : List UInt8)) = true := beq_iff_eq.mpr c19
                   have c19b1 : (a0.toList != ([97, 100, 100] : List UInt8)) = false := bne_eq_false_iff_eq.mpr c19
                   clear c19
                   obtain rfl := Option.some.inj H
                   go_enter Tryd.func15, Tryd.ntmps15
                   go_wp2
                   go_ret
                   exact ⟨by first | rfl | (simp; done) | (simp [*]; done), by repeat (first | exact Drawn0.refl _ | apply Drawn0.step)⟩
                  ·rw [if_neg c19] at H
                   have c19b0 : (a0.toList == ([97, 100, 100] : List UInt8)) = false := beq_eq_false_iff_ne.mpr c19
                   have c19b1 : (a0.toList != ([97, 100, 100] : List UInt8)) = true := bne_iff_ne.mpr c19
                   by_cases c20 : a0.toList = ([99, 111, 108, 117, 109, 110] : List UInt8)
                   ·rw [if_pos c20] at H
                    have c20b0 : (a0.toList == ([99, 111, 108, 117, 109, 110] : List UInt8)) = true := beq_iff_eq.mpr c20
                    have c20b1 : (a0.toList != ([99, 111, 108, 117, 109, 110] : List UInt8)) = false := bne_eq_false_iff_eq.mpr c20
                    clear c20
                    obtain rfl := Option.some.inj H
                    go_enter Tryd.func15, Tryd.ntmps15
                    go_wp2
                    go_ret
                    exact ⟨by first | rfl | (simp; done) | (simp [*]; done), by repeat (first | exact Drawn0.refl _ | apply Drawn0.step)⟩
                   ·rw [if_neg c20] at H
                    have c20b0 : (a0.toList == ([99, 111, 108, 117, 109, 110] : List UInt8)) = false := beq_eq_false_iff_ne.mpr c20
                    have c20b1 : (a0.toList != ([99, 111, 108, 117, 109, 110] : List UInt8)) = true := bne_iff_ne.mpr c20
                    by_cases c21 : a0.toList = ([100, 101, 102, 97, 117, 108, 116] : List UInt8)
                    ·rw [if_pos c21] at H
                     have c21b0 : (a0.toList == ([100, 101, 102, 97, 117, 108, 116] : List UInt8)) = true := beq_iff_eq.mpr c21
                     have c21b1 : (a0.toList != ([100, 101, 102, 97, 117, 108, 116] : List UInt8)) = false := bne_eq_false_iff_eq.mpr c21
                     clear c21
                     obtain rfl := Option.some.inj H
                     go_enter Tryd.func15, Tryd.ntmps15
                     go_wp2
                     go_ret
                     exact ⟨by first | rfl | (simp; done) | (simp [*]; done), by repeat (first | exact Drawn0.refl _ | apply Drawn0.step)⟩
                    ·rw [if_neg c21] at H
                     have c21b0 : (a0.toList == ([100, 101, 102, 97, 117, 108, 116] : List UInt8)) = false := beq_eq_false_iff_ne.mpr c21
                     have c21b1 : (a0.toList != ([100, 101, 102, 97, 117, 108, 116] : List UInt8)) = true := bne_iff_ne.mpr c21
                     by_cases c22 : a0.toList = ([110, 111, 116] : List UInt8)
                     ·rw [if_pos c22] at H
                      have c22b0 : (a0.toList == ([110, 111, 116] : List UInt8)) = true := beq_iff_eq.mpr c22
                      have c22b1 : (a0.toList != ([110, 111, 116] : List UInt8)) = false := bne_eq_false_iff_eq.mpr c22
                      clear c22
                      obtain rfl := Option.some.inj H
                      go_enter Tryd.func15, Tryd.ntmps15
                      go_wp2
                      go_ret
                      exact ⟨by first | rfl | (simp; done) | (simp [*]; done), by repeat (first | exact Drawn0.refl _ | apply Drawn0.step)⟩
                     ·rw [if_neg c22] at H
                      have c22b0 : (a0.toList == ([110, 111, 116] : List UInt8)) = false := beq_eq_false_iff_ne.mpr c22
                      have c22b1 : (a0.toList != ([110, 111, 116] : List UInt8)) = true := bne_iff_ne.mpr c22
                      by_cases c23 : a0.toList = ([110, 117, 108, 108] : List UInt8)
                      ·rw [if_pos c23] at H
                       have c23b0 : (a0.toList == ([110, 117, 108, 108] : List UInt8)) = true := beq_iff_eq.mpr c23
                       have c23b1 : (a0.toList != ([110, 117, 108, 108] : List UInt8)) = false := bne_eq_false_iff_eq.mpr c23
                       clear c23
                       obtain rfl := Option.some.inj H
                       go_enter Tryd.func15, Tryd.ntmps15
                       go_wp2
                       go_ret
                       exact ⟨by first | rfl | (simp; done) | (simp [*]; done), by repeat (first | exact Drawn0.refl _ | apply Drawn0.step)⟩
                      ·rw [if_neg c23] at H
                       have c23b0 : (a0.toList == ([110, 117, 108, 108] : List UInt8)) = false := beq_eq_false_iff_ne.mpr c23
                       have c23b1 : (a0.toList != ([110, 117, 108, 108] : List UInt8)) = true := bne_iff_ne.mpr c23
                       by_cases c24 : a0.toList = ([105, 115] : List UInt8)
                       ·rw [if_pos c24] at H
                        have c24b0 : (a0.toList == ([105, 115] : List UInt8)) = true := beq_iff_eq.mpr c24
                        have c24b1 : (a0.toList != ([105, 115] : List UInt8)) = false := bne_eq_false_iff_eq.mpr c24
                        clear c24
                        obtain rfl := Option.some.inj H
                        go_enter Tryd.func15, Tryd.ntmps15
                        go_wp2
                        go_ret
                        exact ⟨by first | rfl | (simp; done) | (simp [*]; done), by repeat (first | exact Drawn0.refl _ | apply Drawn0.step)⟩
                       ·rw [if_neg c24] at H
                        have c24b0 : (a0.toList == ([105, 115] : List UInt8)) = false := beq_eq_false_iff_ne.mpr c24
                        have c24b1 : (a0.toList != ([105, 115] : List UInt8)) = true := bne_iff_ne.mpr c24
                        by_cases c25 : a0.toList = ([112, 114, 105, 109, 97, 114, 121] : List UInt8)
                        ·rw [if_pos c25] at H
                         have c25b0 : (a0.toList == ([112, 114, 105, 109, 97, 114, 121] : List UInt8)) = true := beq_iff_eq.mpr c25
                         have c25b1 : (a0.toList != ([112, 114, 105, 109, 97, 114, 121] : List UInt8)) = false := bne_eq_false_iff_eq.mpr c25
                         clear c25
                         obtain rfl := Option.some.inj H
                         go_enter Tryd.func15, Tryd.ntmps15
                         go_wp2
                         go_ret
                         exact ⟨by first | rfl | (simp; done) | (simp [*]; done), by repeat (first | exact Drawn0.refl _ | apply Drawn0.step)⟩
                        ·rw [if_neg c25] at H
                         have c25b0 : (a0.toList == ([112, 114, 105, 109, 97, 114, 121] : List UInt8)) = false := beq_eq_false_iff_ne.mpr c25
                         have c25b1 : (a0.toList != ([112, 114, 105, 109, 97, 114, 121] : List UInt8)) = true := bne_iff_ne.mpr c25
                         by_cases c26 : a0.toList = ([107, 101, 121] : List UInt8)
                         ·rw [if_pos c26] at H
                          have c26b0 : (a0.toList == ([107, 101, 121] : List UInt8)) = true := beq_iff_eq.mpr c26
                          have c26b1 : (a0.toList != ([107, 101, 121] : List UInt8)) = false := bne_eq_false_iff_eq.mpr c26
                          clear c26
                          obtain rfl := Option.some.inj H
                          go_enter Tryd.func15, Tryd.ntmps15
                          go_wp2
                          go_ret
                          exact ⟨by first | rfl | (simp; done) | (simp [*]; done), by repeat (first | exact Drawn0.refl _ | apply Drawn0.step)⟩
                         ·rw [if_neg c26] at H
                          have c26b0 : (a0.toList == ([107, 101, 121] : List UInt8)) = false := beq_eq_false_iff_ne.mpr c26
                          have c26b1 : (a0.toList != ([107, 101, 121] : List UInt8)) = true := bne_iff_ne.mpr c26
                          by_cases c27 : a0.toList = ([98, 111, 111, 108] : List UInt8)
                          ·rw [if_pos c27] at H
                           have c27b0 : (a0.toList == ([98, 111, 111, 108] : List UInt8)) = true := beq_iff_eq.mpr c27
                           have c27b1 : (a0.toList != ([98, 111, 111, 108] : List UInt8)) = false := bne_eq_false_iff_eq.mpr c27
                           clear c27
                           obtain rfl := Option.some.inj H
                           go_enter Tryd.func15, Tryd.ntmps15
                           go_wp2
                           go_ret
                           exact ⟨by first | rfl | (simp; done) | (simp [*]; done), by repeat (first | exact Drawn0.refl _ | apply Drawn0.step)⟩
                          ·rw [if_neg c27] at H
                           have c27b0 : (a0.toList == ([98, 111, 111, 108] : List UInt8)) = false := beq_eq_false_iff_ne.mpr c27
                           have c27b1 : (a0.toList != ([98, 111, 111, 108] : List UInt8)) = true := bne_iff_ne.mpr c27
                           by_cases c28 : a0.toList = ([105, 110, 116] : List UInt8)
                           ·rw [if_pos c28] at H
                            have c28b0 : (a0.toList == ([105, 110, 116] : List UInt8)) = true := beq_iff_eq.mpr c28
                            have c28b1 : (a0.toList != ([105, 110, 116] : List UInt8)) = false := bne_eq_false_iff_eq.mpr c28
                            clear c28
                            obtain rfl := Option.some.inj H
                            go_enter Tryd.func15, Tryd.ntmps15
                            go_wp2
                            go_ret
                            exact ⟨by first | rfl | (simp; done) | (simp [*]; done), by repeat (first | exact Drawn0.refl _ | apply Drawn0.step)⟩
                           ·rw [if_neg c28] at H
                            have c28b0 : (a0.toList == ([105, 110, 116] : List UInt8)) = false := beq_eq_false_iff_ne.mpr c28
                            have c28b1 : (a0.toList != ([105, 110, 116] : List UInt8)) = true := bne_iff_ne.mpr c28
                            by_cases c29 : a0.toList = ([102, 108, 111, 97, 116] : List UInt8)
                            ·rw [if_pos c29] at H
                             have c29b0 : (a0.toList == ([102, 108, 111, 97, 116] : List UInt8)) = true := beq_iff_eq.mpr c29
                             have c29b1 : (a0.toList != ([102, 108, 111, 97, 116] : List UInt8)) = false := bne_eq_false_iff_eq.mpr c29
                             clear c29
                             obtain rfl := Option.some.inj H
                             go_enter Tryd.func15, Tryd.ntmps15
                             go_wp2
                             go_ret
                             exact ⟨by first | rfl | (simp; done) | (simp [*]; done), by repeat (first | exact Drawn0.refl _ | apply Drawn0.step)⟩
                            ·rw [if_neg c29] at H
                             have c29b0 : (a0.toList == ([102, 108, 111, 97, 116] : List UInt8)) = false := beq_eq_false_iff_ne.mpr c29
                             have c29b1 : (a0.toList != ([102, 108, 111, 97, 116] : List UInt8)) = true := bne_iff_ne.mpr c29
                             by_cases c30 : a0.toList = ([98, 121, 116, 101, 115] : List UInt8)
                             ·rw [if_pos c30] at H
                              have c30b0 : (a0.toList == ([98, 121, 116, 101, 115] : List UInt8)) = true := beq_iff_eq.mpr c30
                              have c30b1 : (a0.toList != ([98, 121, 116, 101, 115] : List UInt8)) = false := bne_eq_false_iff_eq.mpr c30
                              clear c30
                              obtain rfl := Option.some.inj H
                              go_enter Tryd.func15, Tryd.ntmps15
                              go_wp2
                              go_ret
                              exact ⟨by first | rfl | (simp; done) | (simp [*]; done), by repeat (first | exact Drawn0.refl _ | apply Drawn0.step)⟩
                             ·rw [if_neg c30] at H
                              have c30b0 : (a0.toList == ([98, 121, 116, 101, 115] : List UInt8)) = false := beq_eq_false_iff_ne.mpr c30
                              have c30b1 : (a0.toList != ([98, 121, 116, 101, 115] : List UInt8)) = true := bne_iff_ne.mpr c30
                              by_cases c31 : a0.toList = ([116, 101, 120, 116] : List UInt8)
                              ·rw [if_pos c31] at H
                               have c31b0 : (a0.toList == ([116, 101, 120, 116] : List UInt8)) = true := beq_iff_eq.mpr c31
                               have c31b1 : (a0.toList != ([116, 101, 120, 116] : List UInt8)) = false := bne_eq_false_iff_eq.mpr c31
                               clear c31
                               obtain rfl := Option.some.inj H
                               go_enter Tryd.func15, Tryd.ntmps15
                               go_wp2
                               go_ret
                               exact ⟨by first | rfl | (simp; done) | (simp [*]; done), by repeat (first | exact Drawn0.refl _ | apply Drawn0.step)⟩
                              ·rw [if_neg c31] at H
                               have c31b0 : (a0.toList == ([116, 101, 120, 116] : List UInt8)) = false := beq_eq_false_iff_ne.mpr c31
                               have c31b1 : (a0.toList != ([116, 101, 120, 116] : List UInt8)) = true := bne_iff_ne.mpr c31
                               by_cases c32 : a0.toList = ([116, 114, 117, 101] : List UInt8)
                               ·rw [if_pos c32] at H
                                have c32b0 : (a0.toList == ([116, 114, 117, 101] : List UInt8)) = true := beq_iff_eq.mpr c32
                                have c32b1 : (a0.toList != ([116, 114, 117, 101] : List UInt8)) = false := bne_eq_false_iff_eq.mpr c32
                                clear c32
                                obtain rfl := Option.some.inj H
                                go_enter Tryd.func15, Tryd.ntmps15
                                go_wp2
                                go_ret
                                exact ⟨by first | rfl | (simp; done) | (simp [*]; done), by repeat (first | exact Drawn0.refl _ | apply Drawn0.step)⟩
                               ·rw [if_neg c32] at H
                                have c32b0 : (a0.toList == ([116, 114, 117, 101] : List UInt8)) = false := beq_eq_false_iff_ne.mpr c32
                                have c32b1 : (a0.toList != ([116, 114, 117, 101] : List UInt8)) = true := bne_iff_ne.mpr c32
                                by_cases c33 : a0.toList = ([102, 97, 108, 115, 101] : List UInt8)
                                ·rw [if_pos c33] at H
                                 have c33b0 : (a0.toList == ([102, 97, 108, 115, 101] : List UInt8)) = true := beq_iff_eq.mpr c33
                                 have c33b1 : (a0.toList != ([102, 97, 108, 115, 101] : List UInt8)) = false := bne_eq_false_iff_eq.mpr c33
                                 clear c33
                                 obtain rfl := Option.some.inj H
                                 go_enter Tryd.func15, Tryd.ntmps15
                                 go_wp2
                                 go_ret
                                 exact ⟨by first | rfl | (simp; done) | (simp [*]; done), by repeat (first | exact Drawn0.refl _ | apply Drawn0.step)⟩
                                ·rw [if_neg c33] at H
                                 have c33b0 : (a0.toList == ([102, 97, 108, 115, 101] : List UInt8)) = false := beq_eq_false_iff_ne.mpr c33
                                 have c33b1 : (a0.toList != ([102, 97, 108, 115, 101] : List UInt8)) = true := bne_iff_ne.mpr c33
                                 obtain rfl := Option.some.inj H
                                 go_enter Tryd.func15, Tryd.ntmps15
                                 go_wp2
                                 go_ret
                                 exact ⟨by first | rfl | (simp; done) | (simp [*]; done), by repeat (first | exact Drawn0.refl _ | apply Drawn0.step)⟩
end Go.Proofs.YtjehfmimbbdnkaaDoor.L
namespace Go.Proofs.YtjehfmimbbdnkaaDoor.L
open Go.RowKit Go.Proofs.YtjehfmimbbdnkaaDoorW.PrintWords Go.Proofs.YtjehfmimbbdnkaaDoorW.PrintLast Go.Proofs.YtjehfmimbbdnkaaDoorW.PrintMore
attribute [local go_sem] max2_int min2_int max_two min_two max_three min_three max_four min_four
set_option linter.unusedVariables false
set_option linter.unusedSimpArgs false
def falseworkref16_digit.f (a0 : Int) : Option (Bool) := if a0 ≥ 48 then (some (decide (a0 ≤ 57))) else (some false)
set_option maxHeartbeats 8000000 in
set_option maxRecDepth 100000 in
theorem falseworkref16_digit.calls (a0 : Int) (r : Bool) (w : World) (h : falseworkref16_digit.f a0 = some r) :
  Calls Tryd.prog 36 #[.int .u8 a0] w fun e w' => e = .returned (.bool r) ∧ Drawn0 w w' := by
 have H : (if a0 ≥ 48 then (some (decide (a0 ≤ 57))) else (some false)) = some r := h
 clear h
 by_cases c2 : a0 ≥ 48
 ·rw [if_pos c2] at H
  have c2b0 : decide (48 ≤ a0) = true := decide_eq_true c2
  clear c2
  obtain rfl := Option.some.inj H
  go_enter Tryd.func36, Tryd.ntmps36
  go_wp2
  go_ret
  exact ⟨by first | rfl | (simp; done) | (simp [*]; done), by repeat (first | exact Drawn0.refl _ | apply Drawn0.step)⟩
 ·rw [if_neg c2] at H
  have c2b0 : decide (48 ≤ a0) = false := decide_eq_false c2
  clear c2
  obtain rfl := Option.some.inj H
  go_enter Tryd.func36, Tryd.ntmps36
  go_wp2
  go_ret
  exact ⟨by first | rfl | (simp; done) | (simp [*]; done), by repeat (first | exact Drawn0.refl _ | apply Drawn0.step)⟩
end Go.Proofs.YtjehfmimbbdnkaaDoor.L
namespace Go.Proofs.YtjehfmimbbdnkaaDoor.L
open Go.RowKit Go.Proofs.YtjehfmimbbdnkaaDoorW.PrintWords Go.Proofs.YtjehfmimbbdnkaaDoorW.PrintLast Go.Proofs.YtjehfmimbbdnkaaDoorW.PrintMore
attribute [local go_sem] max2_int min2_int max_two min_two max_three min_three max_four min_four
set_option linter.unusedVariables false
set_option linter.unusedSimpArgs false
def falseworkref1_Canon.f (a0 : Int) : Option (Int) := if (Go.bits .andNot .u64 a0 9223372036854775808) > 9218868437227405312 then (some 9221120237041090560) else (if a0 = 9223372036854775808 then (some 0) else (some a0))
set_option maxHeartbeats 8000000 in
set_option maxRecDepth 100000 in
theorem falseworkref1_Canon.calls (a0 : Int) (r : Int) (w : World) (h : falseworkref1_Canon.f a0 = some r) :
  Calls Tryd.prog 18 #[.int .u64 a0] w fun e w' => e = .returned (.int .u64 r) ∧ Drawn0 w w' := by
 have H : (if (Go.bits .andNot .u64 a0 9223372036854775808) > 9218868437227405312 then (some 9221120237041090560) else (if a0 = 9223372036854775808 then (some 0) else (some a0))) = some r := h
 clear h
 by_cases c2 : (Go.bits .andNot .u64 a0 9223372036854775808) > 9218868437227405312
 ·rw [if_pos c2] at H
  have c2b0 : decide (9218868437227405312 < (Go.bits .andNot .u64 a0 9223372036854775808)) = true := decide_eq_true c2
  clear c2
  obtain rfl := Option.some.inj H
  go_enter Tryd.func18, Tryd.ntmps18
  go_wp2
  go_ret
  exact ⟨by first | rfl | (simp; done) | (simp [*]; done), by repeat (first | exact Drawn0.refl _ | apply Drawn0.step)⟩
 ·rw [if_neg c2] at H
  have c2b0 : decide (9218868437227405312 < (Go.bits .andNot .u64 a0 9223372036854775808)) = false := decide_eq_false c2
  clear c2
  by_cases c3 : a0 = 9223372036854775808
  ·rw [if_pos c3] at H
   have c3b0 : (a0 == 9223372036854775808) = true := beq_iff_eq.mpr c3
   have c3b1 : (a0 != 9223372036854775808) = false := bne_eq_false_iff_eq.mpr c3
   clear c3
   obtain rfl := Option.some.inj H
   go_enter Tryd.func18, Tryd.ntmps18
   go_wp2
   go_ret
   exact ⟨by first | rfl | (simp; done) | (simp [*]; done), by repeat (first | exact Drawn0.refl _ | apply Drawn0.step)⟩
  ·rw [if_neg c3] at H
   have c3b0 : (a0 == 9223372036854775808) = false := beq_eq_false_iff_ne.mpr c3
   have c3b1 : (a0 != 9223372036854775808) = true := bne_iff_ne.mpr c3
   obtain rfl := Option.some.inj H
   go_enter Tryd.func18, Tryd.ntmps18
   go_wp2
   go_ret
   exact ⟨by first | rfl | (simp; done) | (simp [*]; done), by repeat (first | exact Drawn0.refl _ | apply Drawn0.step)⟩
end Go.Proofs.YtjehfmimbbdnkaaDoor.L
namespace Go.Proofs.YtjehfmimbbdnkaaDoor.L
open Go.RowKit Go.Proofs.YtjehfmimbbdnkaaDoorW.PrintWords Go.Proofs.YtjehfmimbbdnkaaDoorW.PrintLast Go.Proofs.YtjehfmimbbdnkaaDoorW.PrintMore
attribute [local go_sem] max2_int min2_int max_two min_two max_three min_three max_four min_four
set_option linter.unusedVariables false
set_option linter.unusedSimpArgs false
def falseworkref16_half.f (a0 : Int) : Option (Int) := (falseworkref16_digit.f a0).bind fun t182 => (if t182 = true then (some ((a0 - 48) % 256)) else (if a0 ≥ 97 then (if a0 ≤ 102 then (some (((a0 - 97) % 256) + 10)) else (some (-1))) else (some (-1))))
set_option maxHeartbeats 8000000 in
set_option maxRecDepth 100000 in
theorem falseworkref16_half.calls (a0 : Int) (r : Int) (w : World) (h : falseworkref16_half.f a0 = some r) :
  Calls Tryd.prog 49 #[.int .u8 a0] w fun e w' => e = .returned (.int .i64 r) ∧ Drawn0 w w' := by
 have H : ((falseworkref16_digit.f a0).bind fun t182 => (if t182 = true then (some ((a0 - 48) % 256)) else (if a0 ≥ 97 then (if a0 ≤ 102 then (some (((a0 - 97) % 256) + 10)) else (some (-1))) else (some (-1))))) = some r := h
 clear h
 replace H := Option.bind_eq_some_iff.mp H
 obtain ⟨t182, A20, H⟩ := H
 replace H : (if t182 = true then (some ((a0 - 48) % 256)) else (if a0 ≥ 97 then (if a0 ≤ 102 then (some (((a0 - 97) % 256) + 10)) else (some (-1))) else (some (-1)))) = some r := H
 have A2 := Aside0.mk A20
 clear A20
 by_cases c3 : t182 = true
 ·subst c3
  have H1 : (some ((a0 - 48) % 256)) = some r := by rw [if_pos rfl] at H; exact H
  clear H
  have H := H1
  clear H1
  obtain rfl := Option.some.inj H
  go_enter Tryd.func49, Tryd.ntmps49
  go_wp2_with (first | ((with_reducible refine gate_callee (f := 36) rfl ?_); refine goesL_ (some 5) rfl rfl Tryd.func36 (by kernel_rfl) rfl #[.int .u8 a0] rfl (by (try simp only [List.map_toArray, List.map_cons, List.map_nil]); first | done | rfl | (simp only [List.length_drop, List.length_take]; rfl)) ?_; (with_reducible refine (falseworkref16_digit.calls a0 true _ A2.out).mono ?_); rintro e w' ⟨rfl, ⟨nd, rfl⟩⟩; refine ⟨_, rfl, ?_⟩))
  go_ret
  exact ⟨by first | rfl | (simp; done) | (simp [*]; done), by repeat (first | exact Drawn0.refl _ | apply Drawn0.step)⟩
 ·replace c3 := Bool.eq_false_iff.mpr c3
  subst c3
  have H1 : (if a0 ≥ 97 then (if a0 ≤ 102 then (some (((a0 - 97) % 256) + 10)) else (some (-1))) else (some (-1))) = some r := by rw [if_neg (show ¬ (false = true) by decide)] at H; exact H
  clear H
  have H := H1
  clear H1
  by_cases c4 : a0 ≥ 97
  ·rw [if_pos c4] at H
   have c4b0 : decide (97 ≤ a0) = true := decide_eq_true c4
   clear c4
   by_cases c5 : a0 ≤ 102
   ·rw [if_pos c5] at H
    have c5b0 : decide (a0 ≤ 102) = true := decide_eq_true c5
    clear c5
    obtain rfl := Option.some.inj H
    go_enter Tryd.func49, Tryd.ntmps49
    go_wp2_with (first | ((with_reducible refine gate_callee (f := 36) rfl ?_); refine goesL_ (some 5) rfl rfl Tryd.func36 (by kernel_rfl) rfl #[.int .u8 a0] rfl (by (try simp only [List.map_toArray, List.map_cons, List.map_nil]); first | done | rfl | (simp only [List.length_drop, List.length_take]; rfl)) ?_; (with_reducible refine (falseworkref16_digit.calls a0 false _ A2.out).mono ?_); rintro e w' ⟨rfl, ⟨nd, rfl⟩⟩; refine ⟨_, rfl, ?_⟩))
    go_ret
    exact ⟨by first | rfl | (simp; done) | (simp [*]; done), by repeat (first | exact Drawn0.refl _ | apply Drawn0.step)⟩
   ·rw [if_neg c5] at H
    have c5b0 : decide (a0 ≤ 102) = false := decide_eq_false c5
    clear c5
    obtain rfl := Option.some.inj H
    go_enter Tryd.func49, Tryd.ntmps49
    go_wp2_with (first | ((with_reducible refine gate_callee (f := 36) rfl ?_); refine goesL_ (some 5) rfl rfl Tryd.func36 (by kernel_rfl) rfl #[.int .u8 a0] rfl (by (try simp only [List.map_toArray, List.map_cons, List.map_nil]); first | done | rfl | (simp only [List.length_drop, List.length_take]; rfl)) ?_; (with_reducible refine (falseworkref16_digit.calls a0 false _ A2.out).mono ?_); rintro e w' ⟨rfl, ⟨nd, rfl⟩⟩; refine ⟨_, rfl, ?_⟩))
    go_ret
    exact ⟨by first | rfl | (simp; done) | (simp [*]; done), by repeat (first | exact Drawn0.refl _ | apply Drawn0.step)⟩
  ·rw [if_neg c4] at H
   have c4b0 : decide (97 ≤ a0) = false := decide_eq_false c4
   clear c4
   obtain rfl := Option.some.inj H
   go_enter Tryd.func49, Tryd.ntmps49
   go_wp2_with (first | ((with_reducible refine gate_callee (f := 36) rfl ?_); refine goesL_ (some 5) rfl rfl Tryd.func36 (by kernel_rfl) rfl #[.int .u8 a0] rfl (by (try simp only [List.map_toArray, List.map_cons, List.map_nil]); first | done | rfl | (simp only [List.length_drop, List.length_take]; rfl)) ?_; (with_reducible refine (falseworkref16_digit.calls a0 false _ A2.out).mono ?_); rintro e w' ⟨rfl, ⟨nd, rfl⟩⟩; refine ⟨_, rfl, ?_⟩))
   go_ret
   exact ⟨by first | rfl | (simp; done) | (simp [*]; done), by repeat (first | exact Drawn0.refl _ | apply Drawn0.step)⟩
end Go.Proofs.YtjehfmimbbdnkaaDoor.L
namespace Go.Proofs.YtjehfmimbbdnkaaDoor.L
open Go.RowKit Go.Proofs.YtjehfmimbbdnkaaDoorW.PrintWords Go.Proofs.YtjehfmimbbdnkaaDoorW.PrintLast Go.Proofs.YtjehfmimbbdnkaaDoorW.PrintMore
attribute [local go_sem] max2_int min2_int max_two min_two max_three min_three max_four min_four
set_option linter.unusedVariables false
set_option linter.unusedSimpArgs false
def falseworkref2_Number.l0 : Nat → ByteArray → Int → Int → Option (Int)
 | 0, _, _, _ => none
 | k + 1, x0, x3, x4 => if x4 < 8 then (if 0 ≤ x4 then (if x4 < (x0.size : Int) then (falseworkref2_Number.l0 k x0 (Go.bits .or .u64 (IntKind.u64.wrap (x3 * 256)) (IntKind.u64.wrap (bt x0 x4))) (wrap64 (x4 + 1))) else (none)) else (none)) else (some x3)
def falseworkref2_Number.f (k : Nat) (a0 : ByteArray) : Option (Int) := falseworkref2_Number.l0 k a0 0 0
theorem falseworkref2_Number.mono_l : ∀ k, (∀ y0 y1 y2, LeO (falseworkref2_Number.l0 k y0 y1 y2) (falseworkref2_Number.l0 (k + 1) y0 y1 y2))
 | 0 => fun _ _ _ r h => by simp [falseworkref2_Number.l0] at h
 | k + 1 => by
  have ih0 := falseworkref2_Number.mono_l k
  ·intro y0 y1 y2
   unfold falseworkref2_Number.l0
   repeat' first
   | (with_reducible exact ih0 _ _ _)
   | (with_reducible exact LeO.refl _)
   | (with_reducible exact LeO.none _)
   | (with_reducible refine LeO.ite ?_ ?_)
   | (with_reducible refine LeO.bind ?_ (fun _ => ?_))
   | exact ih0 _ _ _
   | exact LeO.none _
   | refine LeO.ite ?_ ?_
   | refine LeO.bind ?_ (fun _ => ?_)
theorem falseworkref2_Number.mono : ∀ a0 k, LeO (falseworkref2_Number.f k a0) (falseworkref2_Number.f (k + 1) a0) := by
 intro a0 k
 have ih0 := falseworkref2_Number.mono_l k
 unfold falseworkref2_Number.f
 repeat' first
   | (with_reducible exact ih0 _ _ _)
   | (with_reducible exact LeO.refl _)
   | (with_reducible exact LeO.none _)
   | (with_reducible refine LeO.ite ?_ ?_)
   | (with_reducible refine LeO.bind ?_ (fun _ => ?_))
   | exact ih0 _ _ _
   | exact LeO.none _
   | refine LeO.ite ?_ ?_
   | refine LeO.bind ?_ (fun _ => ?_)
set_option maxHeartbeats 8000000 in
set_option maxRecDepth 100000 in
theorem falseworkref2_Number.calls (k : Nat) (a0 : ByteArray) (r : Int) (w : World) (h : falseworkref2_Number.f k a0 = some r) :
  Calls Tryd.prog 50 #[.string a0] w fun e w' => e = .returned (.int .u64 r) ∧ Drawn0 w w' := by
 have H : (falseworkref2_Number.l0 k a0 0 0) = some r := h
 clear h
 have H' := Aside0.mk H
 clear H
 go_enter Tryd.func50, Tryd.ntmps50
 go_wp2
 go_loopg [3, 4] k (fun kq v3 v4 w' => ∃ (x3_1 : Int) (x4_1 : Int), v3 = .int .u64 x3_1 ∧ v4 = .int .i64 x4_1 ∧ Aside0 (falseworkref2_Number.l0 kq a0 x3_1 x4_1 = some r) ∧ Aside0 (kq ≤ k) ∧ Drawn0 w w')
 case atStart => exact ⟨(0), (0), (by first | rfl | (simp; done) | (simp [*]; done)), (by first | rfl | (simp; done) | (simp [*]; done)), H', ⟨Nat.le_refl _⟩, by repeat (first | exact Drawn0.refl _ | apply Drawn0.step)⟩
 case round =>
  clear H'
  obtain ⟨x3_1, x4_1, rfl, rfl, HA, HK1, ⟨m1, rfl⟩⟩ := hrel
  cases gk with
  | zero => exact absurd HA.out (by simp [falseworkref2_Number.l0])
  | succ k1 =>
   have H := HA.out
   clear HA
   simp only [falseworkref2_Number.l0] at H
   by_cases c2 : x4_1 < 8
   ·rw [if_pos c2] at H
    have c2b0 : decide (x4_1 < 8) = true := decide_eq_true c2
    clear c2
    by_cases c3 : 0 ≤ x4_1
    ·rw [if_pos c3] at H
     have c3b0 : decide (0 ≤ x4_1) = true := decide_eq_true c3
     clear c3
     by_cases c4 : x4_1 < (a0.size : Int)
     ·rw [if_pos c4] at H
      have c4b0 : decide (x4_1 < (a0.size : Int)) = true := decide_eq_true c4
      clear c4
      have H' := Aside0.mk H
      clear H
      have p5 : 0 ≤ (x4_1 : Int) := of_decide_eq_true (by first | (with_reducible assumption) | assumption)
      have q5 : x4_1 < (a0.size : Int) := of_decide_eq_true (by first | (with_reducible assumption) | assumption)
      have hx5 := bt_at a0 x4_1
      replace p5 := eq_true p5
      replace q5 := eq_true q5
      go_wp2
      go_roundg k1
      case measure => have := HK1.out; omega
      case rel => exact ⟨(Go.bits .or .u64 (IntKind.u64.wrap (x3_1 * 256)) (IntKind.u64.wrap (bt a0 x4_1))), (wrap64 (x4_1 + 1)), (by first | rfl | (simp; done) | (simp [*]; done)), (by first | rfl | (simp; done) | (simp [*]; done)), H', ⟨by have := HK1.out; omega⟩, by repeat (first | exact Drawn0.refl _ | apply Drawn0.step)⟩
     ·rw [if_neg c4] at H
      exact absurd H (by simp)
    ·rw [if_neg c3] at H
     exact absurd H (by simp)
   ·rw [if_neg c2] at H
    have c2b0 : decide (x4_1 < 8) = false := decide_eq_false c2
    clear c2
    obtain rfl := Option.some.inj H
    go_wp2
    go_ret
    exact ⟨by first | rfl | (simp; done) | (simp [*]; done), by repeat (first | exact Drawn0.refl _ | apply Drawn0.step)⟩
end Go.Proofs.YtjehfmimbbdnkaaDoor.L
namespace Go.Proofs.YtjehfmimbbdnkaaDoor.L
open Go.RowKit Go.Proofs.YtjehfmimbbdnkaaDoorW.PrintWords Go.Proofs.YtjehfmimbbdnkaaDoorW.PrintLast Go.Proofs.YtjehfmimbbdnkaaDoorW.PrintMore
attribute [local go_sem] max2_int min2_int max_two min_two max_three min_three max_four min_four
set_option linter.unusedVariables false
set_option linter.unusedSimpArgs false
mutual
def falseworkref16_hex.l0 : Nat → ByteArray → Int → List Int → Int → Option (Int × ByteArray × Int × Int × Int × ByteArray × Int × Int × Bool)
 | 0, _, _, _, _ => none
 | k + 1, x0, x1, x7, x8 => if (wrap64 (x8 + 1)) < (x0.size : Int) then (if 0 ≤ x8 then (if x8 < (x0.size : Int) then ((falseworkref16_half.f (bt x0 x8)).bind fun t184 => (if t184 ≥ 0 then (if 0 ≤ (wrap64 (x8 + 1)) then ((falseworkref16_half.f (bt x0 (wrap64 (x8 + 1)))).bind fun t185 => (falseworkref16_hex.j1 k x0 x1 x7 x8 (decide (t185 ≥ 0)))) else (none)) else (falseworkref16_hex.j1 k x0 x1 x7 x8 false))) else (none)) else (none)) else (falseworkref16_hex.j1 k x0 x1 x7 x8 false)
def falseworkref16_hex.j1 : Nat → ByteArray → Int → List Int → Int → Bool → Option (Int × ByteArray × Int × Int × Int × ByteArray × Int × Int × Bool)
 | 0, _, _, _, _, _ => none
 | k + 1, x0, x1, x7, x8, x31 => if x31 = true then (if 0 ≤ x8 then (if x8 < (x0.size : Int) then ((falseworkref16_half.f (bt x0 x8)).bind fun t186 => (if 0 ≤ (wrap64 (x8 + 1)) then (if (wrap64 (x8 + 1)) < (x0.size : Int) then ((falseworkref16_half.f (bt x0 (wrap64 (x8 + 1)))).bind fun t187 => (if x7.length < 140737488355328 then (falseworkref16_hex.l0 k x0 x1 (x7 ++ [(wrap64 ((wrap64 (16 * t186)) + t187)) % 256]) (wrap64 (x8 + 2))) else (none))) else (none)) else (none))) else (none)) else (none)) else (if x8 ≥ (x0.size : Int) then (falseworkref16_hex.j2 k x0 x1 x7 x8 true) else (if 0 ≤ x8 then (if x8 < (x0.size : Int) then (falseworkref16_hex.j2 k x0 x1 x7 x8 ((bt x0 x8) != 39)) else (none)) else (none)))
def falseworkref16_hex.j2 : Nat → ByteArray → Int → List Int → Int → Bool → Option (Int × ByteArray × Int × Int × Int × ByteArray × Int × Int × Bool)
 | 0, _, _, _, _, _ => none
 | k + 1, x0, x1, x7, x8, x58 => if x58 = true then (some (0, (⟨#[]⟩ : ByteArray), 0, 0, 0, (⟨#[]⟩ : ByteArray), 0, 0, false)) else (if 0 ≤ x1 then (if x1 ≤ (wrap64 (x8 + 1)) then (if (wrap64 (x8 + 1)) ≤ (x0.size : Int) then (if x1 < (x0.size : Int) then (if (bt x0 x1) = 120 then (some (3, x0.extract (x1 : Int).toNat ((wrap64 (x8 + 1)) : Int).toNat, 4, 0, 0, strOfNums x7, x1, wrap64 (x8 + 1), decide ((x7.length : Int) ≤ 40))) else (if (x7.length : Int) = 8 then ((falseworkref2_Number.f k (strOfNums x7)).bind fun t192 => ((falseworkref1_Canon.f t192).bind fun t193 => (some (3, x0.extract (x1 : Int).toNat ((wrap64 (x8 + 1)) : Int).toNat, 3, 0, t193, (⟨#[]⟩ : ByteArray), x1, wrap64 (x8 + 1), true)))) else (some (0, (⟨#[]⟩ : ByteArray), 0, 0, 0, (⟨#[]⟩ : ByteArray), 0, 0, false)))) else (none)) else (none)) else (none)) else (none))
end
def falseworkref16_hex.f (k : Nat) (a0 : ByteArray) (a1 : Int) : Option (Int × ByteArray × Int × Int × Int × ByteArray × Int × Int × Bool) := falseworkref16_hex.l0 k a0 a1 ([] : List Int) (wrap64 (a1 + 2))
theorem falseworkref16_hex.mono_l : ∀ k, (∀ y0 y1 y2 y3, LeO (falseworkref16_hex.l0 k y0 y1 y2 y3) (falseworkref16_hex.l0 (k + 1) y0 y1 y2 y3)) ∧ (∀ y0 y1 y2 y3 y4, LeO (falseworkref16_hex.j1 k y0 y1 y2 y3 y4) (falseworkref16_hex.j1 (k + 1) y0 y1 y2 y3 y4)) ∧ (∀ y0 y1 y2 y3 y4, LeO (falseworkref16_hex.j2 k y0 y1 y2 y3 y4) (falseworkref16_hex.j2 (k + 1) y0 y1 y2 y3 y4))
 | 0 => ⟨fun _ _ _ _ r h => by simp [falseworkref16_hex.l0] at h, fun _ _ _ _ _ r h => by simp [falseworkref16_hex.j1] at h, fun _ _ _ _ _ r h => by simp [falseworkref16_hex.j2] at h⟩
 | k + 1 => by
  obtain ⟨ih0, ih1, ih2⟩ := falseworkref16_hex.mono_l k
  refine ⟨?_, ?_, ?_⟩
  ·intro y0 y1 y2 y3
   unfold falseworkref16_hex.l0
   repeat' first
   | (with_reducible exact ih0 _ _ _ _)
   | (with_reducible exact ih1 _ _ _ _ _)
   | (with_reducible exact ih2 _ _ _ _ _)
   | (with_reducible exact falseworkref2_Number.mono _ _)
   | (with_reducible exact LeO.refl _)
   | (with_reducible exact LeO.none _)
   | (with_reducible refine LeO.ite ?_ ?_)
   | (with_reducible refine LeO.bind ?_ (fun _ => ?_))
   | exact ih0 _ _ _ _
   | exact ih1 _ _ _ _ _
   | exact ih2 _ _ _ _ _
   | exact falseworkref2_Number.mono _ _
   | exact LeO.none _
   | refine LeO.ite ?_ ?_
   | refine LeO.bind ?_ (fun _ => ?_)
  ·intro y0 y1 y2 y3 y4
   unfold falseworkref16_hex.j1
   repeat' first
   | (with_reducible exact ih0 _ _ _ _)
   | (with_reducible exact ih1 _ _ _ _ _)
   | (with_reducible exact ih2 _ _ _ _ _)
   | (with_reducible exact falseworkref2_Number.mono _ _)
   | (with_reducible exact LeO.refl _)
   | (with_reducible exact LeO.none _)
   | (with_reducible refine LeO.ite ?_ ?_)
   | (with_reducible refine LeO.bind ?_ (fun _ => ?_))
   | exact ih0 _ _ _ _
   | exact ih1 _ _ _ _ _
   | exact ih2 _ _ _ _ _
   | exact falseworkref2_Number.mono _ _
   | exact LeO.none _
   | refine LeO.ite ?_ ?_
   | refine LeO.bind ?_ (fun _ => ?_)
  ·intro y0 y1 y2 y3 y4
   unfold falseworkref16_hex.j2
   repeat' first
   | (with_reducible exact ih0 _ _ _ _)
   | (with_reducible exact ih1 _ _ _ _ _)
   | (with_reducible exact ih2 _ _ _ _ _)
   | (with_reducible exact falseworkref2_Number.mono _ _)
   | (with_reducible exact LeO.refl _)
   | (with_reducible exact LeO.none _)
   | (with_reducible refine LeO.ite ?_ ?_)
   | (with_reducible refine LeO.bind ?_ (fun _ => ?_))
   | exact ih0 _ _ _ _
   | exact ih1 _ _ _ _ _
   | exact ih2 _ _ _ _ _
   | exact falseworkref2_Number.mono _ _
   | exact LeO.none _
   | refine LeO.ite ?_ ?_
   | refine LeO.bind ?_ (fun _ => ?_)
theorem falseworkref16_hex.mono : ∀ a0 a1 k, LeO (falseworkref16_hex.f k a0 a1) (falseworkref16_hex.f (k + 1) a0 a1) := by
 intro a0 a1 k
 obtain ⟨ih0, ih1, ih2⟩ := falseworkref16_hex.mono_l k
 unfold falseworkref16_hex.f
 repeat' first
   | (with_reducible exact ih0 _ _ _ _)
   | (with_reducible exact ih1 _ _ _ _ _)
   | (with_reducible exact ih2 _ _ _ _ _)
   | (with_reducible exact falseworkref2_Number.mono _ _)
   | (with_reducible exact LeO.refl _)
   | (with_reducible exact LeO.none _)
   | (with_reducible refine LeO.ite ?_ ?_)
   | (with_reducible refine LeO.bind ?_ (fun _ => ?_))
   | exact ih0 _ _ _ _
   | exact ih1 _ _ _ _ _
   | exact ih2 _ _ _ _ _
   | exact falseworkref2_Number.mono _ _
   | exact LeO.none _
   | refine LeO.ite ?_ ?_
   | refine LeO.bind ?_ (fun _ => ?_)
def falseworkref16_hex.T4 : Bool × List (List Nat × List Nat) := (true, [([], []), ([], []), ([], []), ([1, 2], [1, 2]), ([3], [3]), ([4], [4]), ([], []), ([], []), ([7], [7]), ([6, 8], [6, 8]), ([9, 4], [9]), ([5, 10], [5, 10]), ([11], [11]), ([12], [12]), ([0, 13, 10], [0, 13]), ([14, 14, 0, 1, 2, 3, 4, 5, 6, 7, 8, 9, 10, 11, 12, 13, 14], [0, 14])])
def falseworkref16_hex.B4 : List Nat := [0, 0, 0, 6, 14, 30, 0, 0, 128, 448, 990, 2046, 4094, 8190, 16383, 32767]
theorem falseworkref16_hex.tab4 : rtab .any (opsOf Tryd.f33 4) = falseworkref16_hex.T4 := by kernel_rfl
theorem falseworkref16_hex.bits4 : waitsOk falseworkref16_hex.T4.2 falseworkref16_hex.B4 = true := by kernel_rfl
theorem falseworkref16_hex.conv_far {W : World} {base : Nat} {ok : Nat → Prop} {A : Option Addr} {c : Nat} {xs : List Int} (h : (Kd.int .u8).R 5 W base ok (.slice A xs.length c) xs) : (convert 34 9 (.slice A xs.length c)).run Tryd.prog W = .ok (.string (strOfNums xs)) W := own_string (P := Tryd.prog) Tryd.underlying34 Tryd.underlying5 Tryd.underlying9 (Kd.own_of_R h)
set_option maxHeartbeats 8000000 in
set_option maxRecDepth 100000 in
theorem falseworkref16_hex.calls (k : Nat) (a0 : ByteArray) (a1 : Int) (r1 : Int) (r2 : ByteArray) (r3 : Int) (r4 : Int) (r5 : Int) (r6 : ByteArray) (r7 : Int) (r8 : Int) (r9 : Bool) (w : World) (h : falseworkref16_hex.f k a0 a1 = some (r1, r2, r3, r4, r5, r6, r7, r8, r9)) :
  Calls Tryd.prog 33 #[.string a0, .int .i64 a1] w fun e w' => e = .returned (.tuple #[.agg #[.int .i64 r1, .string r2, .int .i64 r3, .int .i64 r4, .int .u64 r5, .string r6, .int .i64 r7], .int .i64 r8, .bool r9]) ∧ Below w.heap.size w w' := by
 have hu47 := Tryd.underlying47
 have hu37 := Tryd.underlying37
 have HB := Aside0.mk (Below.refl w.heap.size w)
 have H : (falseworkref16_hex.l0 k a0 a1 ([] : List Int) (wrap64 (a1 + 2))) = some (r1, r2, r3, r4, r5, r6, r7, r8, r9) := h
 clear h
 have H' := Aside0.mk H
 clear H
 go_enter Tryd.func33, Tryd.ntmps33
 go_wp2_with (first | ((with_reducible refine gate_dst (N := 4) rfl ?_); refine box_event ?hg (N := 4) ?hd (cs := #[.int .i64 0, .string (⟨#[]⟩ : ByteArray), .int .i64 0, .int .i64 0, .int .u64 0, .string (⟨#[]⟩ : ByteArray), .int .i64 0]) (t := 47) ?hr ?_; (case hd => rfl); (case hg => rfl); (case hr => first | (go_simp; done) | (go_simp; rfl)); intro gb183 hg w3 hbox hb; have n0_ := Aside0.mk (below_step (by repeat (first | (with_reducible first | exact HB.out | apply below_alloc | apply pw_below_drewN | apply below_drew1) | exact HB.out)) hb); have n1_ := Aside0.mk (hbox); have n2_ := Aside0.mk ((by rw [hg]; exact (below_size (by repeat (first | (with_reducible first | exact HB.out | apply below_alloc | apply pw_below_drewN | apply below_drew1) | exact HB.out))) : w.heap.size ≤ gb183)); have n3_ := Aside0.mk ((by rw [hg]; exact (below_size (by repeat (first | (with_reducible first | exact HB.out | apply below_alloc | apply pw_below_drewN | apply below_drew1) | exact HB.out))) : w.heap.size ≤ gb183)); clear HB; have HB := n0_; have BK183 := n1_; have GW183 := n2_; have GE183 := n3_; clear n0_ n1_ n2_ n3_; clear hb hbox hg))
 go_loopg [7, 8] k (fun kq v7 v8 w' => ∃ (x7_1 : List Int) (x8_1 : Int), v8 = .int .i64 x8_1 ∧ Aside0 (falseworkref16_hex.l0 kq a0 a1 x7_1 x8_1 = some (r1, r2, r3, r4, r5, r6, r7, r8, r9)) ∧ Aside0 (kq ≤ k) ∧ Aside0 (Kd.R (Kd.int .u8) 5 w' w.heap.size (fun _ => True) v7 x7_1) ∧ Aside0 (w'.heap[gb183]? = some (.cells #[.int .i64 0, .string (⟨#[]⟩ : ByteArray), .int .i64 0, .int .i64 0, .int .u64 0, .string (⟨#[]⟩ : ByteArray), .int .i64 0] 47 (0, 0))) ∧ Aside0 (Below w.heap.size w w'))
 case atStart => exact ⟨(([] : List Int)), (wrap64 (a1 + 2)), (by first | rfl | (simp; done) | (simp [*]; done)), H', ⟨Nat.le_refl _⟩, ⟨by first | exact Kd.R_nil _ _ _ _ _ | exact Kd.N_nil _ _ _ _ _ | exact Kd.V_nil _ _ _ _ _ | exact Kd.Q_nil _ _ _ _ _ | exact Kd.S_nil _ _ _ _ _⟩, ⟨by (with_reducible repeat (first | refine blk_drewN ?_ _ | refine blk_drew ?_ | refine blk_alloc ?_ _)); exact BK183.out⟩, ⟨by repeat (first | (with_reducible first | exact HB.out | apply below_alloc | apply pw_below_drewN | apply below_drew1 | refine below_set ?_ GE183.out) | exact HB.out)⟩⟩
 case round =>
  clear H'
  try clear p2
  try clear c3
  obtain ⟨x7_1, x8_1, rfl, HA, HK1, HO_7, BK183, HB⟩ := hrel
  cases gk with
  | zero => exact absurd HA.out (by simp [falseworkref16_hex.l0])
  | succ k1 =>
   have H := HA.out
   clear HA
   simp only [falseworkref16_hex.l0] at H
   have HC4 := Aside0.mk H
   clear H
   go_upto_region 3 with (fail)
   go_cut [31] (fun v31 wc => ∃ (kq : Nat) (x31_3 : Bool), v31 = .bool x31_3 ∧ Aside0 (falseworkref16_hex.j1 kq a0 a1 x7_1 x8_1 x31_3 = some (r1, r2, r3, r4, r5, r6, r7, r8, r9)) ∧ Aside0 (kq ≤ k1) ∧ Aside0 (Kd.R (Kd.int .u8) 5 wc w.heap.size (fun _ => True) u7 x7_1) ∧ Aside0 (wc.heap[gb183]? = some (.cells #[.int .i64 0, .string (⟨#[]⟩ : ByteArray), .int .i64 0, .int .i64 0, .int .u64 0, .string (⟨#[]⟩ : ByteArray), .int .i64 0] 47 (0, 0))) ∧ Aside0 (Below w.heap.size w wc))
   case first =>
    have H := HC4.out
    clear HC4
    by_cases c5 : (wrap64 (x8_1 + 1)) < (a0.size : Int)
    ·rw [if_pos c5] at H
     have c5b0 : decide ((wrap64 (x8_1 + 1)) < (a0.size : Int)) = true := decide_eq_true c5
     clear c5
     (first | rw [c5b0] | (simp only [i64_w, i32_w]; rw [c5b0]) | skip)
     by_cases c6 : 0 ≤ x8_1
     ·rw [if_pos c6] at H
      have c6b0 : decide (0 ≤ x8_1) = true := decide_eq_true c6
      clear c6
      by_cases c7 : x8_1 < (a0.size : Int)
      ·rw [if_pos c7] at H
       have c7b0 : decide (x8_1 < (a0.size : Int)) = true := decide_eq_true c7
       clear c7
       replace H := Option.bind_eq_some_iff.mp H
       obtain ⟨t184, A90, H⟩ := H
       replace H : (if t184 ≥ 0 then (if 0 ≤ (wrap64 (x8_1 + 1)) then ((falseworkref16_half.f (bt a0 (wrap64 (x8_1 + 1)))).bind fun t185 => (falseworkref16_hex.j1 k1 a0 a1 x7_1 x8_1 (decide (t185 ≥ 0)))) else (none)) else (falseworkref16_hex.j1 k1 a0 a1 x7_1 x8_1 false)) = some (r1, r2, r3, r4, r5, r6, r7, r8, r9) := H
       have A9 := Aside0.mk A90
       clear A90
       by_cases c10 : t184 ≥ 0
       ·rw [if_pos c10] at H
        have c10b0 : decide (0 ≤ t184) = true := decide_eq_true c10
        clear c10
        obtain ⟨ji11, hji11⟩ : ∃ j_ : Int, (wrap64 (x8_1 + 1)) = j_ := ⟨_, rfl⟩
        replace H : (if 0 ≤ (ji11) then ((falseworkref16_half.f (bt a0 (ji11))).bind fun t185 => (falseworkref16_hex.j1 k1 a0 a1 x7_1 x8_1 (decide (t185 ≥ 0)))) else (none)) = some (r1, r2, r3, r4, r5, r6, r7, r8, r9) := by first | (rw [hji11] at H; exact H) | (simp only [hji11] at H ⊢; exact H)
        (try rw [hji11] at c5b0)
        (try rw [hji11] at A9)
        have hji11w : (IntKind.i64.wrap (x8_1 + 1)) = ji11 := (i64_w _).trans hji11
        by_cases c12 : 0 ≤ (ji11)
        ·rw [if_pos c12] at H
         have c12b0 : decide (0 ≤ (ji11)) = true := decide_eq_true c12
         clear c12
         replace H := Option.bind_eq_some_iff.mp H
         obtain ⟨t185, A140, H⟩ := H
         replace H : (falseworkref16_hex.j1 k1 a0 a1 x7_1 x8_1 (decide (t185 ≥ 0))) = some (r1, r2, r3, r4, r5, r6, r7, r8, r9) := H
         have A14 := Aside0.mk A140
         clear A140
         have H' := Aside0.mk H
         clear H
         have p8 : 0 ≤ (x8_1 : Int) := of_decide_eq_true (by first | (with_reducible assumption) | assumption)
         have q8 : x8_1 < (a0.size : Int) := of_decide_eq_true (by first | (with_reducible assumption) | assumption)
         have hx8 := bt_at a0 x8_1
         replace p8 := eq_true p8
         replace q8 := eq_true q8
         go_wp2_with (first | (go_at_call 49; (with_reducible refine (falseworkref16_half.calls (bt a0 x8_1) t184 _ A9.out).mono ?_); rintro e w' ⟨rfl, ⟨nd, rfl⟩⟩; have p13 : 0 ≤ ((ji11) : Int) := of_decide_eq_true (by first | (with_reducible assumption) | assumption); have q13 : (ji11) < (a0.size : Int) := of_decide_eq_true (by first | (with_reducible assumption) | assumption); have hx13 := bt_at a0 (ji11); replace p13 := eq_true p13; replace q13 := eq_true q13) | (go_at_call 49; (with_reducible refine (falseworkref16_half.calls (bt a0 (ji11)) t185 _ A14.out).mono ?_); rintro e w' ⟨rfl, ⟨nd, rfl⟩⟩))
         go_meet
         case rel => exact ⟨_, (decide (t185 ≥ 0)), (by first | rfl | (simp; done) | (simp [*]; done)), H', ⟨by have := HK1.out; first | omega | exact Nat.le_refl _⟩, ⟨by (with_reducible repeat (first | apply Kd.R_alloc | apply Kd.R_drewN | apply Kd.R_drew)); exact HO_7.out⟩, ⟨by (with_reducible repeat (first | refine blk_drewN ?_ _ | refine blk_drew ?_ | refine blk_alloc ?_ _)); exact BK183.out⟩, ⟨by repeat (first | (with_reducible first | exact HB.out | apply below_alloc | apply pw_below_drewN | apply below_drew1 | refine below_set ?_ GE183.out) | exact HB.out)⟩⟩
        ·rw [if_neg c12] at H
         exact absurd H (by simp)
       ·rw [if_neg c10] at H
        have c10b0 : decide (0 ≤ t184) = false := decide_eq_false c10
        clear c10
        have H' := Aside0.mk H
        clear H
        have p8 : 0 ≤ (x8_1 : Int) := of_decide_eq_true (by first | (with_reducible assumption) | assumption)
        have q8 : x8_1 < (a0.size : Int) := of_decide_eq_true (by first | (with_reducible assumption) | assumption)
        have hx8 := bt_at a0 x8_1
        replace p8 := eq_true p8
        replace q8 := eq_true q8
        go_wp2_with (first | (go_at_call 49; (with_reducible refine (falseworkref16_half.calls (bt a0 x8_1) t184 _ A9.out).mono ?_); rintro e w' ⟨rfl, ⟨nd, rfl⟩⟩))
        go_meet
        case rel => exact ⟨_, (false), (by first | rfl | (simp; done) | (simp [*]; done)), H', ⟨by have := HK1.out; first | omega | exact Nat.le_refl _⟩, ⟨by (with_reducible repeat (first | apply Kd.R_alloc | apply Kd.R_drewN | apply Kd.R_drew)); exact HO_7.out⟩, ⟨by (with_reducible repeat (first | refine blk_drewN ?_ _ | refine blk_drew ?_ | refine blk_alloc ?_ _)); exact BK183.out⟩, ⟨by repeat (first | (with_reducible first | exact HB.out | apply below_alloc | apply pw_below_drewN | apply below_drew1 | refine below_set ?_ GE183.out) | exact HB.out)⟩⟩
      ·rw [if_neg c7] at H
       exact absurd H (by simp)
     ·rw [if_neg c6] at H
      exact absurd H (by simp)
    ·rw [if_neg c5] at H
     have c5b0 : decide ((wrap64 (x8_1 + 1)) < (a0.size : Int)) = false := decide_eq_false c5
     clear c5
     (first | rw [c5b0] | (simp only [i64_w, i32_w]; rw [c5b0]) | skip)
     have H' := Aside0.mk H
     clear H
     go_wp2
     go_meet
     case rel => exact ⟨_, (false), (by first | rfl | (simp; done) | (simp [*]; done)), H', ⟨by have := HK1.out; first | omega | exact Nat.le_refl _⟩, ⟨by (with_reducible repeat (first | apply Kd.R_alloc | apply Kd.R_drewN | apply Kd.R_drew)); exact HO_7.out⟩, ⟨by (with_reducible repeat (first | refine blk_drewN ?_ _ | refine blk_drew ?_ | refine blk_alloc ?_ _)); exact BK183.out⟩, ⟨by repeat (first | (with_reducible first | exact HB.out | apply below_alloc | apply pw_below_drewN | apply below_drew1 | refine below_set ?_ GE183.out) | exact HB.out)⟩⟩
   case rest =>
    clear HC4
    try clear c1
    try clear p1
    try clear q1
    try clear hx1
    try clear p2
    try clear c3
    try clear c5
    try clear c5b0
    try clear c6
    try clear c6b0
    try clear p6
    try clear c7
    try clear c7b0
    try clear p8
    try clear q8
    try clear hx8
    try clear c10
    try clear c10b0
    try clear c12
    try clear c12b0
    try clear p13
    try clear q13
    try clear hx13
    try clear p13
    try clear p2
    try clear p8
    try clear q13
    try clear q8
    obtain ⟨kq, x31_3, rfl, HA, HJ3, HO_7, BK183, HB⟩ := hcut
    cases kq with
    | zero => exact absurd HA.out (by simp [falseworkref16_hex.j1])
    | succ kj3 =>
     have H := HA.out
     clear HA
     simp only [falseworkref16_hex.j1] at H
     by_cases c15 : x31_3 = true
     ·subst c15
      have H1 : (if 0 ≤ x8_1 then (if x8_1 < (a0.size : Int) then ((falseworkref16_half.f (bt a0 x8_1)).bind fun t186 => (if 0 ≤ (wrap64 (x8_1 + 1)) then (if (wrap64 (x8_1 + 1)) < (a0.size : Int) then ((falseworkref16_half.f (bt a0 (wrap64 (x8_1 + 1)))).bind fun t187 => (if x7_1.length < 140737488355328 then (falseworkref16_hex.l0 kj3 a0 a1 (x7_1 ++ [(wrap64 ((wrap64 (16 * t186)) + t187)) % 256]) (wrap64 (x8_1 + 2))) else (none))) else (none)) else (none))) else (none)) else (none)) = some (r1, r2, r3, r4, r5, r6, r7, r8, r9) := by rw [if_pos rfl] at H; exact H
      clear H
      have H := H1
      clear H1
      by_cases c16 : 0 ≤ x8_1
      ·rw [if_pos c16] at H
       have c16b0 : decide (0 ≤ x8_1) = true := decide_eq_true c16
       clear c16
       by_cases c17 : x8_1 < (a0.size : Int)
       ·rw [if_pos c17] at H
        have c17b0 : decide (x8_1 < (a0.size : Int)) = true := decide_eq_true c17
        clear c17
        replace H := Option.bind_eq_some_iff.mp H
        obtain ⟨t186, A190, H⟩ := H
        replace H : (if 0 ≤ (wrap64 (x8_1 + 1)) then (if (wrap64 (x8_1 + 1)) < (a0.size : Int) then ((falseworkref16_half.f (bt a0 (wrap64 (x8_1 + 1)))).bind fun t187 => (if x7_1.length < 140737488355328 then (falseworkref16_hex.l0 kj3 a0 a1 (x7_1 ++ [(wrap64 ((wrap64 (16 * t186)) + t187)) % 256]) (wrap64 (x8_1 + 2))) else (none))) else (none)) else (none)) = some (r1, r2, r3, r4, r5, r6, r7, r8, r9) := H
        have A19 := Aside0.mk A190
        clear A190
        obtain ⟨ji20, hji20⟩ : ∃ j_ : Int, (wrap64 (x8_1 + 1)) = j_ := ⟨_, rfl⟩
        replace H : (if 0 ≤ (ji20) then (if (ji20) < (a0.size : Int) then ((falseworkref16_half.f (bt a0 (ji20))).bind fun t187 => (if x7_1.length < 140737488355328 then (falseworkref16_hex.l0 kj3 a0 a1 (x7_1 ++ [(wrap64 ((wrap64 (16 * t186)) + t187)) % 256]) (wrap64 (x8_1 + 2))) else (none))) else (none)) else (none)) = some (r1, r2, r3, r4, r5, r6, r7, r8, r9) := by first | (rw [hji20] at H; exact H) | (simp only [hji20] at H ⊢; exact H)
        (try rw [hji20] at A19)
        have hji20w : (IntKind.i64.wrap (x8_1 + 1)) = ji20 := (i64_w _).trans hji20
        by_cases c21 : 0 ≤ (ji20)
        ·rw [if_pos c21] at H
         have c21b0 : decide (0 ≤ (ji20)) = true := decide_eq_true c21
         clear c21
         by_cases c22 : (ji20) < (a0.size : Int)
         ·rw [if_pos c22] at H
          have c22b0 : decide ((ji20) < (a0.size : Int)) = true := decide_eq_true c22
          clear c22
          replace H := Option.bind_eq_some_iff.mp H
          obtain ⟨t187, A240, H⟩ := H
          replace H : (if x7_1.length < 140737488355328 then (falseworkref16_hex.l0 kj3 a0 a1 (x7_1 ++ [(wrap64 ((wrap64 (16 * t186)) + t187)) % 256]) (wrap64 (x8_1 + 2))) else (none)) = some (r1, r2, r3, r4, r5, r6, r7, r8, r9) := H
          have A24 := Aside0.mk A240
          clear A240
          by_cases c25 : x7_1.length < 140737488355328
          ·rw [if_pos c25] at H
           have LMc25 := Aside0.mk c25
           clear c25
           obtain ⟨y188, hy188⟩ : ∃ y_ : List Int, y_ = (x7_1 ++ [(wrap64 ((wrap64 (16 * t186)) + t187)) % 256]) := ⟨_, rfl⟩
           replace H : (falseworkref16_hex.l0 kj3 a0 a1 y188 (wrap64 (x8_1 + 2))) = some (r1, r2, r3, r4, r5, r6, r7, r8, r9) := by first | (rw [hy188]; with_reducible exact H) | (have H2_ := (Option.bind_some _ _).symm.trans H; rw [hy188]; with_reducible exact H2_) | (have H2_ := (Option.bind_some _ _).symm.trans H; with_reducible exact H2_) | with_reducible exact H | (rw [hy188]; exact H) | exact H
           have Ny188 := Aside0.mk hy188
           clear hy188
           have H' := Aside0.mk H
           clear H
           try go_wp2
           have n0_ := Aside0.mk (Kd.R_drew HO_7.out)
           have n1_ := Aside0.mk (blk_drew BK183.out)
           have n2_ := Aside0.mk (below_drew1 HB.out)
           clear HO_7
           clear BK183
           clear HB
           have HO_7 := n0_
           have BK183 := n1_
           have HB := n2_
           clear n0_ n1_ n2_
           have p18 : 0 ≤ (x8_1 : Int) := of_decide_eq_true (by first | (with_reducible assumption) | assumption)
           have q18 : x8_1 < (a0.size : Int) := of_decide_eq_true (by first | (with_reducible assumption) | assumption)
           have hx18 := bt_at a0 x8_1
           replace p18 := eq_true p18
           replace q18 := eq_true q18
           have p23 : 0 ≤ ((ji20) : Int) := of_decide_eq_true (by first | (with_reducible assumption) | assumption)
           have q23 : (ji20) < (a0.size : Int) := of_decide_eq_true (by first | (with_reducible assumption) | assumption)
           have hx23 := bt_at a0 (ji20)
           replace p23 := eq_true p23
           replace q23 := eq_true q23
           refine start_ (n := 16) (S := fun w' => True) (ds := []) #[false, false, false, false, false, false, false, false, false, false, false, false, false, false, false, false] (by kernel_rfl) rfl rfl trivial (fun hHeld => ?_); refine with_tabW falseworkref16_hex.tab4 falseworkref16_hex.bits4 (fun HT_ HW_ => ?_)
           generalize wc.drew = w26 at HO_7 BK183 HB hHeld ⊢
           refine pure_ (i := 0) (N := some 32) (v := ?_) (a' := ?_) #[true, false, false, false, false, false, false, false, false, false, false, false, false, false, false, false] rfl rfl (any_of HT_.out (by kernel_rfl)) (fun _ _ _ h => h) (Or.inl ⟨by rfl, ?_⟩) ?_ ?_
           rotate_left
           ·intro w'
            go_simp
            with_reducible rfl
           rotate_left
           ·simp only [Act.put, List.setIfInBounds_toArray, List.set_cons_zero, List.set_cons_succ, i64_w, i32_w]
            rfl
           refine pure_ (i := 1) (N := some 33) (v := ?_) (a' := ?_) #[true, true, false, false, false, false, false, false, false, false, false, false, false, false, false, false] rfl rfl (any_of HT_.out (by kernel_rfl)) (fun _ _ _ h => h) (Or.inl ⟨by rfl, ?_⟩) ?_ ?_
           rotate_left
           ·intro w'
            go_simp
            with_reducible rfl
           rotate_left
           ·simp only [Act.put, List.setIfInBounds_toArray, List.set_cons_zero, List.set_cons_succ, i64_w, i32_w]
            rfl
           refine pure_ (i := 2) (N := some 34) (v := ?_) (a' := ?_) #[true, true, true, false, false, false, false, false, false, false, false, false, false, false, false, false] rfl rfl (any_of HT_.out (by kernel_rfl)) (fun _ _ _ h => h) (Or.inl ⟨by rfl, ?_⟩) ?_ ?_
           rotate_left
           ·intro w'
            go_simp
            with_reducible rfl
           rotate_left
           ·simp only [Act.put, List.setIfInBounds_toArray, List.set_cons_zero, List.set_cons_succ, i64_w, i32_w]
            rfl
           refine pure_ (i := 6) (N := some 38) (v := ?_) (a' := ?_) #[true, true, true, false, false, false, true, false, false, false, false, false, false, false, false, false] rfl rfl (any_of HT_.out (by kernel_rfl)) (fun _ _ _ h => h) (Or.inl ⟨by rfl, ?_⟩) ?_ ?_
           rotate_left
           ·intro w'
            go_simp
            with_reducible rfl
           rotate_left
           ·simp only [Act.put, List.setIfInBounds_toArray, List.set_cons_zero, List.set_cons_succ, i64_w, i32_w]
            rfl
           refine pure_ (i := 7) (N := some 39) (v := ?_) (a' := ?_) #[true, true, true, false, false, false, true, true, false, false, false, false, false, false, false, false] rfl rfl (any_of HT_.out (by kernel_rfl)) (fun _ _ _ h => h) (Or.inl ⟨by rfl, ?_⟩) ?_ ?_
           rotate_left
           ·intro w'
            go_simp
            with_reducible rfl
           rotate_left
           ·simp only [Act.put, List.setIfInBounds_toArray, List.set_cons_zero, List.set_cons_succ, i64_w, i32_w]
            rfl
           refine pure_ (i := 8) (N := some 40) (v := ?_) (a' := ?_) #[true, true, true, false, false, false, true, true, true, false, false, false, false, false, false, false] rfl rfl (any_of HT_.out (by kernel_rfl)) (fun _ _ _ h => h) (Or.inl ⟨by rfl, ?_⟩) ?_ ?_
           rotate_left
           ·intro w'
            go_simp
            with_reducible rfl
           rotate_left
           ·simp only [Act.put, List.setIfInBounds_toArray, List.set_cons_zero, List.set_cons_succ, i64_w, i32_w]
            rfl
           refine take_ (i := 3) (N := some 35) (v := ?_) (a' := ?_) #[true, true, true, true, false, false, true, true, true, false, false, false, false, false, false, false] rfl rfl (take_ofW HT_.out HW_.out (by kernel_rfl)) (fun _ _ _ h => h) (Or.inl ⟨by rfl, ?_⟩) hHeld ?_ ?_
           rotate_left
           ·intro w' _
            go_simp
            with_reducible rfl
           rotate_left
           ·simp only [Act.put, List.setIfInBounds_toArray, List.set_cons_zero, List.set_cons_succ, i64_w, i32_w]
            rfl
           refine take_ (i := 9) (N := some 41) (v := ?_) (a' := ?_) #[true, true, true, true, false, false, true, true, true, true, false, false, false, false, false, false] rfl rfl (take_ofW HT_.out HW_.out (by kernel_rfl)) (fun _ _ _ h => h) (Or.inl ⟨by rfl, ?_⟩) hHeld ?_ ?_
           rotate_left
           ·intro w' _
            go_simp
            with_reducible rfl
           rotate_left
           ·simp only [Act.put, List.setIfInBounds_toArray, List.set_cons_zero, List.set_cons_succ, i64_w, i32_w]
            rfl
           refine one_ (i := 4) (N := some 36) #[true, true, true, true, true, false, true, true, true, true, false, false, false, false, false, false] rfl rfl (one_of HT_.out (by kernel_rfl)) (by decide) (fun K hK => ?_)
           refine goes_ Tryd.func49 (by kernel_rfl) rfl #[.int .u8 (bt a0 x8_1)] (by rfl) rfl rfl (by (try simp only [List.map_toArray, List.map_cons, List.map_nil]); first | done | rfl | (simp only [List.length_drop, List.length_take]; rfl)) ?_
           with_reducible refine (falseworkref16_half.calls (bt a0 x8_1) t186 _ A19.out).mono ?_
           rintro e w' ⟨rfl, ⟨nd, rfl⟩⟩
           refine ⟨_, rfl, ?_⟩
           refine hK.out _ _ trivial (fun hHeld => ?_)
           clear hK K
           refine norm_ (a' := ?_) ?_ ?_
           rotate_left
           ·show Act.put _ (some 36) _ = _
            simp only [Act.put, List.setIfInBounds_toArray, List.set_cons_zero, List.set_cons_succ, i64_w, i32_w]
            rfl
           refine pure_ (i := 5) (N := some 37) (v := ?_) (a' := ?_) #[true, true, true, true, true, true, true, true, true, true, false, false, false, false, false, false] rfl rfl (any_of HT_.out (by kernel_rfl)) (fun _ _ _ h => h) (Or.inl ⟨by rfl, ?_⟩) ?_ ?_
           rotate_left
           ·intro w'
            go_simp
            with_reducible rfl
           rotate_left
           ·simp only [Act.put, List.setIfInBounds_toArray, List.set_cons_zero, List.set_cons_succ, i64_w, i32_w]
            rfl
           refine one_ (i := 10) (N := some 42) #[true, true, true, true, true, true, true, true, true, true, true, false, false, false, false, false] rfl rfl (one_of HT_.out (by kernel_rfl)) (by decide) (fun K hK => ?_)
           refine goes_ Tryd.func49 (by kernel_rfl) rfl #[.int .u8 (bt a0 (ji20))] (by rfl) rfl rfl (by (try simp only [List.map_toArray, List.map_cons, List.map_nil]); first | done | (simp only [hji20]; rfl) | rfl | (simp only [List.length_drop, List.length_take]; rfl)) ?_
           with_reducible refine (falseworkref16_half.calls (bt a0 (ji20)) t187 _ A24.out).mono ?_
           rintro e w' ⟨rfl, ⟨nd, rfl⟩⟩
           refine ⟨_, rfl, ?_⟩
           refine hK.out _ _ trivial (fun hHeld => ?_)
           clear hK K
           refine norm_ (a' := ?_) ?_ ?_
           rotate_left
           ·show Act.put _ (some 42) _ = _
            simp only [Act.put, List.setIfInBounds_toArray, List.set_cons_zero, List.set_cons_succ, i64_w, i32_w]
            rfl
           refine pure_ (i := 11) (N := some 43) (v := ?_) (a' := ?_) #[true, true, true, true, true, true, true, true, true, true, true, true, false, false, false, false] rfl rfl (any_of HT_.out (by kernel_rfl)) (fun _ _ _ h => h) (Or.inl ⟨by rfl, ?_⟩) ?_ ?_
           rotate_left
           ·intro w'
            go_simp
            with_reducible rfl
           rotate_left
           ·simp only [Act.put, List.setIfInBounds_toArray, List.set_cons_zero, List.set_cons_succ, i64_w, i32_w]
            rfl
           refine pure_ (i := 12) (N := some 44) (v := ?_) (a' := ?_) #[true, true, true, true, true, true, true, true, true, true, true, true, true, false, false, false] rfl rfl (any_of HT_.out (by kernel_rfl)) (fun _ _ _ h => h) (Or.inl ⟨by rfl, ?_⟩) ?_ ?_
           rotate_left
           ·intro w'
            go_simp
            with_reducible rfl
           rotate_left
           ·simp only [Act.put, List.setIfInBounds_toArray, List.set_cons_zero, List.set_cons_succ, i64_w, i32_w]
            rfl
           refine one_ (i := 13) (N := some 45) #[true, true, true, true, true, true, true, true, true, true, true, true, true, true, false, false] rfl rfl (one_of HT_.out (by kernel_rfl)) (by decide) (fun K hK => ?_)
           refine value_ (w1 := ?_) (v := ?_) (by rfl) rfl ?_ ?_
           rotate_left 2
           ·go_simp
            constructor
            ·rfl
            ·rfl
           refine hK.out _ _ trivial (fun hHeld => ?_)
           clear hK K
           refine norm_ (a' := ?_) ?_ ?_
           rotate_left
           ·show Act.put _ (some 45) _ = _
            simp only [Act.put, List.setIfInBounds_toArray, List.set_cons_zero, List.set_cons_succ, i64_w, i32_w]
            rfl
           refine one_ (i := 14) (N := some 46) #[true, true, true, true, true, true, true, true, true, true, true, true, true, true, true, false] rfl rfl (one_of HT_.out (by kernel_rfl)) (by decide) (fun K hK => ?_)
           refine Kd.R_append_step (Kd.int .u8) (w0 := w) w.heap.size (by rfl) (.tmp 32) (.tmp 45) 34 5 (.int .u8 0) 1 rfl Tryd.underlying34 info5 rfl (by decide) (by omega) u7 x7_1 ((wrap64 ((wrap64 (16 * t186)) + t187)) % 256) [.int .u8 ((wrap64 ((wrap64 (16 * t186)) + t187)) % 256)] (fun _ => True) (fun _ => False) rfl rfl ?aP (fun _ hk => hk.elim) ?aF ?aO ?aB ?aS ?aL ?_
           (case aP => exact rfl)
           (case aB => exact (by repeat (first | (with_reducible first | exact HB.out | apply below_alloc | apply pw_below_drewN | apply below_drew1 | refine below_set ?_ GE183.out) | exact HB.out)))
           (case aF => exact (fun _ _ => trivial))
           (case aO => exact (by (with_reducible repeat (first | apply Kd.R_alloc | apply Kd.R_drewN | apply Kd.R_drew)); exact HO_7.out))
           (case aS => exact (below_size (by repeat (first | (with_reducible first | exact HB.out | apply below_alloc | apply pw_below_drewN | apply below_drew1 | refine below_set ?_ GE183.out) | exact HB.out))))
           (case aL => have := LMc25.out; omega)
           intro v189 w27 ho hb hg hat
           rw [← Ny188.out] at ho
           have n0_ := Aside0.mk (blk_grown (g := gb183) (o := .cells #[.int .i64 0, .string (⟨#[]⟩ : ByteArray), .int .i64 0, .int .i64 0, .int .u64 0, .string (⟨#[]⟩ : ByteArray), .int .i64 0] 47 (0, 0)) (by (with_reducible repeat (first | refine blk_drewN ?_ _ | refine blk_drew ?_ | refine blk_alloc ?_ _)); exact BK183.out) hg (Kd.R_ne HO_7.out BK183.out (by decide)))
           have n1_ := Aside0.mk (hb)
           have n2_ := Aside0.mk (ho)
           clear BK183
           clear HB
           clear HO_7
           have BK183 := n0_
           have HB := n1_
           have HO190 := n2_
           clear n0_ n1_ n2_
           clear ho hb hg hat
           refine hK.out _ _ trivial (fun hHeld => ?_)
           clear hK K
           refine norm_ (a' := ?_) ?_ ?_
           rotate_left
           ·show Act.put _ (some 46) _ = _
            simp only [Act.put, List.setIfInBounds_toArray, List.set_cons_zero, List.set_cons_succ, i64_w, i32_w]
            rfl
           refine pure_ (i := 15) (N := some 7) (v := ?_) (a' := ?_) #[true, true, true, true, true, true, true, true, true, true, true, true, true, true, true, true] rfl rfl (any_of HT_.out (by kernel_rfl)) (fun _ _ _ h => h) (Or.inl ⟨by rfl, ?_⟩) ?_ ?_
           rotate_left
           ·intro w'
            go_simp
            with_reducible rfl
           rotate_left
           ·simp only [Act.put, List.setIfInBounds_toArray, List.set_cons_zero, List.set_cons_succ, i64_w, i32_w]
            rfl
           refine done_ (done_of HT_.out (by kernel_rfl)) ?_
           try go_wp2
           go_roundg kj3
           case measure => have := HK1.out; have := HJ3.out; omega
           case rel => exact ⟨(y188), (wrap64 (x8_1 + 2)), (by first | rfl | (simp; done) | (simp [*]; done)), H', ⟨by have := HK1.out; have := HJ3.out; omega⟩, ⟨by (with_reducible repeat (first | apply Kd.R_alloc | apply Kd.R_drewN | apply Kd.R_drew)); exact HO190.out⟩, ⟨by (with_reducible repeat (first | refine blk_drewN ?_ _ | refine blk_drew ?_ | refine blk_alloc ?_ _)); exact BK183.out⟩, ⟨by repeat (first | (with_reducible first | exact HB.out | apply below_alloc | apply pw_below_drewN | apply below_drew1 | refine below_set ?_ GE183.out) | exact HB.out)⟩⟩
          ·rw [if_neg c25] at H
           exact absurd H (by simp)
         ·rw [if_neg c22] at H
          exact absurd H (by simp)
        ·rw [if_neg c21] at H
         exact absurd H (by simp)
       ·rw [if_neg c17] at H
        exact absurd H (by simp)
      ·rw [if_neg c16] at H
       exact absurd H (by simp)
     ·replace c15 := Bool.eq_false_iff.mpr c15
      subst c15
      have H1 : (if x8_1 ≥ (a0.size : Int) then (falseworkref16_hex.j2 kj3 a0 a1 x7_1 x8_1 true) else (if 0 ≤ x8_1 then (if x8_1 < (a0.size : Int) then (falseworkref16_hex.j2 kj3 a0 a1 x7_1 x8_1 ((bt a0 x8_1) != 39)) else (none)) else (none))) = some (r1, r2, r3, r4, r5, r6, r7, r8, r9) := by rw [if_neg (show ¬ (false = true) by decide)] at H; exact H
      clear H
      have H := H1
      clear H1
      have HC28 := Aside0.mk H
      clear H
      go_upto_region 6 with (fail)
      go_cut [58] (fun v58 wc => ∃ (kq : Nat) (x58_27 : Bool), v58 = .bool x58_27 ∧ Aside0 (falseworkref16_hex.j2 kq a0 a1 x7_1 x8_1 x58_27 = some (r1, r2, r3, r4, r5, r6, r7, r8, r9)) ∧ Aside0 (kq ≤ kj3) ∧ Aside0 (Kd.R (Kd.int .u8) 5 wc w.heap.size (fun _ => True) u7 x7_1) ∧ Aside0 (wc.heap[gb183]? = some (.cells #[.int .i64 0, .string (⟨#[]⟩ : ByteArray), .int .i64 0, .int .i64 0, .int .u64 0, .string (⟨#[]⟩ : ByteArray), .int .i64 0] 47 (0, 0))) ∧ Aside0 (Below w.heap.size w wc))
      case first =>
       have H := HC28.out
       clear HC28
       by_cases c29 : x8_1 ≥ (a0.size : Int)
       ·rw [if_pos c29] at H
        have c29b0 : decide ((a0.size : Int) ≤ x8_1) = true := decide_eq_true c29
        clear c29
        (first | rw [c29b0] | (simp only [i64_w, i32_w]; rw [c29b0]) | skip)
        have H' := Aside0.mk H
        clear H
        go_wp2
        go_meet
        case rel => exact ⟨_, (true), (by first | rfl | (simp; done) | (simp [*]; done)), H', ⟨by have := HK1.out; have := HJ3.out; first | omega | exact Nat.le_refl _⟩, ⟨by (with_reducible repeat (first | apply Kd.R_alloc | apply Kd.R_drewN | apply Kd.R_drew)); exact HO_7.out⟩, ⟨by (with_reducible repeat (first | refine blk_drewN ?_ _ | refine blk_drew ?_ | refine blk_alloc ?_ _)); exact BK183.out⟩, ⟨by repeat (first | (with_reducible first | exact HB.out | apply below_alloc | apply pw_below_drewN | apply below_drew1 | refine below_set ?_ GE183.out) | exact HB.out)⟩⟩
       ·rw [if_neg c29] at H
        have c29b0 : decide ((a0.size : Int) ≤ x8_1) = false := decide_eq_false c29
        clear c29
        (first | rw [c29b0] | (simp only [i64_w, i32_w]; rw [c29b0]) | skip)
        by_cases c30 : 0 ≤ x8_1
        ·rw [if_pos c30] at H
         have c30b0 : decide (0 ≤ x8_1) = true := decide_eq_true c30
         clear c30
         by_cases c31 : x8_1 < (a0.size : Int)
         ·rw [if_pos c31] at H
          have c31b0 : decide (x8_1 < (a0.size : Int)) = true := decide_eq_true c31
          clear c31
          have H' := Aside0.mk H
          clear H
          have p32 : 0 ≤ (x8_1 : Int) := of_decide_eq_true (by first | (with_reducible assumption) | assumption)
          have q32 : x8_1 < (a0.size : Int) := of_decide_eq_true (by first | (with_reducible assumption) | assumption)
          have hx32 := bt_at a0 x8_1
          replace p32 := eq_true p32
          replace q32 := eq_true q32
          go_wp2
          go_meet
          case rel => exact ⟨_, (((bt a0 x8_1) != 39)), (by first | rfl | (simp; done) | (simp [*]; done)), H', ⟨by have := HK1.out; have := HJ3.out; first | omega | exact Nat.le_refl _⟩, ⟨by (with_reducible repeat (first | apply Kd.R_alloc | apply Kd.R_drewN | apply Kd.R_drew)); exact HO_7.out⟩, ⟨by (with_reducible repeat (first | refine blk_drewN ?_ _ | refine blk_drew ?_ | refine blk_alloc ?_ _)); exact BK183.out⟩, ⟨by repeat (first | (with_reducible first | exact HB.out | apply below_alloc | apply pw_below_drewN | apply below_drew1 | refine below_set ?_ GE183.out) | exact HB.out)⟩⟩
         ·rw [if_neg c31] at H
          exact absurd H (by simp)
        ·rw [if_neg c30] at H
         exact absurd H (by simp)
      case rest =>
       clear HC28
       try clear c1
       try clear p1
       try clear q1
       try clear hx1
       try clear c2
       try clear p2
       try clear q2
       try clear hx2
       try clear c3
       try clear p3
       try clear q3
       try clear hx3
       try clear c4
       try clear c5
       try clear c5b0
       try clear c6
       try clear c6b0
       try clear p6
       try clear c7
       try clear c7b0
       try clear p8
       try clear q8
       try clear hx8
       try clear c10
       try clear c10b0
       try clear c12
       try clear c12b0
       try clear p13
       try clear q13
       try clear hx13
       try clear c15
       try clear c16
       try clear c16b0
       try clear c17
       try clear c17b0
       try clear p18
       try clear q18
       try clear hx18
       try clear c21
       try clear c21b0
       try clear c22
       try clear c22b0
       try clear p23
       try clear q23
       try clear hx23
       try clear c25
       try clear c29
       try clear c29b0
       try clear c30
       try clear c30b0
       try clear c31
       try clear c31b0
       try clear p32
       try clear q32
       try clear hx32
       try clear p1
       try clear p13
       try clear p18
       try clear p2
       try clear p23
       try clear p32
       try clear p6
       try clear p8
       try clear q1
       try clear q13
       try clear q18
       try clear q23
       try clear q32
       try clear q8
       obtain ⟨kq, x58_27, rfl, HA, HJ27, HO_7, BK183, HB⟩ := hcut
       cases kq with
       | zero => exact absurd HA.out (by simp [falseworkref16_hex.j2])
       | succ kj27 =>
        have H := HA.out
        clear HA
        simp only [falseworkref16_hex.j2] at H
        by_cases c33 : x58_27 = true
        ·subst c33
         have H1 : (some (0, (⟨#[]⟩ : ByteArray), 0, 0, 0, (⟨#[]⟩ : ByteArray), 0, 0, false)) = some (r1, r2, r3, r4, r5, r6, r7, r8, r9) := by rw [if_pos rfl] at H; exact H
         clear H
         have H := H1
         clear H1
         simp only [Option.some.injEq, Prod.mk.injEq] at H
         obtain ⟨rfl, rfl, rfl, rfl, rfl, rfl, rfl, rfl, rfl⟩ := H
         have hcz34_0 : wc.cell? ⟨gb183, 0, none⟩ = some (.int .i64 0) := (blk_cell BK183.out 0).trans rfl
         have hcz34_1 : wc.cell? ⟨gb183, 1, none⟩ = some (.string (⟨#[]⟩ : ByteArray)) := (blk_cell BK183.out 1).trans rfl
         have hcz34_2 : wc.cell? ⟨gb183, 2, none⟩ = some (.int .i64 0) := (blk_cell BK183.out 2).trans rfl
         have hcz34_3 : wc.cell? ⟨gb183, 3, none⟩ = some (.int .i64 0) := (blk_cell BK183.out 3).trans rfl
         have hcz34_4 : wc.cell? ⟨gb183, 4, none⟩ = some (.int .u64 0) := (blk_cell BK183.out 4).trans rfl
         have hcz34_5 : wc.cell? ⟨gb183, 5, none⟩ = some (.string (⟨#[]⟩ : ByteArray)) := (blk_cell BK183.out 5).trans rfl
         have hcz34_6 : wc.cell? ⟨gb183, 6, none⟩ = some (.int .i64 0) := (blk_cell BK183.out 6).trans rfl
         have hfz34_0 := blk_frozen BK183.out 0
         have hfz34_1 := blk_frozen BK183.out 1
         have hfz34_2 := blk_frozen BK183.out 2
         have hfz34_3 := blk_frozen BK183.out 3
         have hfz34_4 := blk_frozen BK183.out 4
         have hfz34_5 := blk_frozen BK183.out 5
         have hfz34_6 := blk_frozen BK183.out 6
         go_wp2
         refine bodyPost_ret (results_ctt rfl _ _ gb183 47 #[.int .i64 0, .string (⟨#[]⟩ : ByteArray), .int .i64 0, .int .i64 0, .int .u64 0, .string (⟨#[]⟩ : ByteArray), .int .i64 0] (0, 0) _ rfl (by (with_reducible repeat (first | refine blk_drewN ?_ _ | refine blk_drew ?_ | refine blk_alloc ?_ _)); refine blk_put (cs := #[.int .i64 0, .string (⟨#[]⟩ : ByteArray), .int .i64 0, .int .i64 0, .int .u64 0, .string (⟨#[]⟩ : ByteArray), .int .i64 0]) ?_ 6 _ rfl; (with_reducible repeat (first | refine blk_drewN ?_ _ | refine blk_drew ?_ | refine blk_alloc ?_ _)); refine blk_put (cs := #[.int .i64 0, .string (⟨#[]⟩ : ByteArray), .int .i64 0, .int .i64 0, .int .u64 0, .string (⟨#[]⟩ : ByteArray), .int .i64 0]) ?_ 5 _ rfl; (with_reducible repeat (first | refine blk_drewN ?_ _ | refine blk_drew ?_ | refine blk_alloc ?_ _)); refine blk_put (cs := #[.int .i64 0, .string (⟨#[]⟩ : ByteArray), .int .i64 0, .int .i64 0, .int .u64 0, .string (⟨#[]⟩ : ByteArray), .int .i64 0]) ?_ 4 _ rfl; (with_reducible repeat (first | refine blk_drewN ?_ _ | refine blk_drew ?_ | refine blk_alloc ?_ _)); refine blk_put (cs := #[.int .i64 0, .string (⟨#[]⟩ : ByteArray), .int .i64 0, .int .i64 0, .int .u64 0, .string (⟨#[]⟩ : ByteArray), .int .i64 0]) ?_ 3 _ rfl; (with_reducible repeat (first | refine blk_drewN ?_ _ | refine blk_drew ?_ | refine blk_alloc ?_ _)); refine blk_put (cs := #[.int .i64 0, .string (⟨#[]⟩ : ByteArray), .int .i64 0, .int .i64 0, .int .u64 0, .string (⟨#[]⟩ : ByteArray), .int .i64 0]) ?_ 2 _ rfl; (with_reducible repeat (first | refine blk_drewN ?_ _ | refine blk_drew ?_ | refine blk_alloc ?_ _)); refine blk_put (cs := #[.int .i64 0, .string (⟨#[]⟩ : ByteArray), .int .i64 0, .int .i64 0, .int .u64 0, .string (⟨#[]⟩ : ByteArray), .int .i64 0]) ?_ 1 _ rfl; (with_reducible repeat (first | refine blk_drewN ?_ _ | refine blk_drew ?_ | refine blk_alloc ?_ _)); refine blk_put (cs := #[.int .i64 0, .string (⟨#[]⟩ : ByteArray), .int .i64 0, .int .i64 0, .int .u64 0, .string (⟨#[]⟩ : ByteArray), .int .i64 0]) ?_ 0 _ rfl; (with_reducible repeat (first | refine blk_drewN ?_ _ | refine blk_drew ?_ | refine blk_alloc ?_ _)); exact BK183.out) Tryd.underlying47 rfl (by kernel_rfl)) rfl ?_
         exact ⟨by first | rfl | (simp [errW_none, errW_some] <;> rfl) | (simp [*, errW_none, errW_some] <;> rfl), by repeat (first | (with_reducible first | exact HB.out | apply below_alloc | apply pw_below_drewN | apply below_drew1 | refine below_set ?_ GE183.out) | exact HB.out)⟩
        ·replace c33 := Bool.eq_false_iff.mpr c33
         subst c33
         have H1 : (if 0 ≤ a1 then (if a1 ≤ (wrap64 (x8_1 + 1)) then (if (wrap64 (x8_1 + 1)) ≤ (a0.size : Int) then (if a1 < (a0.size : Int) then (if (bt a0 a1) = 120 then (some (3, a0.extract (a1 : Int).toNat ((wrap64 (x8_1 + 1)) : Int).toNat, 4, 0, 0, strOfNums x7_1, a1, wrap64 (x8_1 + 1), decide ((x7_1.length : Int) ≤ 40))) else (if (x7_1.length : Int) = 8 then ((falseworkref2_Number.f kj27 (strOfNums x7_1)).bind fun t192 => ((falseworkref1_Canon.f t192).bind fun t193 => (some (3, a0.extract (a1 : Int).toNat ((wrap64 (x8_1 + 1)) : Int).toNat, 3, 0, t193, (⟨#[]⟩ : ByteArray), a1, wrap64 (x8_1 + 1), true)))) else (some (0, (⟨#[]⟩ : ByteArray), 0, 0, 0, (⟨#[]⟩ : ByteArray), 0, 0, false)))) else (none)) else (none)) else (none)) else (none)) = some (r1, r2, r3, r4, r5, r6, r7, r8, r9) := by rw [if_neg (show ¬ (false = true) by decide)] at H; exact H
         clear H
         have H := H1
         clear H1
         by_cases c35 : 0 ≤ a1
         ·rw [if_pos c35] at H
          have c35b0 := eq_true c35
          have c35b1 : decide (0 ≤ a1) = true := decide_eq_true c35
          clear c35
          by_cases c36 : a1 ≤ (wrap64 (x8_1 + 1))
          ·rw [if_pos c36] at H
           have c36b0 := eq_true c36
           have c36b1 : decide (a1 ≤ (wrap64 (x8_1 + 1))) = true := decide_eq_true c36
           by_cases c37 : (wrap64 (x8_1 + 1)) ≤ (a0.size : Int)
           ·rw [if_pos c37] at H
            have c37b0 := eq_true c37
            have c37b1 : decide ((wrap64 (x8_1 + 1)) ≤ (a0.size : Int)) = true := decide_eq_true c37
            by_cases c38 : a1 < (a0.size : Int)
            ·rw [if_pos c38] at H
             have c38b0 : decide (a1 < (a0.size : Int)) = true := decide_eq_true c38
             clear c38
             by_cases c40 : (bt a0 a1) = 120
             ·rw [if_pos c40] at H
              have c40b0 : ((bt a0 a1) == 120) = true := beq_iff_eq.mpr c40
              have c40b1 : ((bt a0 a1) != 120) = false := bne_eq_false_iff_eq.mpr c40
              clear c40
              simp only [Option.some.injEq, Prod.mk.injEq] at H
              obtain ⟨rfl, rfl, rfl, rfl, rfl, rfl, rfl, rfl, rfl⟩ := H
              go_wp2_with (first | ((with_reducible refine gate_dst (N := 9) rfl ?_); refine box_event ?hg (N := 9) ?hd (cs := #[.int .i64 0, .string (⟨#[]⟩ : ByteArray), .int .i64 0, .int .i64 0, .int .u64 0, .string (⟨#[]⟩ : ByteArray), .int .i64 0]) (t := 47) ?hr ?_; (case hd => rfl); (case hg => rfl); (case hr => first | (go_simp; done) | (go_simp; rfl)); intro gb191 hg w41 hbox hb; have n0_ := Aside0.mk (Kd.R_below (by (with_reducible repeat (first | apply Kd.R_alloc | apply Kd.R_drewN | apply Kd.R_drew)); exact HO_7.out) hb); have n1_ := Aside0.mk (blk_below (g := gb183) (o := .cells #[.int .i64 0, .string (⟨#[]⟩ : ByteArray), .int .i64 0, .int .i64 0, .int .u64 0, .string (⟨#[]⟩ : ByteArray), .int .i64 0] 47 (0, 0)) (by (with_reducible repeat (first | refine blk_drewN ?_ _ | refine blk_drew ?_ | refine blk_alloc ?_ _)); exact BK183.out) hb); have n2_ := Aside0.mk (below_step (by repeat (first | (with_reducible first | exact HB.out | apply below_alloc | apply pw_below_drewN | apply below_drew1 | refine below_set ?_ GE183.out) | exact HB.out)) hb); have n3_ := Aside0.mk (hbox); have n4_ := Aside0.mk ((by rw [hg]; exact (below_size (by repeat (first | (with_reducible first | exact HB.out | apply below_alloc | apply pw_below_drewN | apply below_drew1 | refine below_set ?_ GE183.out) | exact HB.out))) : w.heap.size ≤ gb191)); have n5_ := Aside0.mk ((by rw [hg]; exact (below_size (by repeat (first | (with_reducible first | exact HB.out | apply below_alloc | apply pw_below_drewN | apply below_drew1 | refine below_set ?_ GE183.out) | exact HB.out))) : w.heap.size ≤ gb191)); have n6_ := Aside0.mk ((by rw [hg]; exact Nat.ne_of_lt (blk_lt (g := gb183) (o := .cells #[.int .i64 0, .string (⟨#[]⟩ : ByteArray), .int .i64 0, .int .i64 0, .int .u64 0, .string (⟨#[]⟩ : ByteArray), .int .i64 0] 47 (0, 0)) (by (with_reducible repeat (first | refine blk_drewN ?_ _ | refine blk_drew ?_ | refine blk_alloc ?_ _)); exact BK183.out)) : gb183 ≠ gb191)); have n7_ := Aside0.mk ((by rw [hg]; exact Nat.ne_of_gt (blk_lt (g := gb183) (o := .cells #[.int .i64 0, .string (⟨#[]⟩ : ByteArray), .int .i64 0, .int .i64 0, .int .u64 0, .string (⟨#[]⟩ : ByteArray), .int .i64 0] 47 (0, 0)) (by (with_reducible repeat (first | refine blk_drewN ?_ _ | refine blk_drew ?_ | refine blk_alloc ?_ _)); exact BK183.out)) : gb191 ≠ gb183)); clear HO_7; clear BK183; clear HB; have HO_7 := n0_; have BK183 := n1_; have HB := n2_; have BK191 := n3_; have GW191 := n4_; have GE191 := n5_; have NB183_191 := n6_; have NB191_183 := n7_; clear n0_ n1_ n2_ n3_ n4_ n5_ n6_ n7_; clear hb hbox hg; have hnb42 := NB191_183.out; have hnc42 := NB183_191.out; have hcz43_0 : w41.cell? ⟨gb191, 0, none⟩ = some (.int .i64 0) := (blk_cell BK191.out 0).trans rfl; have hcz43_1 : w41.cell? ⟨gb191, 1, none⟩ = some (.string (⟨#[]⟩ : ByteArray)) := (blk_cell BK191.out 1).trans rfl; have hcz43_2 : w41.cell? ⟨gb191, 2, none⟩ = some (.int .i64 0) := (blk_cell BK191.out 2).trans rfl; have hcz43_3 : w41.cell? ⟨gb191, 3, none⟩ = some (.int .i64 0) := (blk_cell BK191.out 3).trans rfl; have hcz43_4 : w41.cell? ⟨gb191, 4, none⟩ = some (.int .u64 0) := (blk_cell BK191.out 4).trans rfl; have hcz43_5 : w41.cell? ⟨gb191, 5, none⟩ = some (.string (⟨#[]⟩ : ByteArray)) := (blk_cell BK191.out 5).trans rfl; have hcz43_6 : w41.cell? ⟨gb191, 6, none⟩ = some (.int .i64 0) := (blk_cell BK191.out 6).trans rfl; have hfz43_0 := blk_frozen BK191.out 0; have hfz43_1 := blk_frozen BK191.out 1; have hfz43_2 := blk_frozen BK191.out 2; have hfz43_3 := blk_frozen BK191.out 3; have hfz43_4 := blk_frozen BK191.out 4; have hfz43_5 := blk_frozen BK191.out 5; have hfz43_6 := blk_frozen BK191.out 6; have p39 : 0 ≤ (a1 : Int) := of_decide_eq_true (by first | (with_reducible assumption) | assumption); have q39 : a1 < (a0.size : Int) := of_decide_eq_true (by first | (with_reducible assumption) | assumption); have hx39 := bt_at a0 a1; replace p39 := eq_true p39; replace q39 := eq_true q39; have hcv44 := own_string (P := Tryd.prog) Tryd.underlying34 Tryd.underlying5 Tryd.underlying9 (Kd.own_of_R HO_7.out); obtain ⟨Ao45, co45, eo45⟩ := Kd.R_slice HO_7.out; subst eo45; have hcz46_0 : w41.cell? ⟨gb183, 0, none⟩ = some (.int .i64 0) := (blk_cell BK183.out 0).trans rfl; have hcz46_1 : w41.cell? ⟨gb183, 1, none⟩ = some (.string (⟨#[]⟩ : ByteArray)) := (blk_cell BK183.out 1).trans rfl; have hcz46_2 : w41.cell? ⟨gb183, 2, none⟩ = some (.int .i64 0) := (blk_cell BK183.out 2).trans rfl; have hcz46_3 : w41.cell? ⟨gb183, 3, none⟩ = some (.int .i64 0) := (blk_cell BK183.out 3).trans rfl; have hcz46_4 : w41.cell? ⟨gb183, 4, none⟩ = some (.int .u64 0) := (blk_cell BK183.out 4).trans rfl; have hcz46_5 : w41.cell? ⟨gb183, 5, none⟩ = some (.string (⟨#[]⟩ : ByteArray)) := (blk_cell BK183.out 5).trans rfl; have hcz46_6 : w41.cell? ⟨gb183, 6, none⟩ = some (.int .i64 0) := (blk_cell BK183.out 6).trans rfl; have hfz46_0 := blk_frozen BK183.out 0; have hfz46_1 := blk_frozen BK183.out 1; have hfz46_2 := blk_frozen BK183.out 2; have hfz46_3 := blk_frozen BK183.out 3; have hfz46_4 := blk_frozen BK183.out 4; have hfz46_5 := blk_frozen BK183.out 5; have hfz46_6 := blk_frozen BK183.out 6))
              obtain ⟨W1, hW1⟩ : ∃ W1 : World, W1 = (((((((w41).setCell ⟨gb191, 0, none⟩ (.int .i64 3)).setCell ⟨gb191, 1, none⟩ (.string (a0.extract (a1 : Int).toNat ((wrap64 (x8_1 + 1)) : Int).toNat))).setCell ⟨gb191, 2, none⟩ (.int .i64 0)).setCell ⟨gb191, 3, none⟩ (.int .i64 0)).setCell ⟨gb191, 4, none⟩ (.int .u64 0)).setCell ⟨gb191, 5, none⟩ (.string (⟨#[]⟩ : ByteArray))).setCell ⟨gb191, 6, none⟩ (.int .i64 a1) := ⟨_, rfl⟩
              rw [← hW1]
              have n0_ : W1.heap[gb191]? = some (.cells #[.int .i64 3, .string (a0.extract (a1 : Int).toNat ((wrap64 (x8_1 + 1)) : Int).toNat), .int .i64 0, .int .i64 0, .int .u64 0, .string (⟨#[]⟩ : ByteArray), .int .i64 a1] 47 (0, 0)) := by rw [hW1]; refine blk_put (cs := #[.int .i64 3, .string (a0.extract (a1 : Int).toNat ((wrap64 (x8_1 + 1)) : Int).toNat), .int .i64 0, .int .i64 0, .int .u64 0, .string (⟨#[]⟩ : ByteArray), .int .i64 0]) ?_ 6 _ rfl; refine blk_put (cs := #[.int .i64 3, .string (a0.extract (a1 : Int).toNat ((wrap64 (x8_1 + 1)) : Int).toNat), .int .i64 0, .int .i64 0, .int .u64 0, .string (⟨#[]⟩ : ByteArray), .int .i64 0]) ?_ 5 _ rfl; refine blk_put (cs := #[.int .i64 3, .string (a0.extract (a1 : Int).toNat ((wrap64 (x8_1 + 1)) : Int).toNat), .int .i64 0, .int .i64 0, .int .u64 0, .string (⟨#[]⟩ : ByteArray), .int .i64 0]) ?_ 4 _ rfl; refine blk_put (cs := #[.int .i64 3, .string (a0.extract (a1 : Int).toNat ((wrap64 (x8_1 + 1)) : Int).toNat), .int .i64 0, .int .i64 0, .int .u64 0, .string (⟨#[]⟩ : ByteArray), .int .i64 0]) ?_ 3 _ rfl; refine blk_put (cs := #[.int .i64 3, .string (a0.extract (a1 : Int).toNat ((wrap64 (x8_1 + 1)) : Int).toNat), .int .i64 0, .int .i64 0, .int .u64 0, .string (⟨#[]⟩ : ByteArray), .int .i64 0]) ?_ 2 _ rfl; refine blk_put (cs := #[.int .i64 3, .string (⟨#[]⟩ : ByteArray), .int .i64 0, .int .i64 0, .int .u64 0, .string (⟨#[]⟩ : ByteArray), .int .i64 0]) ?_ 1 _ rfl; refine blk_put (cs := #[.int .i64 0, .string (⟨#[]⟩ : ByteArray), .int .i64 0, .int .i64 0, .int .u64 0, .string (⟨#[]⟩ : ByteArray), .int .i64 0]) ?_ 0 _ rfl; exact BK191.out
              have n1_ : W1.heap[gb183]? = some (.cells #[.int .i64 0, .string (⟨#[]⟩ : ByteArray), .int .i64 0, .int .i64 0, .int .u64 0, .string (⟨#[]⟩ : ByteArray), .int .i64 0] 47 (0, 0)) := by rw [hW1]; (repeat (with_reducible refine blk_far ?_ NB183_191.out _)); exact BK183.out
              have n2_ : Below w.heap.size w W1 := by rw [hW1]; (repeat (with_reducible refine below_set ?_ GE191.out)); exact HB.out
              have hT_ := Kd.R_types HO_7.out BK191.out (by decide)
              have n3_ : (Kd.int .u8).R 5 W1 w.heap.size (fun k => True ∧ k ≠ gb191) (.slice Ao45 x7_1.length co45) x7_1 := by rw [hW1]; (repeat (with_reducible refine Kd.R_far ?_ (fun _ hk => hk.2) _)); exact hT_
              have n4_ := falseworkref16_hex.conv_far n3_
              clear hT_ n3_ hW1 HO_7 BK191 BK183 HB
              (try clear hcv44)
              (try clear hcz43_0)
              (try clear hcz43_1)
              (try clear hcz43_2)
              (try clear hcz43_3)
              (try clear hcz43_4)
              (try clear hcz43_5)
              (try clear hcz43_6)
              (try clear hcz46_0)
              (try clear hcz46_1)
              (try clear hcz46_2)
              (try clear hcz46_3)
              (try clear hcz46_4)
              (try clear hcz46_5)
              (try clear hcz46_6)
              (try clear hfz43_0)
              (try clear hfz43_1)
              (try clear hfz43_2)
              (try clear hfz43_3)
              (try clear hfz43_4)
              (try clear hfz43_5)
              (try clear hfz43_6)
              (try clear hfz46_0)
              (try clear hfz46_1)
              (try clear hfz46_2)
              (try clear hfz46_3)
              (try clear hfz46_4)
              (try clear hfz46_5)
              (try clear hfz46_6)
              have BK191 := Aside0.mk n0_
              have BK183 := Aside0.mk n1_
              have HB := Aside0.mk n2_
              clear n0_ n1_ n2_
              have hc191_0 : W1.cell? ⟨gb191, 0, none⟩ = some (.int .i64 3) := (blk_cell BK191.out 0).trans rfl
              have hf191_0 := blk_frozen BK191.out 0
              have hc191_1 : W1.cell? ⟨gb191, 1, none⟩ = some (.string (a0.extract (a1 : Int).toNat ((wrap64 (x8_1 + 1)) : Int).toNat)) := (blk_cell BK191.out 1).trans rfl
              have hf191_1 := blk_frozen BK191.out 1
              have hc191_2 : W1.cell? ⟨gb191, 2, none⟩ = some (.int .i64 0) := (blk_cell BK191.out 2).trans rfl
              have hf191_2 := blk_frozen BK191.out 2
              have hc191_3 : W1.cell? ⟨gb191, 3, none⟩ = some (.int .i64 0) := (blk_cell BK191.out 3).trans rfl
              have hf191_3 := blk_frozen BK191.out 3
              have hc191_4 : W1.cell? ⟨gb191, 4, none⟩ = some (.int .u64 0) := (blk_cell BK191.out 4).trans rfl
              have hf191_4 := blk_frozen BK191.out 4
              have hc191_5 : W1.cell? ⟨gb191, 5, none⟩ = some (.string (⟨#[]⟩ : ByteArray)) := (blk_cell BK191.out 5).trans rfl
              have hf191_5 := blk_frozen BK191.out 5
              have hc191_6 : W1.cell? ⟨gb191, 6, none⟩ = some (.int .i64 a1) := (blk_cell BK191.out 6).trans rfl
              have hf191_6 := blk_frozen BK191.out 6
              have hc183_0 : W1.cell? ⟨gb183, 0, none⟩ = some (.int .i64 0) := (blk_cell BK183.out 0).trans rfl
              have hf183_0 := blk_frozen BK183.out 0
              have hc183_1 : W1.cell? ⟨gb183, 1, none⟩ = some (.string (⟨#[]⟩ : ByteArray)) := (blk_cell BK183.out 1).trans rfl
              have hf183_1 := blk_frozen BK183.out 1
              have hc183_2 : W1.cell? ⟨gb183, 2, none⟩ = some (.int .i64 0) := (blk_cell BK183.out 2).trans rfl
              have hf183_2 := blk_frozen BK183.out 2
              have hc183_3 : W1.cell? ⟨gb183, 3, none⟩ = some (.int .i64 0) := (blk_cell BK183.out 3).trans rfl
              have hf183_3 := blk_frozen BK183.out 3
              have hc183_4 : W1.cell? ⟨gb183, 4, none⟩ = some (.int .u64 0) := (blk_cell BK183.out 4).trans rfl
              have hf183_4 := blk_frozen BK183.out 4
              have hc183_5 : W1.cell? ⟨gb183, 5, none⟩ = some (.string (⟨#[]⟩ : ByteArray)) := (blk_cell BK183.out 5).trans rfl
              have hf183_5 := blk_frozen BK183.out 5
              have hc183_6 : W1.cell? ⟨gb183, 6, none⟩ = some (.int .i64 0) := (blk_cell BK183.out 6).trans rfl
              have hf183_6 := blk_frozen BK183.out 6
              rw [n4_]
              dsimp only [Result.andThen]
              rw [Oper.upon_value]
              clear n4_
              go_wp2
              refine bodyPost_ret (results_ctt rfl _ _ gb183 47 #[.int .i64 3, .string (a0.extract (a1 : Int).toNat ((wrap64 (x8_1 + 1)) : Int).toNat), .int .i64 4, .int .i64 0, .int .u64 0, .string (strOfNums x7_1), .int .i64 a1] (0, 0) _ rfl (by (with_reducible repeat (first | refine blk_drewN ?_ _ | refine blk_drew ?_ | refine blk_alloc ?_ _)); refine blk_put (cs := #[.int .i64 3, .string (a0.extract (a1 : Int).toNat ((wrap64 (x8_1 + 1)) : Int).toNat), .int .i64 4, .int .i64 0, .int .u64 0, .string (strOfNums x7_1), .int .i64 0]) ?_ 6 _ rfl; (with_reducible repeat (first | refine blk_drewN ?_ _ | refine blk_drew ?_ | refine blk_alloc ?_ _)); refine blk_put (cs := #[.int .i64 3, .string (a0.extract (a1 : Int).toNat ((wrap64 (x8_1 + 1)) : Int).toNat), .int .i64 4, .int .i64 0, .int .u64 0, .string (⟨#[]⟩ : ByteArray), .int .i64 0]) ?_ 5 _ rfl; (with_reducible repeat (first | refine blk_drewN ?_ _ | refine blk_drew ?_ | refine blk_alloc ?_ _)); refine blk_put (cs := #[.int .i64 3, .string (a0.extract (a1 : Int).toNat ((wrap64 (x8_1 + 1)) : Int).toNat), .int .i64 4, .int .i64 0, .int .u64 0, .string (⟨#[]⟩ : ByteArray), .int .i64 0]) ?_ 4 _ rfl; (with_reducible repeat (first | refine blk_drewN ?_ _ | refine blk_drew ?_ | refine blk_alloc ?_ _)); refine blk_put (cs := #[.int .i64 3, .string (a0.extract (a1 : Int).toNat ((wrap64 (x8_1 + 1)) : Int).toNat), .int .i64 4, .int .i64 0, .int .u64 0, .string (⟨#[]⟩ : ByteArray), .int .i64 0]) ?_ 3 _ rfl; (with_reducible repeat (first | refine blk_drewN ?_ _ | refine blk_drew ?_ | refine blk_alloc ?_ _)); refine blk_put (cs := #[.int .i64 3, .string (a0.extract (a1 : Int).toNat ((wrap64 (x8_1 + 1)) : Int).toNat), .int .i64 0, .int .i64 0, .int .u64 0, .string (⟨#[]⟩ : ByteArray), .int .i64 0]) ?_ 2 _ rfl; (with_reducible repeat (first | refine blk_drewN ?_ _ | refine blk_drew ?_ | refine blk_alloc ?_ _)); refine blk_put (cs := #[.int .i64 3, .string (⟨#[]⟩ : ByteArray), .int .i64 0, .int .i64 0, .int .u64 0, .string (⟨#[]⟩ : ByteArray), .int .i64 0]) ?_ 1 _ rfl; (with_reducible repeat (first | refine blk_drewN ?_ _ | refine blk_drew ?_ | refine blk_alloc ?_ _)); refine blk_put (cs := #[.int .i64 0, .string (⟨#[]⟩ : ByteArray), .int .i64 0, .int .i64 0, .int .u64 0, .string (⟨#[]⟩ : ByteArray), .int .i64 0]) ?_ 0 _ rfl; (with_reducible repeat (first | refine blk_drewN ?_ _ | refine blk_drew ?_ | refine blk_alloc ?_ _)); (repeat (first | (with_reducible refine blk_far ?_ NB183_191.out _) | (with_reducible refine blk_drewN ?_ _) | (with_reducible refine blk_drew ?_))); exact BK183.out) Tryd.underlying47 rfl (by kernel_rfl)) rfl ?_
              exact ⟨by first | rfl | (simp [errW_none, errW_some] <;> rfl) | (simp [*, errW_none, errW_some] <;> rfl), by repeat (first | (with_reducible first | exact HB.out | apply below_alloc | apply pw_below_drewN | apply below_drew1 | refine below_set ?_ GE183.out | refine below_set ?_ GE191.out) | exact HB.out)⟩
             ·rw [if_neg c40] at H
              have c40b0 : ((bt a0 a1) == 120) = false := beq_eq_false_iff_ne.mpr c40
              have c40b1 : ((bt a0 a1) != 120) = true := bne_iff_ne.mpr c40
              by_cases c47 : (x7_1.length : Int) = 8
              ·rw [if_pos c47] at H
               have c47b0 : ((x7_1.length : Int) == 8) = true := beq_iff_eq.mpr c47
               have c47b1 : ((x7_1.length : Int) != 8) = false := bne_eq_false_iff_eq.mpr c47
               clear c47
               replace H := Option.bind_eq_some_iff.mp H
               obtain ⟨t192, A480, H⟩ := H
               replace H : ((falseworkref1_Canon.f t192).bind fun t193 => (some (3, a0.extract (a1 : Int).toNat ((wrap64 (x8_1 + 1)) : Int).toNat, 3, 0, t193, (⟨#[]⟩ : ByteArray), a1, wrap64 (x8_1 + 1), true))) = some (r1, r2, r3, r4, r5, r6, r7, r8, r9) := H
               have A48 := Aside0.mk A480
               clear A480
               replace H := Option.bind_eq_some_iff.mp H
               obtain ⟨t193, A490, H⟩ := H
               replace H : (some (3, a0.extract (a1 : Int).toNat ((wrap64 (x8_1 + 1)) : Int).toNat, 3, 0, t193, (⟨#[]⟩ : ByteArray), a1, wrap64 (x8_1 + 1), true)) = some (r1, r2, r3, r4, r5, r6, r7, r8, r9) := H
               have A49 := Aside0.mk A490
               clear A490
               simp only [Option.some.injEq, Prod.mk.injEq] at H
               obtain ⟨rfl, rfl, rfl, rfl, rfl, rfl, rfl, rfl, rfl⟩ := H
               go_wp2_with (first | ((with_reducible refine gate_dst (N := 9) rfl ?_); refine box_event ?hg (N := 9) ?hd (cs := #[.int .i64 0, .string (⟨#[]⟩ : ByteArray), .int .i64 0, .int .i64 0, .int .u64 0, .string (⟨#[]⟩ : ByteArray), .int .i64 0]) (t := 47) ?hr ?_; (case hd => rfl); (case hg => rfl); (case hr => first | (go_simp; done) | (go_simp; rfl)); intro gb191 hg w50 hbox hb; have n0_ := Aside0.mk (Kd.R_below (by (with_reducible repeat (first | apply Kd.R_alloc | apply Kd.R_drewN | apply Kd.R_drew)); exact HO_7.out) hb); have n1_ := Aside0.mk (blk_below (g := gb183) (o := .cells #[.int .i64 0, .string (⟨#[]⟩ : ByteArray), .int .i64 0, .int .i64 0, .int .u64 0, .string (⟨#[]⟩ : ByteArray), .int .i64 0] 47 (0, 0)) (by (with_reducible repeat (first | refine blk_drewN ?_ _ | refine blk_drew ?_ | refine blk_alloc ?_ _)); exact BK183.out) hb); have n2_ := Aside0.mk (below_step (by repeat (first | (with_reducible first | exact HB.out | apply below_alloc | apply pw_below_drewN | apply below_drew1 | refine below_set ?_ GE183.out) | exact HB.out)) hb); have n3_ := Aside0.mk (hbox); have n4_ := Aside0.mk ((by rw [hg]; exact (below_size (by repeat (first | (with_reducible first | exact HB.out | apply below_alloc | apply pw_below_drewN | apply below_drew1 | refine below_set ?_ GE183.out) | exact HB.out))) : w.heap.size ≤ gb191)); have n5_ := Aside0.mk ((by rw [hg]; exact (below_size (by repeat (first | (with_reducible first | exact HB.out | apply below_alloc | apply pw_below_drewN | apply below_drew1 | refine below_set ?_ GE183.out) | exact HB.out))) : w.heap.size ≤ gb191)); have n6_ := Aside0.mk ((by rw [hg]; exact Nat.ne_of_lt (blk_lt (g := gb183) (o := .cells #[.int .i64 0, .string (⟨#[]⟩ : ByteArray), .int .i64 0, .int .i64 0, .int .u64 0, .string (⟨#[]⟩ : ByteArray), .int .i64 0] 47 (0, 0)) (by (with_reducible repeat (first | refine blk_drewN ?_ _ | refine blk_drew ?_ | refine blk_alloc ?_ _)); exact BK183.out)) : gb183 ≠ gb191)); have n7_ := Aside0.mk ((by rw [hg]; exact Nat.ne_of_gt (blk_lt (g := gb183) (o := .cells #[.int .i64 0, .string (⟨#[]⟩ : ByteArray), .int .i64 0, .int .i64 0, .int .u64 0, .string (⟨#[]⟩ : ByteArray), .int .i64 0] 47 (0, 0)) (by (with_reducible repeat (first | refine blk_drewN ?_ _ | refine blk_drew ?_ | refine blk_alloc ?_ _)); exact BK183.out)) : gb191 ≠ gb183)); clear HO_7; clear BK183; clear HB; have HO_7 := n0_; have BK183 := n1_; have HB := n2_; have BK191 := n3_; have GW191 := n4_; have GE191 := n5_; have NB183_191 := n6_; have NB191_183 := n7_; clear n0_ n1_ n2_ n3_ n4_ n5_ n6_ n7_; clear hb hbox hg; have hnb51 := NB191_183.out; have hnc51 := NB183_191.out; have hcz52_0 : w50.cell? ⟨gb191, 0, none⟩ = some (.int .i64 0) := (blk_cell BK191.out 0).trans rfl; have hcz52_1 : w50.cell? ⟨gb191, 1, none⟩ = some (.string (⟨#[]⟩ : ByteArray)) := (blk_cell BK191.out 1).trans rfl; have hcz52_2 : w50.cell? ⟨gb191, 2, none⟩ = some (.int .i64 0) := (blk_cell BK191.out 2).trans rfl; have hcz52_3 : w50.cell? ⟨gb191, 3, none⟩ = some (.int .i64 0) := (blk_cell BK191.out 3).trans rfl; have hcz52_4 : w50.cell? ⟨gb191, 4, none⟩ = some (.int .u64 0) := (blk_cell BK191.out 4).trans rfl; have hcz52_5 : w50.cell? ⟨gb191, 5, none⟩ = some (.string (⟨#[]⟩ : ByteArray)) := (blk_cell BK191.out 5).trans rfl; have hcz52_6 : w50.cell? ⟨gb191, 6, none⟩ = some (.int .i64 0) := (blk_cell BK191.out 6).trans rfl; have hfz52_0 := blk_frozen BK191.out 0; have hfz52_1 := blk_frozen BK191.out 1; have hfz52_2 := blk_frozen BK191.out 2; have hfz52_3 := blk_frozen BK191.out 3; have hfz52_4 := blk_frozen BK191.out 4; have hfz52_5 := blk_frozen BK191.out 5; have hfz52_6 := blk_frozen BK191.out 6; have p39 : 0 ≤ (a1 : Int) := of_decide_eq_true (by first | (with_reducible assumption) | assumption); have q39 : a1 < (a0.size : Int) := of_decide_eq_true (by first | (with_reducible assumption) | assumption); have hx39 := bt_at a0 a1; replace p39 := eq_true p39; replace q39 := eq_true q39; obtain ⟨Ao53, co53, eo53⟩ := Kd.R_slice HO_7.out; subst eo53; have hcv54 := own_string (P := Tryd.prog) Tryd.underlying34 Tryd.underlying5 Tryd.underlying9 (Kd.own_of_R HO_7.out)) | ((with_reducible refine gate_callee (f := 50) rfl ?_); refine goesL_ (some 87) rfl rfl Tryd.func50 (by kernel_rfl) rfl #[.string (strOfNums x7_1)] rfl (by (try simp only [List.map_toArray, List.map_cons, List.map_nil]); first | done | rfl | (simp only [List.length_drop, List.length_take]; rfl)) ?_; (with_reducible refine (falseworkref2_Number.calls kj27 (strOfNums x7_1) t192 _ A48.out).mono ?_); rintro e w' ⟨rfl, ⟨nd, rfl⟩⟩; refine ⟨_, rfl, ?_⟩) | ((with_reducible refine gate_callee (f := 18) rfl ?_); refine goesL_ (some 88) rfl rfl Tryd.func18 (by kernel_rfl) rfl #[.int .u64 t192] rfl (by (try simp only [List.map_toArray, List.map_cons, List.map_nil]); first | done | rfl | (simp only [List.length_drop, List.length_take]; rfl)) ?_; (with_reducible refine (falseworkref1_Canon.calls t192 t193 _ A49.out).mono ?_); rintro e w' ⟨rfl, ⟨nd, rfl⟩⟩; refine ⟨_, rfl, ?_⟩; have hcz55_0 : w50.cell? ⟨gb183, 0, none⟩ = some (.int .i64 0) := (blk_cell BK183.out 0).trans rfl; have hcz55_1 : w50.cell? ⟨gb183, 1, none⟩ = some (.string (⟨#[]⟩ : ByteArray)) := (blk_cell BK183.out 1).trans rfl; have hcz55_2 : w50.cell? ⟨gb183, 2, none⟩ = some (.int .i64 0) := (blk_cell BK183.out 2).trans rfl; have hcz55_3 : w50.cell? ⟨gb183, 3, none⟩ = some (.int .i64 0) := (blk_cell BK183.out 3).trans rfl; have hcz55_4 : w50.cell? ⟨gb183, 4, none⟩ = some (.int .u64 0) := (blk_cell BK183.out 4).trans rfl; have hcz55_5 : w50.cell? ⟨gb183, 5, none⟩ = some (.string (⟨#[]⟩ : ByteArray)) := (blk_cell BK183.out 5).trans rfl; have hcz55_6 : w50.cell? ⟨gb183, 6, none⟩ = some (.int .i64 0) := (blk_cell BK183.out 6).trans rfl; have hfz55_0 := blk_frozen BK183.out 0; have hfz55_1 := blk_frozen BK183.out 1; have hfz55_2 := blk_frozen BK183.out 2; have hfz55_3 := blk_frozen BK183.out 3; have hfz55_4 := blk_frozen BK183.out 4; have hfz55_5 := blk_frozen BK183.out 5; have hfz55_6 := blk_frozen BK183.out 6))
               obtain ⟨W1, hW1⟩ : ∃ W1 : World, W1 = (((((((w50).setCell ⟨gb191, 0, none⟩ (.int .i64 3)).setCell ⟨gb191, 1, none⟩ (.string (a0.extract (a1 : Int).toNat ((wrap64 (x8_1 + 1)) : Int).toNat))).setCell ⟨gb191, 2, none⟩ (.int .i64 0)).setCell ⟨gb191, 3, none⟩ (.int .i64 0)).setCell ⟨gb191, 4, none⟩ (.int .u64 0)).setCell ⟨gb191, 5, none⟩ (.string (⟨#[]⟩ : ByteArray))).setCell ⟨gb191, 6, none⟩ (.int .i64 a1) := ⟨_, rfl⟩
               rw [← hW1]
               have n0_ : W1.heap[gb191]? = some (.cells #[.int .i64 3, .string (a0.extract (a1 : Int).toNat ((wrap64 (x8_1 + 1)) : Int).toNat), .int .i64 0, .int .i64 0, .int .u64 0, .string (⟨#[]⟩ : ByteArray), .int .i64 a1] 47 (0, 0)) := by rw [hW1]; refine blk_put (cs := #[.int .i64 3, .string (a0.extract (a1 : Int).toNat ((wrap64 (x8_1 + 1)) : Int).toNat), .int .i64 0, .int .i64 0, .int .u64 0, .string (⟨#[]⟩ : ByteArray), .int .i64 0]) ?_ 6 _ rfl; refine blk_put (cs := #[.int .i64 3, .string (a0.extract (a1 : Int).toNat ((wrap64 (x8_1 + 1)) : Int).toNat), .int .i64 0, .int .i64 0, .int .u64 0, .string (⟨#[]⟩ : ByteArray), .int .i64 0]) ?_ 5 _ rfl; refine blk_put (cs := #[.int .i64 3, .string (a0.extract (a1 : Int).toNat ((wrap64 (x8_1 + 1)) : Int).toNat), .int .i64 0, .int .i64 0, .int .u64 0, .string (⟨#[]⟩ : ByteArray), .int .i64 0]) ?_ 4 _ rfl; refine blk_put (cs := #[.int .i64 3, .string (a0.extract (a1 : Int).toNat ((wrap64 (x8_1 + 1)) : Int).toNat), .int .i64 0, .int .i64 0, .int .u64 0, .string (⟨#[]⟩ : ByteArray), .int .i64 0]) ?_ 3 _ rfl; refine blk_put (cs := #[.int .i64 3, .string (a0.extract (a1 : Int).toNat ((wrap64 (x8_1 + 1)) : Int).toNat), .int .i64 0, .int .i64 0, .int .u64 0, .string (⟨#[]⟩ : ByteArray), .int .i64 0]) ?_ 2 _ rfl; refine blk_put (cs := #[.int .i64 3, .string (⟨#[]⟩ : ByteArray), .int .i64 0, .int .i64 0, .int .u64 0, .string (⟨#[]⟩ : ByteArray), .int .i64 0]) ?_ 1 _ rfl; refine blk_put (cs := #[.int .i64 0, .string (⟨#[]⟩ : ByteArray), .int .i64 0, .int .i64 0, .int .u64 0, .string (⟨#[]⟩ : ByteArray), .int .i64 0]) ?_ 0 _ rfl; exact BK191.out
               have n1_ : W1.heap[gb183]? = some (.cells #[.int .i64 0, .string (⟨#[]⟩ : ByteArray), .int .i64 0, .int .i64 0, .int .u64 0, .string (⟨#[]⟩ : ByteArray), .int .i64 0] 47 (0, 0)) := by rw [hW1]; (repeat (with_reducible refine blk_far ?_ NB183_191.out _)); exact BK183.out
               have n2_ : Below w.heap.size w W1 := by rw [hW1]; (repeat (with_reducible refine below_set ?_ GE191.out)); exact HB.out
               have hT_ := Kd.R_types HO_7.out BK191.out (by decide)
               have n3_ : (Kd.int .u8).R 5 W1 w.heap.size (fun k => True ∧ k ≠ gb191) (.slice Ao53 x7_1.length co53) x7_1 := by rw [hW1]; (repeat (with_reducible refine Kd.R_far ?_ (fun _ hk => hk.2) _)); exact hT_
               have n4_ := falseworkref16_hex.conv_far n3_
               clear hT_ n3_ hW1 HO_7 BK191 BK183 HB
               (try clear hcv54)
               (try clear hcz52_0)
               (try clear hcz52_1)
               (try clear hcz52_2)
               (try clear hcz52_3)
               (try clear hcz52_4)
               (try clear hcz52_5)
               (try clear hcz52_6)
               (try clear hcz55_0)
               (try clear hcz55_1)
               (try clear hcz55_2)
               (try clear hcz55_3)
               (try clear hcz55_4)
               (try clear hcz55_5)
               (try clear hcz55_6)
               (try clear hfz52_0)
               (try clear hfz52_1)
               (try clear hfz52_2)
               (try clear hfz52_3)
               (try clear hfz52_4)
               (try clear hfz52_5)
               (try clear hfz52_6)
               (try clear hfz55_0)
               (try clear hfz55_1)
               (try clear hfz55_2)
               (try clear hfz55_3)
               (try clear hfz55_4)
               (try clear hfz55_5)
               (try clear hfz55_6)
               have BK191 := Aside0.mk n0_
               have BK183 := Aside0.mk n1_
               have HB := Aside0.mk n2_
               clear n0_ n1_ n2_
               have hc191_0 : W1.cell? ⟨gb191, 0, none⟩ = some (.int .i64 3) := (blk_cell BK191.out 0).trans rfl
               have hf191_0 := blk_frozen BK191.out 0
               have hc191_1 : W1.cell? ⟨gb191, 1, none⟩ = some (.string (a0.extract (a1 : Int).toNat ((wrap64 (x8_1 + 1)) : Int).toNat)) := (blk_cell BK191.out 1).trans rfl
               have hf191_1 := blk_frozen BK191.out 1
               have hc191_2 : W1.cell? ⟨gb191, 2, none⟩ = some (.int .i64 0) := (blk_cell BK191.out 2).trans rfl
               have hf191_2 := blk_frozen BK191.out 2
               have hc191_3 : W1.cell? ⟨gb191, 3, none⟩ = some (.int .i64 0) := (blk_cell BK191.out 3).trans rfl
               have hf191_3 := blk_frozen BK191.out 3
               have hc191_4 : W1.cell? ⟨gb191, 4, none⟩ = some (.int .u64 0) := (blk_cell BK191.out 4).trans rfl
               have hf191_4 := blk_frozen BK191.out 4
               have hc191_5 : W1.cell? ⟨gb191, 5, none⟩ = some (.string (⟨#[]⟩ : ByteArray)) := (blk_cell BK191.out 5).trans rfl
               have hf191_5 := blk_frozen BK191.out 5
               have hc191_6 : W1.cell? ⟨gb191, 6, none⟩ = some (.int .i64 a1) := (blk_cell BK191.out 6).trans rfl
               have hf191_6 := blk_frozen BK191.out 6
               have hc183_0 : W1.cell? ⟨gb183, 0, none⟩ = some (.int .i64 0) := (blk_cell BK183.out 0).trans rfl
               have hf183_0 := blk_frozen BK183.out 0
               have hc183_1 : W1.cell? ⟨gb183, 1, none⟩ = some (.string (⟨#[]⟩ : ByteArray)) := (blk_cell BK183.out 1).trans rfl
               have hf183_1 := blk_frozen BK183.out 1
               have hc183_2 : W1.cell? ⟨gb183, 2, none⟩ = some (.int .i64 0) := (blk_cell BK183.out 2).trans rfl
               have hf183_2 := blk_frozen BK183.out 2
               have hc183_3 : W1.cell? ⟨gb183, 3, none⟩ = some (.int .i64 0) := (blk_cell BK183.out 3).trans rfl
               have hf183_3 := blk_frozen BK183.out 3
               have hc183_4 : W1.cell? ⟨gb183, 4, none⟩ = some (.int .u64 0) := (blk_cell BK183.out 4).trans rfl
               have hf183_4 := blk_frozen BK183.out 4
               have hc183_5 : W1.cell? ⟨gb183, 5, none⟩ = some (.string (⟨#[]⟩ : ByteArray)) := (blk_cell BK183.out 5).trans rfl
               have hf183_5 := blk_frozen BK183.out 5
               have hc183_6 : W1.cell? ⟨gb183, 6, none⟩ = some (.int .i64 0) := (blk_cell BK183.out 6).trans rfl
               have hf183_6 := blk_frozen BK183.out 6
               rw [n4_]
               dsimp only [Result.andThen]
               rw [Oper.upon_value]
               clear n4_
               go_wp2_with (first | ((with_reducible refine gate_callee (f := 50) rfl ?_); refine goesL_ (some 87) rfl rfl Tryd.func50 (by kernel_rfl) rfl #[.string (strOfNums x7_1)] rfl (by (try simp only [List.map_toArray, List.map_cons, List.map_nil]); first | done | rfl | (simp only [List.length_drop, List.length_take]; rfl)) ?_; (with_reducible refine (falseworkref2_Number.calls kj27 (strOfNums x7_1) t192 _ A48.out).mono ?_); rintro e w' ⟨rfl, ⟨nd, rfl⟩⟩; refine ⟨_, rfl, ?_⟩) | ((with_reducible refine gate_callee (f := 18) rfl ?_); refine goesL_ (some 88) rfl rfl Tryd.func18 (by kernel_rfl) rfl #[.int .u64 t192] rfl (by (try simp only [List.map_toArray, List.map_cons, List.map_nil]); first | done | rfl | (simp only [List.length_drop, List.length_take]; rfl)) ?_; (with_reducible refine (falseworkref1_Canon.calls t192 t193 _ A49.out).mono ?_); rintro e w' ⟨rfl, ⟨nd, rfl⟩⟩; refine ⟨_, rfl, ?_⟩))
               refine bodyPost_ret (results_ctt rfl _ _ gb183 47 #[.int .i64 3, .string (a0.extract (a1 : Int).toNat ((wrap64 (x8_1 + 1)) : Int).toNat), .int .i64 3, .int .i64 0, .int .u64 t193, .string (⟨#[]⟩ : ByteArray), .int .i64 a1] (0, 0) _ rfl (by (with_reducible repeat (first | refine blk_drewN ?_ _ | refine blk_drew ?_ | refine blk_alloc ?_ _)); refine blk_put (cs := #[.int .i64 3, .string (a0.extract (a1 : Int).toNat ((wrap64 (x8_1 + 1)) : Int).toNat), .int .i64 3, .int .i64 0, .int .u64 t193, .string (⟨#[]⟩ : ByteArray), .int .i64 0]) ?_ 6 _ rfl; (with_reducible repeat (first | refine blk_drewN ?_ _ | refine blk_drew ?_ | refine blk_alloc ?_ _)); refine blk_put (cs := #[.int .i64 3, .string (a0.extract (a1 : Int).toNat ((wrap64 (x8_1 + 1)) : Int).toNat), .int .i64 3, .int .i64 0, .int .u64 t193, .string (⟨#[]⟩ : ByteArray), .int .i64 0]) ?_ 5 _ rfl; (with_reducible repeat (first | refine blk_drewN ?_ _ | refine blk_drew ?_ | refine blk_alloc ?_ _)); refine blk_put (cs := #[.int .i64 3, .string (a0.extract (a1 : Int).toNat ((wrap64 (x8_1 + 1)) : Int).toNat), .int .i64 3, .int .i64 0, .int .u64 0, .string (⟨#[]⟩ : ByteArray), .int .i64 0]) ?_ 4 _ rfl; (with_reducible repeat (first | refine blk_drewN ?_ _ | refine blk_drew ?_ | refine blk_alloc ?_ _)); refine blk_put (cs := #[.int .i64 3, .string (a0.extract (a1 : Int).toNat ((wrap64 (x8_1 + 1)) : Int).toNat), .int .i64 3, .int .i64 0, .int .u64 0, .string (⟨#[]⟩ : ByteArray), .int .i64 0]) ?_ 3 _ rfl; (with_reducible repeat (first | refine blk_drewN ?_ _ | refine blk_drew ?_ | refine blk_alloc ?_ _)); refine blk_put (cs := #[.int .i64 3, .string (a0.extract (a1 : Int).toNat ((wrap64 (x8_1 + 1)) : Int).toNat), .int .i64 0, .int .i64 0, .int .u64 0, .string (⟨#[]⟩ : ByteArray), .int .i64 0]) ?_ 2 _ rfl; (with_reducible repeat (first | refine blk_drewN ?_ _ | refine blk_drew ?_ | refine blk_alloc ?_ _)); refine blk_put (cs := #[.int .i64 3, .string (⟨#[]⟩ : ByteArray), .int .i64 0, .int .i64 0, .int .u64 0, .string (⟨#[]⟩ : ByteArray), .int .i64 0]) ?_ 1 _ rfl; (with_reducible repeat (first | refine blk_drewN ?_ _ | refine blk_drew ?_ | refine blk_alloc ?_ _)); refine blk_put (cs := #[.int .i64 0, .string (⟨#[]⟩ : ByteArray), .int .i64 0, .int .i64 0, .int .u64 0, .string (⟨#[]⟩ : ByteArray), .int .i64 0]) ?_ 0 _ rfl; (with_reducible repeat (first | refine blk_drewN ?_ _ | refine blk_drew ?_ | refine blk_alloc ?_ _)); (repeat (first | (with_reducible refine blk_far ?_ NB183_191.out _) | (with_reducible refine blk_drewN ?_ _) | (with_reducible refine blk_drew ?_))); exact BK183.out) Tryd.underlying47 rfl (by kernel_rfl)) rfl ?_
               exact ⟨by first | rfl | (simp [errW_none, errW_some] <;> rfl) | (simp [*, errW_none, errW_some] <;> rfl), by repeat (first | (with_reducible first | exact HB.out | apply below_alloc | apply pw_below_drewN | apply below_drew1 | refine below_set ?_ GE183.out | refine below_set ?_ GE191.out) | exact HB.out)⟩
              ·rw [if_neg c47] at H
               have c47b0 : ((x7_1.length : Int) == 8) = false := beq_eq_false_iff_ne.mpr c47
               have c47b1 : ((x7_1.length : Int) != 8) = true := bne_iff_ne.mpr c47
               simp only [Option.some.injEq, Prod.mk.injEq] at H
               obtain ⟨rfl, rfl, rfl, rfl, rfl, rfl, rfl, rfl, rfl⟩ := H
               go_wp2_with (first | ((with_reducible refine gate_dst (N := 9) rfl ?_); refine box_event ?hg (N := 9) ?hd (cs := #[.int .i64 0, .string (⟨#[]⟩ : ByteArray), .int .i64 0, .int .i64 0, .int .u64 0, .string (⟨#[]⟩ : ByteArray), .int .i64 0]) (t := 47) ?hr ?_; (case hd => rfl); (case hg => rfl); (case hr => first | (go_simp; done) | (go_simp; rfl)); intro gb191 hg w56 hbox hb; have n0_ := Aside0.mk (Kd.R_below (by (with_reducible repeat (first | apply Kd.R_alloc | apply Kd.R_drewN | apply Kd.R_drew)); exact HO_7.out) hb); have n1_ := Aside0.mk (blk_below (g := gb183) (o := .cells #[.int .i64 0, .string (⟨#[]⟩ : ByteArray), .int .i64 0, .int .i64 0, .int .u64 0, .string (⟨#[]⟩ : ByteArray), .int .i64 0] 47 (0, 0)) (by (with_reducible repeat (first | refine blk_drewN ?_ _ | refine blk_drew ?_ | refine blk_alloc ?_ _)); exact BK183.out) hb); have n2_ := Aside0.mk (below_step (by repeat (first | (with_reducible first | exact HB.out | apply below_alloc | apply pw_below_drewN | apply below_drew1 | refine below_set ?_ GE183.out) | exact HB.out)) hb); have n3_ := Aside0.mk (hbox); have n4_ := Aside0.mk ((by rw [hg]; exact (below_size (by repeat (first | (with_reducible first | exact HB.out | apply below_alloc | apply pw_below_drewN | apply below_drew1 | refine below_set ?_ GE183.out) | exact HB.out))) : w.heap.size ≤ gb191)); have n5_ := Aside0.mk ((by rw [hg]; exact (below_size (by repeat (first | (with_reducible first | exact HB.out | apply below_alloc | apply pw_below_drewN | apply below_drew1 | refine below_set ?_ GE183.out) | exact HB.out))) : w.heap.size ≤ gb191)); have n6_ := Aside0.mk ((by rw [hg]; exact Nat.ne_of_lt (blk_lt (g := gb183) (o := .cells #[.int .i64 0, .string (⟨#[]⟩ : ByteArray), .int .i64 0, .int .i64 0, .int .u64 0, .string (⟨#[]⟩ : ByteArray), .int .i64 0] 47 (0, 0)) (by (with_reducible repeat (first | refine blk_drewN ?_ _ | refine blk_drew ?_ | refine blk_alloc ?_ _)); exact BK183.out)) : gb183 ≠ gb191)); have n7_ := Aside0.mk ((by rw [hg]; exact Nat.ne_of_gt (blk_lt (g := gb183) (o := .cells #[.int .i64 0, .string (⟨#[]⟩ : ByteArray), .int .i64 0, .int .i64 0, .int .u64 0, .string (⟨#[]⟩ : ByteArray), .int .i64 0] 47 (0, 0)) (by (with_reducible repeat (first | refine blk_drewN ?_ _ | refine blk_drew ?_ | refine blk_alloc ?_ _)); exact BK183.out)) : gb191 ≠ gb183)); clear HO_7; clear BK183; clear HB; have HO_7 := n0_; have BK183 := n1_; have HB := n2_; have BK191 := n3_; have GW191 := n4_; have GE191 := n5_; have NB183_191 := n6_; have NB191_183 := n7_; clear n0_ n1_ n2_ n3_ n4_ n5_ n6_ n7_; clear hb hbox hg; have hnb57 := NB191_183.out; have hnc57 := NB183_191.out; have hcz58_0 : w56.cell? ⟨gb191, 0, none⟩ = some (.int .i64 0) := (blk_cell BK191.out 0).trans rfl; have hcz58_1 : w56.cell? ⟨gb191, 1, none⟩ = some (.string (⟨#[]⟩ : ByteArray)) := (blk_cell BK191.out 1).trans rfl; have hcz58_2 : w56.cell? ⟨gb191, 2, none⟩ = some (.int .i64 0) := (blk_cell BK191.out 2).trans rfl; have hcz58_3 : w56.cell? ⟨gb191, 3, none⟩ = some (.int .i64 0) := (blk_cell BK191.out 3).trans rfl; have hcz58_4 : w56.cell? ⟨gb191, 4, none⟩ = some (.int .u64 0) := (blk_cell BK191.out 4).trans rfl; have hcz58_5 : w56.cell? ⟨gb191, 5, none⟩ = some (.string (⟨#[]⟩ : ByteArray)) := (blk_cell BK191.out 5).trans rfl; have hcz58_6 : w56.cell? ⟨gb191, 6, none⟩ = some (.int .i64 0) := (blk_cell BK191.out 6).trans rfl; have hfz58_0 := blk_frozen BK191.out 0; have hfz58_1 := blk_frozen BK191.out 1; have hfz58_2 := blk_frozen BK191.out 2; have hfz58_3 := blk_frozen BK191.out 3; have hfz58_4 := blk_frozen BK191.out 4; have hfz58_5 := blk_frozen BK191.out 5; have hfz58_6 := blk_frozen BK191.out 6; have p39 : 0 ≤ (a1 : Int) := of_decide_eq_true (by first | (with_reducible assumption) | assumption); have q39 : a1 < (a0.size : Int) := of_decide_eq_true (by first | (with_reducible assumption) | assumption); have hx39 := bt_at a0 a1; replace p39 := eq_true p39; replace q39 := eq_true q39; obtain ⟨Ao59, co59, eo59⟩ := Kd.R_slice HO_7.out; subst eo59; have hcz60_0 : w56.cell? ⟨gb183, 0, none⟩ = some (.int .i64 0) := (blk_cell BK183.out 0).trans rfl; have hcz60_1 : w56.cell? ⟨gb183, 1, none⟩ = some (.string (⟨#[]⟩ : ByteArray)) := (blk_cell BK183.out 1).trans rfl; have hcz60_2 : w56.cell? ⟨gb183, 2, none⟩ = some (.int .i64 0) := (blk_cell BK183.out 2).trans rfl; have hcz60_3 : w56.cell? ⟨gb183, 3, none⟩ = some (.int .i64 0) := (blk_cell BK183.out 3).trans rfl; have hcz60_4 : w56.cell? ⟨gb183, 4, none⟩ = some (.int .u64 0) := (blk_cell BK183.out 4).trans rfl; have hcz60_5 : w56.cell? ⟨gb183, 5, none⟩ = some (.string (⟨#[]⟩ : ByteArray)) := (blk_cell BK183.out 5).trans rfl; have hcz60_6 : w56.cell? ⟨gb183, 6, none⟩ = some (.int .i64 0) := (blk_cell BK183.out 6).trans rfl; have hfz60_0 := blk_frozen BK183.out 0; have hfz60_1 := blk_frozen BK183.out 1; have hfz60_2 := blk_frozen BK183.out 2; have hfz60_3 := blk_frozen BK183.out 3; have hfz60_4 := blk_frozen BK183.out 4; have hfz60_5 := blk_frozen BK183.out 5; have hfz60_6 := blk_frozen BK183.out 6))
               refine bodyPost_ret (results_ctt rfl _ _ gb183 47 #[.int .i64 0, .string (⟨#[]⟩ : ByteArray), .int .i64 0, .int .i64 0, .int .u64 0, .string (⟨#[]⟩ : ByteArray), .int .i64 0] (0, 0) _ rfl (by (with_reducible repeat (first | refine blk_drewN ?_ _ | refine blk_drew ?_ | refine blk_alloc ?_ _)); refine blk_put (cs := #[.int .i64 0, .string (⟨#[]⟩ : ByteArray), .int .i64 0, .int .i64 0, .int .u64 0, .string (⟨#[]⟩ : ByteArray), .int .i64 0]) ?_ 6 _ rfl; (with_reducible repeat (first | refine blk_drewN ?_ _ | refine blk_drew ?_ | refine blk_alloc ?_ _)); refine blk_put (cs := #[.int .i64 0, .string (⟨#[]⟩ : ByteArray), .int .i64 0, .int .i64 0, .int .u64 0, .string (⟨#[]⟩ : ByteArray), .int .i64 0]) ?_ 5 _ rfl; (with_reducible repeat (first | refine blk_drewN ?_ _ | refine blk_drew ?_ | refine blk_alloc ?_ _)); refine blk_put (cs := #[.int .i64 0, .string (⟨#[]⟩ : ByteArray), .int .i64 0, .int .i64 0, .int .u64 0, .string (⟨#[]⟩ : ByteArray), .int .i64 0]) ?_ 4 _ rfl; (with_reducible repeat (first | refine blk_drewN ?_ _ | refine blk_drew ?_ | refine blk_alloc ?_ _)); refine blk_put (cs := #[.int .i64 0, .string (⟨#[]⟩ : ByteArray), .int .i64 0, .int .i64 0, .int .u64 0, .string (⟨#[]⟩ : ByteArray), .int .i64 0]) ?_ 3 _ rfl; (with_reducible repeat (first | refine blk_drewN ?_ _ | refine blk_drew ?_ | refine blk_alloc ?_ _)); refine blk_put (cs := #[.int .i64 0, .string (⟨#[]⟩ : ByteArray), .int .i64 0, .int .i64 0, .int .u64 0, .string (⟨#[]⟩ : ByteArray), .int .i64 0]) ?_ 2 _ rfl; (with_reducible repeat (first | refine blk_drewN ?_ _ | refine blk_drew ?_ | refine blk_alloc ?_ _)); refine blk_put (cs := #[.int .i64 0, .string (⟨#[]⟩ : ByteArray), .int .i64 0, .int .i64 0, .int .u64 0, .string (⟨#[]⟩ : ByteArray), .int .i64 0]) ?_ 1 _ rfl; (with_reducible repeat (first | refine blk_drewN ?_ _ | refine blk_drew ?_ | refine blk_alloc ?_ _)); refine blk_put (cs := #[.int .i64 0, .string (⟨#[]⟩ : ByteArray), .int .i64 0, .int .i64 0, .int .u64 0, .string (⟨#[]⟩ : ByteArray), .int .i64 0]) ?_ 0 _ rfl; (with_reducible repeat (first | refine blk_drewN ?_ _ | refine blk_drew ?_ | refine blk_alloc ?_ _)); refine blk_far ?_ NB183_191.out _; (with_reducible repeat (first | refine blk_drewN ?_ _ | refine blk_drew ?_ | refine blk_alloc ?_ _)); refine blk_far ?_ NB183_191.out _; (with_reducible repeat (first | refine blk_drewN ?_ _ | refine blk_drew ?_ | refine blk_alloc ?_ _)); refine blk_far ?_ NB183_191.out _; (with_reducible repeat (first | refine blk_drewN ?_ _ | refine blk_drew ?_ | refine blk_alloc ?_ _)); refine blk_far ?_ NB183_191.out _; (with_reducible repeat (first | refine blk_drewN ?_ _ | refine blk_drew ?_ | refine blk_alloc ?_ _)); refine blk_far ?_ NB183_191.out _; (with_reducible repeat (first | refine blk_drewN ?_ _ | refine blk_drew ?_ | refine blk_alloc ?_ _)); refine blk_far ?_ NB183_191.out _; (with_reducible repeat (first | refine blk_drewN ?_ _ | refine blk_drew ?_ | refine blk_alloc ?_ _)); refine blk_far ?_ NB183_191.out _; (with_reducible repeat (first | refine blk_drewN ?_ _ | refine blk_drew ?_ | refine blk_alloc ?_ _)); exact BK183.out) Tryd.underlying47 rfl (by kernel_rfl)) rfl ?_
               exact ⟨by first | rfl | (simp [errW_none, errW_some] <;> rfl) | (simp [*, errW_none, errW_some] <;> rfl), by repeat (first | (with_reducible first | exact HB.out | apply below_alloc | apply pw_below_drewN | apply below_drew1 | refine below_set ?_ GE183.out | refine below_set ?_ GE191.out) | exact HB.out)⟩
            ·rw [if_neg c38] at H
             exact absurd H (by simp)
           ·rw [if_neg c37] at H
            exact absurd H (by simp)
          ·rw [if_neg c36] at H
           exact absurd H (by simp)
         ·rw [if_neg c35] at H
          exact absurd H (by simp)
end Go.Proofs.YtjehfmimbbdnkaaDoor.L
namespace Go.Proofs.YtjehfmimbbdnkaaDoor.L
open Go.RowKit Go.Proofs.YtjehfmimbbdnkaaDoorW.PrintWords Go.Proofs.YtjehfmimbbdnkaaDoorW.PrintLast Go.Proofs.YtjehfmimbbdnkaaDoorW.PrintMore
attribute [local go_sem] max2_int min2_int max_two min_two max_three min_three max_four min_four
set_option linter.unusedVariables false
set_option linter.unusedSimpArgs false
def falseworkref16_low.f (a0 : Int) : Option (Bool) := if a0 ≥ 97 then (some (decide (a0 ≤ 122))) else (some false)
set_option maxHeartbeats 8000000 in
set_option maxRecDepth 100000 in
theorem falseworkref16_low.calls (a0 : Int) (r : Bool) (w : World) (h : falseworkref16_low.f a0 = some r) :
  Calls Tryd.prog 34 #[.int .u8 a0] w fun e w' => e = .returned (.bool r) ∧ Drawn0 w w' := by
 have H : (if a0 ≥ 97 then (some (decide (a0 ≤ 122))) else (some false)) = some r := h
 clear h
 by_cases c2 : a0 ≥ 97
 ·rw [if_pos c2] at H
  have c2b0 : decide (97 ≤ a0) = true := decide_eq_true c2
  clear c2
  obtain rfl := Option.some.inj H
  go_enter Tryd.func34, Tryd.ntmps34
  go_wp2
  go_ret
  exact ⟨by first | rfl | (simp; done) | (simp [*]; done), by repeat (first | exact Drawn0.refl _ | apply Drawn0.step)⟩
 ·rw [if_neg c2] at H
  have c2b0 : decide (97 ≤ a0) = false := decide_eq_false c2
  clear c2
  obtain rfl := Option.some.inj H
  go_enter Tryd.func34, Tryd.ntmps34
  go_wp2
  go_ret
  exact ⟨by first | rfl | (simp; done) | (simp [*]; done), by repeat (first | exact Drawn0.refl _ | apply Drawn0.step)⟩
end Go.Proofs.YtjehfmimbbdnkaaDoor.L
namespace Go.Proofs.YtjehfmimbbdnkaaDoor.L
open Go.RowKit Go.Proofs.YtjehfmimbbdnkaaDoorW.PrintWords Go.Proofs.YtjehfmimbbdnkaaDoorW.PrintLast Go.Proofs.YtjehfmimbbdnkaaDoorW.PrintMore
attribute [local go_sem] max2_int min2_int max_two min_two max_three min_three max_four min_four
set_option linter.unusedVariables false
set_option linter.unusedSimpArgs false
def falseworkref16_Letter.f (a0 : Int) : Option (Bool) := (falseworkref16_low.f a0).bind fun t194 => (if t194 = true then (some true) else ((falseworkref16_digit.f a0).bind fun t195 => (if t195 = true then (some true) else (some (a0 == 95)))))
set_option maxHeartbeats 8000000 in
set_option maxRecDepth 100000 in
theorem falseworkref16_Letter.calls (a0 : Int) (r : Bool) (w : World) (h : falseworkref16_Letter.f a0 = some r) :
  Calls Tryd.prog 35 #[.int .u8 a0] w fun e w' => e = .returned (.bool r) ∧ Drawn0 w w' := by
 have H : ((falseworkref16_low.f a0).bind fun t194 => (if t194 = true then (some true) else ((falseworkref16_digit.f a0).bind fun t195 => (if t195 = true then (some true) else (some (a0 == 95)))))) = some r := h
 clear h
 replace H := Option.bind_eq_some_iff.mp H
 obtain ⟨t194, A20, H⟩ := H
 replace H : (if t194 = true then (some true) else ((falseworkref16_digit.f a0).bind fun t195 => (if t195 = true then (some true) else (some (a0 == 95))))) = some r := H
 have A2 := Aside0.mk A20
 clear A20
 by_cases c3 : t194 = true
 ·subst c3
  have H1 : (some true) = some r := by rw [if_pos rfl] at H; exact H
  clear H
  have H := H1
  clear H1
  obtain rfl := Option.some.inj H
  go_enter Tryd.func35, Tryd.ntmps35
  go_wp2_with (first | ((with_reducible refine gate_callee (f := 34) rfl ?_); refine goesL_ (some 4) rfl rfl Tryd.func34 (by kernel_rfl) rfl #[.int .u8 a0] rfl (by (try simp only [List.map_toArray, List.map_cons, List.map_nil]); first | done | rfl | (simp only [List.length_drop, List.length_take]; rfl)) ?_; (with_reducible refine (falseworkref16_low.calls a0 true _ A2.out).mono ?_); rintro e w' ⟨rfl, ⟨nd, rfl⟩⟩; refine ⟨_, rfl, ?_⟩))
  go_ret
  exact ⟨by first | rfl | (simp; done) | (simp [*]; done), by repeat (first | exact Drawn0.refl _ | apply Drawn0.step)⟩
 ·replace c3 := Bool.eq_false_iff.mpr c3
  subst c3
  have H1 : ((falseworkref16_digit.f a0).bind fun t195 => (if t195 = true then (some true) else (some (a0 == 95)))) = some r := by rw [if_neg (show ¬ (false = true) by decide)] at H; exact H
  clear H
  have H := H1
  clear H1
  replace H := Option.bind_eq_some_iff.mp H
  obtain ⟨t195, A40, H⟩ := H
  replace H : (if t195 = true then (some true) else (some (a0 == 95))) = some r := H
  have A4 := Aside0.mk A40
  clear A40
  by_cases c5 : t195 = true
  ·subst c5
   have H1 : (some true) = some r := by rw [if_pos rfl] at H; exact H
   clear H
   have H := H1
   clear H1
   obtain rfl := Option.some.inj H
   go_enter Tryd.func35, Tryd.ntmps35
   go_wp2_with (first | ((with_reducible refine gate_callee (f := 34) rfl ?_); refine goesL_ (some 4) rfl rfl Tryd.func34 (by kernel_rfl) rfl #[.int .u8 a0] rfl (by (try simp only [List.map_toArray, List.map_cons, List.map_nil]); first | done | rfl | (simp only [List.length_drop, List.length_take]; rfl)) ?_; (with_reducible refine (falseworkref16_low.calls a0 false _ A2.out).mono ?_); rintro e w' ⟨rfl, ⟨nd, rfl⟩⟩; refine ⟨_, rfl, ?_⟩) | (go_at_call 36; (with_reducible refine (falseworkref16_digit.calls a0 true _ A4.out).mono ?_); rintro e w' ⟨rfl, ⟨nd, rfl⟩⟩))
   go_ret
   exact ⟨by first | rfl | (simp; done) | (simp [*]; done), by repeat (first | exact Drawn0.refl _ | apply Drawn0.step)⟩
  ·replace c5 := Bool.eq_false_iff.mpr c5
   subst c5
   have H1 : (some (a0 == 95)) = some r := by rw [if_neg (show ¬ (false = true) by decide)] at H; exact H
   clear H
   have H := H1
   clear H1
   obtain rfl := Option.some.inj H
   go_enter Tryd.func35, Tryd.ntmps35
   go_wp2_with (first | ((with_reducible refine gate_callee (f := 34) rfl ?_); refine goesL_ (some 4) rfl rfl Tryd.func34 (by kernel_rfl) rfl #[.int .u8 a0] rfl (by (try simp only [List.map_toArray, List.map_cons, List.map_nil]); first | done | rfl | (simp only [List.length_drop, List.length_take]; rfl)) ?_; (with_reducible refine (falseworkref16_low.calls a0 false _ A2.out).mono ?_); rintro e w' ⟨rfl, ⟨nd, rfl⟩⟩; refine ⟨_, rfl, ?_⟩) | (go_at_call 36; (with_reducible refine (falseworkref16_digit.calls a0 false _ A4.out).mono ?_); rintro e w' ⟨rfl, ⟨nd, rfl⟩⟩))
   go_ret
   exact ⟨by first | rfl | (simp; done) | (simp [*]; done), by repeat (first | exact Drawn0.refl _ | apply Drawn0.step)⟩
end Go.Proofs.YtjehfmimbbdnkaaDoor.L
namespace Go.Proofs.YtjehfmimbbdnkaaDoor.L
open Go.RowKit Go.Proofs.YtjehfmimbbdnkaaDoorW.PrintWords Go.Proofs.YtjehfmimbbdnkaaDoorW.PrintLast Go.Proofs.YtjehfmimbbdnkaaDoorW.PrintMore
attribute [local go_sem] max2_int min2_int max_two min_two max_three min_three max_four min_four
set_option linter.unusedVariables false
set_option linter.unusedSimpArgs false
mutual
def falseworkref16_number.j0 : Nat → ByteArray → Int → Int → Bool → Option (Int × ByteArray × Int × Int × Int × ByteArray × Int × Int × Bool)
 | 0, _, _, _, _ => none
 | k + 1, x0, x1, x7, x8 => falseworkref16_number.l0 k x0 x1 x7 x8 x7 0
def falseworkref16_number.l0 : Nat → ByteArray → Int → Int → Bool → Int → Int → Option (Int × ByteArray × Int × Int × Int × ByteArray × Int × Int × Bool)
 | 0, _, _, _, _, _, _ => none
 | k + 1, x0, x1, x7, x8, x9, x10 => if x7 < (x0.size : Int) then (if 0 ≤ x7 then ((falseworkref16_digit.f (bt x0 x7)).bind fun t197 => (falseworkref16_number.j2 k x0 x1 x7 x8 x9 x10 t197)) else (none)) else (falseworkref16_number.j2 k x0 x1 x7 x8 x9 x10 false)
def falseworkref16_number.j2 : Nat → ByteArray → Int → Int → Bool → Int → Int → Bool → Option (Int × ByteArray × Int × Int × Int × ByteArray × Int × Int × Bool)
 | 0, _, _, _, _, _, _, _ => none
 | k + 1, x0, x1, x7, x8, x9, x10, x30 => if x30 = true then (if 0 ≤ x7 then (if x7 < (x0.size : Int) then (if x10 < (wrap64 (Int.tdiv ((-9223372036854775808) + (((bt x0 x7) - 48) % 256)) 10)) then (some (0, (⟨#[]⟩ : ByteArray), 0, 0, 0, (⟨#[]⟩ : ByteArray), 0, 0, false)) else (if x10 = (wrap64 (Int.tdiv ((-9223372036854775808) + (((bt x0 x7) - 48) % 256)) 10)) then (if (wrap64 ((wrap64 (10 * x10)) - (((bt x0 x7) - 48) % 256))) > 0 then (some (0, (⟨#[]⟩ : ByteArray), 0, 0, 0, (⟨#[]⟩ : ByteArray), 0, 0, false)) else (falseworkref16_number.l0 k x0 x1 (wrap64 (x7 + 1)) x8 x9 (wrap64 ((wrap64 (10 * x10)) - (((bt x0 x7) - 48) % 256))))) else (falseworkref16_number.l0 k x0 x1 (wrap64 (x7 + 1)) x8 x9 (wrap64 ((wrap64 (10 * x10)) - (((bt x0 x7) - 48) % 256)))))) else (none)) else (none)) else (if x7 = x9 then (falseworkref16_number.j3 k x0 x1 x7 x8 x10 true) else (if x7 > (wrap64 (x9 + 1)) then (if 0 ≤ x9 then (if x9 < (x0.size : Int) then (if (bt x0 x9) = 48 then (falseworkref16_number.j3 k x0 x1 x7 x8 x10 true) else (if x8 = true then (if x10 = 0 then (falseworkref16_number.j3 k x0 x1 x7 x8 x10 true) else (if x7 < (x0.size : Int) then (if 0 ≤ x7 then ((falseworkref16_low.f (bt x0 x7)).bind fun t198 => (if t198 = true then (falseworkref16_number.j3 k x0 x1 x7 x8 x10 true) else (falseworkref16_number.j3 k x0 x1 x7 x8 x10 ((bt x0 x7) == 95)))) else (none)) else (falseworkref16_number.j3 k x0 x1 x7 x8 x10 false))) else (if x10 = (-9223372036854775808) then (falseworkref16_number.j3 k x0 x1 x7 x8 x10 true) else (if x7 < (x0.size : Int) then (if 0 ≤ x7 then ((falseworkref16_low.f (bt x0 x7)).bind fun t199 => (if t199 = true then (falseworkref16_number.j3 k x0 x1 x7 x8 x10 true) else (falseworkref16_number.j3 k x0 x1 x7 x8 x10 ((bt x0 x7) == 95)))) else (none)) else (falseworkref16_number.j3 k x0 x1 x7 x8 x10 false))))) else (none)) else (none)) else (if x8 = true then (if x10 = 0 then (falseworkref16_number.j3 k x0 x1 x7 x8 x10 true) else (if x7 < (x0.size : Int) then (if 0 ≤ x7 then ((falseworkref16_low.f (bt x0 x7)).bind fun t200 => (if t200 = true then (falseworkref16_number.j3 k x0 x1 x7 x8 x10 true) else (falseworkref16_number.j3 k x0 x1 x7 x8 x10 ((bt x0 x7) == 95)))) else (none)) else (falseworkref16_number.j3 k x0 x1 x7 x8 x10 false))) else (if x10 = (-9223372036854775808) then (falseworkref16_number.j3 k x0 x1 x7 x8 x10 true) else (if x7 < (x0.size : Int) then (if 0 ≤ x7 then ((falseworkref16_low.f (bt x0 x7)).bind fun t201 => (if t201 = true then (falseworkref16_number.j3 k x0 x1 x7 x8 x10 true) else (falseworkref16_number.j3 k x0 x1 x7 x8 x10 ((bt x0 x7) == 95)))) else (none)) else (falseworkref16_number.j3 k x0 x1 x7 x8 x10 false))))))
def falseworkref16_number.j3 : Nat → ByteArray → Int → Int → Bool → Int → Bool → Option (Int × ByteArray × Int × Int × Int × ByteArray × Int × Int × Bool)
 | 0, _, _, _, _, _, _ => none
 | k + 1, x0, x1, x7, x8, x10, x109 => if x109 = true then (some (0, (⟨#[]⟩ : ByteArray), 0, 0, 0, (⟨#[]⟩ : ByteArray), 0, 0, false)) else (if x8 = true then (if 0 ≤ x1 then (if x1 ≤ x7 then (if x7 ≤ (x0.size : Int) then (some (3, x0.extract (x1 : Int).toNat (x7 : Int).toNat, 2, x10, 0, (⟨#[]⟩ : ByteArray), x1, x7, true)) else (none)) else (none)) else (none)) else (if 0 ≤ x1 then (if x1 ≤ x7 then (if x7 ≤ (x0.size : Int) then (some (3, x0.extract (x1 : Int).toNat (x7 : Int).toNat, 2, wrap64 (-x10), 0, (⟨#[]⟩ : ByteArray), x1, x7, true)) else (none)) else (none)) else (none)))
end
def falseworkref16_number.f (k : Nat) (a0 : ByteArray) (a1 : Int) : Option (Int × ByteArray × Int × Int × Int × ByteArray × Int × Int × Bool) := if 0 ≤ a1 then (if a1 < (a0.size : Int) then (if (bt a0 a1) = 45 then (falseworkref16_number.j0 k a0 a1 (wrap64 (a1 + 1)) ((bt a0 a1) == 45)) else (falseworkref16_number.j0 k a0 a1 a1 ((bt a0 a1) == 45))) else (none)) else (none)
theorem falseworkref16_number.mono_l : ∀ k, (∀ y0 y1 y2 y3, LeO (falseworkref16_number.j0 k y0 y1 y2 y3) (falseworkref16_number.j0 (k + 1) y0 y1 y2 y3)) ∧ (∀ y0 y1 y2 y3 y4 y5, LeO (falseworkref16_number.l0 k y0 y1 y2 y3 y4 y5) (falseworkref16_number.l0 (k + 1) y0 y1 y2 y3 y4 y5)) ∧ (∀ y0 y1 y2 y3 y4 y5 y6, LeO (falseworkref16_number.j2 k y0 y1 y2 y3 y4 y5 y6) (falseworkref16_number.j2 (k + 1) y0 y1 y2 y3 y4 y5 y6)) ∧ (∀ y0 y1 y2 y3 y4 y5, LeO (falseworkref16_number.j3 k y0 y1 y2 y3 y4 y5) (falseworkref16_number.j3 (k + 1) y0 y1 y2 y3 y4 y5))
 | 0 => ⟨fun _ _ _ _ r h => by simp [falseworkref16_number.j0] at h, fun _ _ _ _ _ _ r h => by simp [falseworkref16_number.l0] at h, fun _ _ _ _ _ _ _ r h => by simp [falseworkref16_number.j2] at h, fun _ _ _ _ _ _ r h => by simp [falseworkref16_number.j3] at h⟩
 | k + 1 => by
  obtain ⟨ih0, ih1, ih2, ih3⟩ := falseworkref16_number.mono_l k
  refine ⟨?_, ?_, ?_, ?_⟩
  ·intro y0 y1 y2 y3
   unfold falseworkref16_number.j0
   repeat' first
   | (with_reducible exact ih0 _ _ _ _)
   | (with_reducible exact ih1 _ _ _ _ _ _)
   | (with_reducible exact ih2 _ _ _ _ _ _ _)
   | (with_reducible exact ih3 _ _ _ _ _ _)
   | (with_reducible exact LeO.refl _)
   | (with_reducible exact LeO.none _)
   | (with_reducible refine LeO.ite ?_ ?_)
   | (with_reducible refine LeO.bind ?_ (fun _ => ?_))
   | exact ih0 _ _ _ _
   | exact ih1 _ _ _ _ _ _
   | exact ih2 _ _ _ _ _ _ _
   | exact ih3 _ _ _ _ _ _
   | exact LeO.none _
   | refine LeO.ite ?_ ?_
   | refine LeO.bind ?_ (fun _ => ?_)
  ·intro y0 y1 y2 y3 y4 y5
   unfold falseworkref16_number.l0
   repeat' first
   | (with_reducible exact ih0 _ _ _ _)
   | (with_reducible exact ih1 _ _ _ _ _ _)
   | (with_reducible exact ih2 _ _ _ _ _ _ _)
   | (with_reducible exact ih3 _ _ _ _ _ _)
   | (with_reducible exact LeO.refl _)
   | (with_reducible exact LeO.none _)
   | (with_reducible refine LeO.ite ?_ ?_)
   | (with_reducible refine LeO.bind ?_ (fun _ => ?_))
   | exact ih0 _ _ _ _
   | exact ih1 _ _ _ _ _ _
   | exact ih2 _ _ _ _ _ _ _
   | exact ih3 _ _ _ _ _ _
   | exact LeO.none _
   | refine LeO.ite ?_ ?_
   | refine LeO.bind ?_ (fun _ => ?_)
  ·intro y0 y1 y2 y3 y4 y5 y6
   unfold falseworkref16_number.j2
   repeat' first
   | (with_reducible exact ih0 _ _ _ _)
   | (with_reducible exact ih1 _ _ _ _ _ _)
   | (with_reducible exact ih2 _ _ _ _ _ _ _)
   | (with_reducible exact ih3 _ _ _ _ _ _)
   | (with_reducible exact LeO.refl _)
   | (with_reducible exact LeO.none _)
   | (with_reducible refine LeO.ite ?_ ?_)
   | (with_reducible refine LeO.bind ?_ (fun _ => ?_))
   | exact ih0 _ _ _ _
   | exact ih1 _ _ _ _ _ _
   | exact ih2 _ _ _ _ _ _ _
   | exact ih3 _ _ _ _ _ _
   | exact LeO.none _
   | refine LeO.ite ?_ ?_
   | refine LeO.bind ?_ (fun _ => ?_)
  ·intro y0 y1 y2 y3 y4 y5
   unfold falseworkref16_number.j3
   repeat' first
   | (with_reducible exact ih0 _ _ _ _)
   | (with_reducible exact ih1 _ _ _ _ _ _)
   | (with_reducible exact ih2 _ _ _ _ _ _ _)
   | (with_reducible exact ih3 _ _ _ _ _ _)
   | (with_reducible exact LeO.refl _)
   | (with_reducible exact LeO.none _)
   | (with_reducible refine LeO.ite ?_ ?_)
   | (with_reducible refine LeO.bind ?_ (fun _ => ?_))
   | exact ih0 _ _ _ _
   | exact ih1 _ _ _ _ _ _
   | exact ih2 _ _ _ _ _ _ _
   | exact ih3 _ _ _ _ _ _
   | exact LeO.none _
   | refine LeO.ite ?_ ?_
   | refine LeO.bind ?_ (fun _ => ?_)
theorem falseworkref16_number.mono : ∀ a0 a1 k, LeO (falseworkref16_number.f k a0 a1) (falseworkref16_number.f (k + 1) a0 a1) := by
 intro a0 a1 k
 obtain ⟨ih0, ih1, ih2, ih3⟩ := falseworkref16_number.mono_l k
 unfold falseworkref16_number.f
 repeat' first
   | (with_reducible exact ih0 _ _ _ _)
   | (with_reducible exact ih1 _ _ _ _ _ _)
   | (with_reducible exact ih2 _ _ _ _ _ _ _)
   | (with_reducible exact ih3 _ _ _ _ _ _)
   | (with_reducible exact LeO.refl _)
   | (with_reducible exact LeO.none _)
   | (with_reducible refine LeO.ite ?_ ?_)
   | (with_reducible refine LeO.bind ?_ (fun _ => ?_))
   | exact ih0 _ _ _ _
   | exact ih1 _ _ _ _ _ _
   | exact ih2 _ _ _ _ _ _ _
   | exact ih3 _ _ _ _ _ _
   | exact LeO.none _
   | refine LeO.ite ?_ ?_
   | refine LeO.bind ?_ (fun _ => ?_)
set_option maxHeartbeats 8000000 in
set_option maxRecDepth 100000 in
theorem falseworkref16_number.calls (k : Nat) (a0 : ByteArray) (a1 : Int) (r1 : Int) (r2 : ByteArray) (r3 : Int) (r4 : Int) (r5 : Int) (r6 : ByteArray) (r7 : Int) (r8 : Int) (r9 : Bool) (w : World) (h : falseworkref16_number.f k a0 a1 = some (r1, r2, r3, r4, r5, r6, r7, r8, r9)) :
  Calls Tryd.prog 37 #[.string a0, .int .i64 a1] w fun e w' => e = .returned (.tuple #[.agg #[.int .i64 r1, .string r2, .int .i64 r3, .int .i64 r4, .int .u64 r5, .string r6, .int .i64 r7], .int .i64 r8, .bool r9]) ∧ Below w.heap.size w w' := by
 have hu47 := Tryd.underlying47
 have hu37 := Tryd.underlying37
 have HB := Aside0.mk (Below.refl w.heap.size w)
 have H : (if 0 ≤ a1 then (if a1 < (a0.size : Int) then (if (bt a0 a1) = 45 then (falseworkref16_number.j0 k a0 a1 (wrap64 (a1 + 1)) ((bt a0 a1) == 45)) else (falseworkref16_number.j0 k a0 a1 a1 ((bt a0 a1) == 45))) else (none)) else (none)) = some (r1, r2, r3, r4, r5, r6, r7, r8, r9) := h
 clear h
 by_cases c3 : 0 ≤ a1
 ·rw [if_pos c3] at H
  have c3b0 : decide (0 ≤ a1) = true := decide_eq_true c3
  clear c3
  by_cases c4 : a1 < (a0.size : Int)
  ·rw [if_pos c4] at H
   have c4b0 : decide (a1 < (a0.size : Int)) = true := decide_eq_true c4
   clear c4
   have HC6 := Aside0.mk H
   clear H
   go_enter Tryd.func37, Tryd.ntmps37
   go_upto_if 17 with (first | ((with_reducible refine gate_dst (N := 4) rfl ?_); (try (refine gate_guard (by rfl) ?_; dsimp only)); refine box_event ?hg (N := 4) ?hd (cs := #[.int .i64 0, .string (⟨#[]⟩ : ByteArray), .int .i64 0, .int .i64 0, .int .u64 0, .string (⟨#[]⟩ : ByteArray), .int .i64 0]) (t := 47) ?hr ?_; (case hd => rfl); (case hg => rfl); (case hr => first | (go_simp; done) | (go_simp; rfl)); intro gb196 hg w7 hbox hb; have n0_ := Aside0.mk (below_step (by repeat (first | (with_reducible first | exact HB.out | apply below_alloc | apply pw_below_drewN | apply below_drew1) | exact HB.out)) hb); have n1_ := Aside0.mk (hbox); have n2_ := Aside0.mk ((by rw [hg]; exact (below_size (by repeat (first | (with_reducible first | exact HB.out | apply below_alloc | apply pw_below_drewN | apply below_drew1) | exact HB.out))) : w.heap.size ≤ gb196)); have n3_ := Aside0.mk ((by rw [hg]; exact (below_size (by repeat (first | (with_reducible first | exact HB.out | apply below_alloc | apply pw_below_drewN | apply below_drew1) | exact HB.out))) : w.heap.size ≤ gb196)); clear HB; have HB := n0_; have BK196 := n1_; have GW196 := n2_; have GE196 := n3_; clear n0_ n1_ n2_ n3_; clear hb hbox hg; have p5 : 0 ≤ (a1 : Int) := of_decide_eq_true (by first | (with_reducible assumption) | assumption); have q5 : a1 < (a0.size : Int) := of_decide_eq_true (by first | (with_reducible assumption) | assumption); have hx5 := bt_at a0 a1; replace p5 := eq_true p5; replace q5 := eq_true q5))
   (try simp only [Act.put, List.setIfInBounds_toArray, List.set_cons_zero, List.set_cons_succ])
   go_cut [7] (fun v7 wc => ∃ (kq : Nat) (x7_5 : Int), v7 = .int .i64 x7_5 ∧ Aside0 (falseworkref16_number.j0 kq a0 a1 x7_5 ((bt a0 a1) == 45) = some (r1, r2, r3, r4, r5, r6, r7, r8, r9)) ∧ Aside0 (kq ≤ k) ∧ Aside0 (wc.heap[gb196]? = some (.cells #[.int .i64 0, .string (⟨#[]⟩ : ByteArray), .int .i64 0, .int .i64 0, .int .u64 0, .string (⟨#[]⟩ : ByteArray), .int .i64 0] 47 (0, 0))) ∧ Aside0 (Below w.heap.size w wc))
   case first =>
    have H := HC6.out
    clear HC6
    by_cases c8 : (bt a0 a1) = 45
    ·rw [if_pos c8] at H
     have c8b0 : ((bt a0 a1) == 45) = true := beq_iff_eq.mpr c8
     have c8b1 : ((bt a0 a1) != 45) = false := bne_eq_false_iff_eq.mpr c8
     clear c8
     (first | rw [c8b0] | (simp only [i64_w, i32_w]; rw [c8b0]) | skip)
     have H' := Aside0.mk H
     clear H
     go_wp2
     refine Met.intro ?_
     go_step
     (repeat apply Exists.intro)
     refine ⟨?rel, (by first | rfl | (simp only [show ((bt a0 a1) == 45) = true from by assumption]; rfl) | (simp only [show ((bt a0 a1) == 45) = false from by assumption]; rfl))⟩
     case rel => exact ⟨_, (wrap64 (a1 + 1)), (by first | rfl | (simp; done) | (simp [*]; done)), H', ⟨by first | omega | exact Nat.le_refl _⟩, ⟨by (with_reducible repeat (first | refine blk_drewN ?_ _ | refine blk_drew ?_ | refine blk_alloc ?_ _)); exact BK196.out⟩, ⟨by repeat (first | (with_reducible first | exact HB.out | apply below_alloc | apply pw_below_drewN | apply below_drew1 | refine below_set ?_ GE196.out) | exact HB.out)⟩⟩
    ·rw [if_neg c8] at H
     have c8b0 : ((bt a0 a1) == 45) = false := beq_eq_false_iff_ne.mpr c8
     have c8b1 : ((bt a0 a1) != 45) = true := bne_iff_ne.mpr c8
     (first | rw [c8b0] | (simp only [i64_w, i32_w]; rw [c8b0]) | skip)
     have H' := Aside0.mk H
     clear H
     go_wp2
     refine Met.intro ?_
     go_step
     (repeat apply Exists.intro)
     refine ⟨?rel, (by first | rfl | (simp only [show ((bt a0 a1) == 45) = true from by assumption]; rfl) | (simp only [show ((bt a0 a1) == 45) = false from by assumption]; rfl))⟩
     case rel => exact ⟨_, (a1), (by first | rfl | (simp; done) | (simp [*]; done)), H', ⟨by first | omega | exact Nat.le_refl _⟩, ⟨by (with_reducible repeat (first | refine blk_drewN ?_ _ | refine blk_drew ?_ | refine blk_alloc ?_ _)); exact BK196.out⟩, ⟨by repeat (first | (with_reducible first | exact HB.out | apply below_alloc | apply pw_below_drewN | apply below_drew1 | refine below_set ?_ GE196.out) | exact HB.out)⟩⟩
   case rest =>
    clear HC6
    try clear p2
    try clear c3
    try clear c3b0
    try clear c4
    try clear c4b0
    try clear p5
    try clear q5
    try clear hx5
    try clear p6
    try clear c8
    try clear c8b0
    try clear c8b1
    try clear p5
    try clear q5
    obtain ⟨kq, x7_5, rfl, HA, HJ5, BK196, HB⟩ := hcut
    cases kq with
    | zero => exact absurd HA.out (by simp [falseworkref16_number.j0])
    | succ kj5 =>
     have H := HA.out
     clear HA
     simp only [falseworkref16_number.j0] at H
     have H' := Aside0.mk H
     clear H
     go_wp2
     go_loopg [7, 10] kj5 (fun kq v7 v10 w' => ∃ (x7_2 : Int) (x10_2 : Int) (x197000_2 : Int) (x197001_2 : ByteArray) (x197002_2 : Int) (x197003_2 : Int) (x197004_2 : Int) (x197005_2 : ByteArray) (x197006_2 : Int), v7 = .int .i64 x7_2 ∧ v10 = .int .i64 x10_2 ∧ Aside0 (falseworkref16_number.l0 kq a0 a1 x7_2 ((bt a0 a1) == 45) x7_5 x10_2 = some (r1, r2, r3, r4, r5, r6, r7, r8, r9)) ∧ Aside0 (kq ≤ kj5) ∧ Aside0 (w'.heap[gb196]? = some (.cells #[.int .i64 x197000_2, .string x197001_2, .int .i64 x197002_2, .int .i64 x197003_2, .int .u64 x197004_2, .string x197005_2, .int .i64 x197006_2] 47 (0, 0))) ∧ Aside0 (Below w.heap.size w w'))
     case atStart => exact ⟨(x7_5), (0), (0), ((⟨#[]⟩ : ByteArray)), (0), (0), (0), ((⟨#[]⟩ : ByteArray)), (0), (by first | rfl | (simp; done) | (simp [*]; done)), (by first | rfl | (simp; done) | (simp [*]; done)), H', ⟨Nat.le_refl _⟩, ⟨by (with_reducible repeat (first | refine blk_drewN ?_ _ | refine blk_drew ?_ | refine blk_alloc ?_ _)); exact BK196.out⟩, ⟨by repeat (first | (with_reducible first | exact HB.out | apply below_alloc | apply pw_below_drewN | apply below_drew1 | refine below_set ?_ GE196.out) | exact HB.out)⟩⟩
     case round =>
      clear H'
      try clear p2
      try clear c3
      try clear c3b0
      try clear c4
      try clear c4b0
      try clear p5
      try clear q5
      try clear hx5
      try clear p6
      try clear c8
      try clear c8b0
      try clear c8b1
      try clear p2
      try clear p5
      try clear p6
      try clear q5
      obtain ⟨x7_2, x10_2, x197000_2, x197001_2, x197002_2, x197003_2, x197004_2, x197005_2, x197006_2, rfl, rfl, HA, HK2, BK196, HB⟩ := hrel
      cases gk with
      | zero => exact absurd HA.out (by simp [falseworkref16_number.l0])
      | succ k2 =>
       have H := HA.out
       clear HA
       simp only [falseworkref16_number.l0] at H
       have HC9 := Aside0.mk H
       clear H
       go_upto_region 7 with (fail)
       go_cut [30] (fun v30 wc => ∃ (kq : Nat) (x30_8 : Bool), v30 = .bool x30_8 ∧ Aside0 (falseworkref16_number.j2 kq a0 a1 x7_2 ((bt a0 a1) == 45) x7_5 x10_2 x30_8 = some (r1, r2, r3, r4, r5, r6, r7, r8, r9)) ∧ Aside0 (kq ≤ k2) ∧ Aside0 (wc.heap[gb196]? = some (.cells #[.int .i64 x197000_2, .string x197001_2, .int .i64 x197002_2, .int .i64 x197003_2, .int .u64 x197004_2, .string x197005_2, .int .i64 x197006_2] 47 (0, 0))) ∧ Aside0 (Below w.heap.size w wc))
       case first =>
        have H := HC9.out
        clear HC9
        by_cases c10 : x7_2 < (a0.size : Int)
        ·rw [if_pos c10] at H
         have c10b0 : decide (x7_2 < (a0.size : Int)) = true := decide_eq_true c10
         clear c10
         (first | rw [c10b0] | (simp only [i64_w, i32_w]; rw [c10b0]) | skip)
         by_cases c11 : 0 ≤ x7_2
         ·rw [if_pos c11] at H
          have c11b0 : decide (0 ≤ x7_2) = true := decide_eq_true c11
          clear c11
          replace H := Option.bind_eq_some_iff.mp H
          obtain ⟨t197, A130, H⟩ := H
          replace H : (falseworkref16_number.j2 k2 a0 a1 x7_2 ((bt a0 a1) == 45) x7_5 x10_2 t197) = some (r1, r2, r3, r4, r5, r6, r7, r8, r9) := H
          have A13 := Aside0.mk A130
          clear A130
          have H' := Aside0.mk H
          clear H
          have p12 : 0 ≤ (x7_2 : Int) := of_decide_eq_true (by first | (with_reducible assumption) | assumption)
          have q12 : x7_2 < (a0.size : Int) := of_decide_eq_true (by first | (with_reducible assumption) | assumption)
          have hx12 := bt_at a0 x7_2
          replace p12 := eq_true p12
          replace q12 := eq_true q12
          go_wp2_with (first | (go_at_call 36; (with_reducible refine (falseworkref16_digit.calls (bt a0 x7_2) t197 _ A13.out).mono ?_); rintro e w' ⟨rfl, ⟨nd, rfl⟩⟩))
          refine Met.intro ?_
          go_step
          (repeat apply Exists.intro)
          refine ⟨?rel, (by first | rfl | (simp only [show ((bt a0 a1) == 45) = true from by assumption]; rfl) | (simp only [show ((bt a0 a1) == 45) = false from by assumption]; rfl))⟩
          case rel => exact ⟨_, (t197), (by first | rfl | (simp; done) | (simp [*]; done)), H', ⟨by have := HJ5.out; have := HK2.out; first | omega | exact Nat.le_refl _⟩, ⟨by (with_reducible repeat (first | refine blk_drewN ?_ _ | refine blk_drew ?_ | refine blk_alloc ?_ _)); exact BK196.out⟩, ⟨by repeat (first | (with_reducible first | exact HB.out | apply below_alloc | apply pw_below_drewN | apply below_drew1 | refine below_set ?_ GE196.out) | exact HB.out)⟩⟩
         ·rw [if_neg c11] at H
          exact absurd H (by simp)
        ·rw [if_neg c10] at H
         have c10b0 : decide (x7_2 < (a0.size : Int)) = false := decide_eq_false c10
         clear c10
         (first | rw [c10b0] | (simp only [i64_w, i32_w]; rw [c10b0]) | skip)
         have H' := Aside0.mk H
         clear H
         go_wp2
         refine Met.intro ?_
         go_step
         (repeat apply Exists.intro)
         refine ⟨?rel, (by first | rfl | (simp only [show ((bt a0 a1) == 45) = true from by assumption]; rfl) | (simp only [show ((bt a0 a1) == 45) = false from by assumption]; rfl))⟩
         case rel => exact ⟨_, (false), (by first | rfl | (simp; done) | (simp [*]; done)), H', ⟨by have := HJ5.out; have := HK2.out; first | omega | exact Nat.le_refl _⟩, ⟨by (with_reducible repeat (first | refine blk_drewN ?_ _ | refine blk_drew ?_ | refine blk_alloc ?_ _)); exact BK196.out⟩, ⟨by repeat (first | (with_reducible first | exact HB.out | apply below_alloc | apply pw_below_drewN | apply below_drew1 | refine below_set ?_ GE196.out) | exact HB.out)⟩⟩
       case rest =>
        clear HC9
        try clear c1
        try clear p1
        try clear q1
        try clear hx1
        try clear p2
        try clear c3
        try clear c3b0
        try clear c4
        try clear c4b0
        try clear p5
        try clear q5
        try clear hx5
        try clear p6
        try clear c8
        try clear c8b0
        try clear c8b1
        try clear c10
        try clear c10b0
        try clear c11
        try clear c11b0
        try clear p12
        try clear q12
        try clear hx12
        try clear p12
        try clear p2
        try clear p5
        try clear p6
        try clear q12
        try clear q5
        obtain ⟨kq, x30_8, rfl, HA, HJ8, BK196, HB⟩ := hcut
        cases kq with
        | zero => exact absurd HA.out (by simp [falseworkref16_number.j2])
        | succ kj8 =>
         have H := HA.out
         clear HA
         simp only [falseworkref16_number.j2] at H
         by_cases c14 : x30_8 = true
         ·subst c14
          have H1 : (if 0 ≤ x7_2 then (if x7_2 < (a0.size : Int) then (if x10_2 < (wrap64 (Int.tdiv ((-9223372036854775808) + (((bt a0 x7_2) - 48) % 256)) 10)) then (some (0, (⟨#[]⟩ : ByteArray), 0, 0, 0, (⟨#[]⟩ : ByteArray), 0, 0, false)) else (if x10_2 = (wrap64 (Int.tdiv ((-9223372036854775808) + (((bt a0 x7_2) - 48) % 256)) 10)) then (if (wrap64 ((wrap64 (10 * x10_2)) - (((bt a0 x7_2) - 48) % 256))) > 0 then (some (0, (⟨#[]⟩ : ByteArray), 0, 0, 0, (⟨#[]⟩ : ByteArray), 0, 0, false)) else (falseworkref16_number.l0 kj8 a0 a1 (wrap64 (x7_2 + 1)) ((bt a0 a1) == 45) x7_5 (wrap64 ((wrap64 (10 * x10_2)) - (((bt a0 x7_2) - 48) % 256))))) else (falseworkref16_number.l0 kj8 a0 a1 (wrap64 (x7_2 + 1)) ((bt a0 a1) == 45) x7_5 (wrap64 ((wrap64 (10 * x10_2)) - (((bt a0 x7_2) - 48) % 256)))))) else (none)) else (none)) = some (r1, r2, r3, r4, r5, r6, r7, r8, r9) := by rw [if_pos rfl] at H; exact H
          clear H
          have H := H1
          clear H1
          by_cases c15 : 0 ≤ x7_2
          ·rw [if_pos c15] at H
           have c15b0 : decide (0 ≤ x7_2) = true := decide_eq_true c15
           clear c15
           by_cases c16 : x7_2 < (a0.size : Int)
           ·rw [if_pos c16] at H
            have c16b0 : decide (x7_2 < (a0.size : Int)) = true := decide_eq_true c16
            clear c16
            have fd_ : (wrap64 (Int.tdiv ((-9223372036854775808) + (((bt a0 x7_2) - 48) % 256)) 10)) = (Int.tdiv ((-9223372036854775808) + (((bt a0 x7_2) - 48) % 256)) 10) := by
             have h1 : 0 ≤ ((bt a0 x7_2) - 48) % 256 := Int.emod_nonneg _ (by decide)
             have h2 : ((bt a0 x7_2) - 48) % 256 < 256 := Int.emod_lt_of_pos _ (by decide)
             generalize ((bt a0 x7_2) - 48) % 256 = d at h1 h2 ⊢
             rw [show ((-9223372036854775808 : Int) + d) = -(9223372036854775808 - d) from by omega, Int.neg_tdiv, Int.tdiv_eq_ediv_of_nonneg (by omega)]
             unfold wrap64; omega
            simp only [fd_] at H
            clear fd_
            by_cases c18 : x10_2 < (Int.tdiv ((-9223372036854775808) + (((bt a0 x7_2) - 48) % 256)) 10)
            ·rw [if_pos c18] at H
             have c18b0 : decide (x10_2 < (Int.tdiv ((-9223372036854775808) + (((bt a0 x7_2) - 48) % 256)) 10)) = true := decide_eq_true c18
             clear c18
             simp only [Option.some.injEq, Prod.mk.injEq] at H
             obtain ⟨rfl, rfl, rfl, rfl, rfl, rfl, rfl, rfl, rfl⟩ := H
             have p17 : 0 ≤ (x7_2 : Int) := of_decide_eq_true (by first | (with_reducible assumption) | assumption)
             have q17 : x7_2 < (a0.size : Int) := of_decide_eq_true (by first | (with_reducible assumption) | assumption)
             have hx17 := bt_at a0 x7_2
             replace p17 := eq_true p17
             replace q17 := eq_true q17
             have hcz19_0 : wc.cell? ⟨gb196, 0, none⟩ = some (.int .i64 x197000_2) := (blk_cell BK196.out 0).trans rfl
             have hcz19_1 : wc.cell? ⟨gb196, 1, none⟩ = some (.string x197001_2) := (blk_cell BK196.out 1).trans rfl
             have hcz19_2 : wc.cell? ⟨gb196, 2, none⟩ = some (.int .i64 x197002_2) := (blk_cell BK196.out 2).trans rfl
             have hcz19_3 : wc.cell? ⟨gb196, 3, none⟩ = some (.int .i64 x197003_2) := (blk_cell BK196.out 3).trans rfl
             have hcz19_4 : wc.cell? ⟨gb196, 4, none⟩ = some (.int .u64 x197004_2) := (blk_cell BK196.out 4).trans rfl
             have hcz19_5 : wc.cell? ⟨gb196, 5, none⟩ = some (.string x197005_2) := (blk_cell BK196.out 5).trans rfl
             have hcz19_6 : wc.cell? ⟨gb196, 6, none⟩ = some (.int .i64 x197006_2) := (blk_cell BK196.out 6).trans rfl
             have hfz19_0 := blk_frozen BK196.out 0
             have hfz19_1 := blk_frozen BK196.out 1
             have hfz19_2 := blk_frozen BK196.out 2
             have hfz19_3 := blk_frozen BK196.out 3
             have hfz19_4 := blk_frozen BK196.out 4
             have hfz19_5 := blk_frozen BK196.out 5
             have hfz19_6 := blk_frozen BK196.out 6
             go_wp2
             refine bodyPost_ret (results_ctt rfl _ _ gb196 47 #[.int .i64 0, .string (⟨#[]⟩ : ByteArray), .int .i64 0, .int .i64 0, .int .u64 0, .string (⟨#[]⟩ : ByteArray), .int .i64 0] (0, 0) _ rfl (by (with_reducible repeat (first | refine blk_drewN ?_ _ | refine blk_drew ?_ | refine blk_alloc ?_ _)); refine blk_put (cs := #[.int .i64 0, .string (⟨#[]⟩ : ByteArray), .int .i64 0, .int .i64 0, .int .u64 0, .string (⟨#[]⟩ : ByteArray), .int .i64 x197006_2]) ?_ 6 _ rfl; (with_reducible repeat (first | refine blk_drewN ?_ _ | refine blk_drew ?_ | refine blk_alloc ?_ _)); refine blk_put (cs := #[.int .i64 0, .string (⟨#[]⟩ : ByteArray), .int .i64 0, .int .i64 0, .int .u64 0, .string x197005_2, .int .i64 x197006_2]) ?_ 5 _ rfl; (with_reducible repeat (first | refine blk_drewN ?_ _ | refine blk_drew ?_ | refine blk_alloc ?_ _)); refine blk_put (cs := #[.int .i64 0, .string (⟨#[]⟩ : ByteArray), .int .i64 0, .int .i64 0, .int .u64 x197004_2, .string x197005_2, .int .i64 x197006_2]) ?_ 4 _ rfl; (with_reducible repeat (first | refine blk_drewN ?_ _ | refine blk_drew ?_ | refine blk_alloc ?_ _)); refine blk_put (cs := #[.int .i64 0, .string (⟨#[]⟩ : ByteArray), .int .i64 0, .int .i64 x197003_2, .int .u64 x197004_2, .string x197005_2, .int .i64 x197006_2]) ?_ 3 _ rfl; (with_reducible repeat (first | refine blk_drewN ?_ _ | refine blk_drew ?_ | refine blk_alloc ?_ _)); refine blk_put (cs := #[.int .i64 0, .string (⟨#[]⟩ : ByteArray), .int .i64 x197002_2, .int .i64 x197003_2, .int .u64 x197004_2, .string x197005_2, .int .i64 x197006_2]) ?_ 2 _ rfl; (with_reducible repeat (first | refine blk_drewN ?_ _ | refine blk_drew ?_ | refine blk_alloc ?_ _)); refine blk_put (cs := #[.int .i64 0, .string x197001_2, .int .i64 x197002_2, .int .i64 x197003_2, .int .u64 x197004_2, .string x197005_2, .int .i64 x197006_2]) ?_ 1 _ rfl; (with_reducible repeat (first | refine blk_drewN ?_ _ | refine blk_drew ?_ | refine blk_alloc ?_ _)); refine blk_put (cs := #[.int .i64 x197000_2, .string x197001_2, .int .i64 x197002_2, .int .i64 x197003_2, .int .u64 x197004_2, .string x197005_2, .int .i64 x197006_2]) ?_ 0 _ rfl; (with_reducible repeat (first | refine blk_drewN ?_ _ | refine blk_drew ?_ | refine blk_alloc ?_ _)); exact BK196.out) Tryd.underlying47 rfl (by kernel_rfl)) rfl ?_
             exact ⟨by first | rfl | (simp [errW_none, errW_some] <;> rfl) | (simp [*, errW_none, errW_some] <;> rfl), by repeat (first | (with_reducible first | exact HB.out | apply below_alloc | apply pw_below_drewN | apply below_drew1 | refine below_set ?_ GE196.out) | exact HB.out)⟩
            ·rw [if_neg c18] at H
             have c18b0 : decide (x10_2 < (Int.tdiv ((-9223372036854775808) + (((bt a0 x7_2) - 48) % 256)) 10)) = false := decide_eq_false c18
             clear c18
             by_cases c20 : x10_2 = (Int.tdiv ((-9223372036854775808) + (((bt a0 x7_2) - 48) % 256)) 10)
             ·rw [if_pos c20] at H
              have c20b0 : (x10_2 == (Int.tdiv ((-9223372036854775808) + (((bt a0 x7_2) - 48) % 256)) 10)) = true := beq_iff_eq.mpr c20
              have c20b1 : (x10_2 != (Int.tdiv ((-9223372036854775808) + (((bt a0 x7_2) - 48) % 256)) 10)) = false := bne_eq_false_iff_eq.mpr c20
              clear c20
              by_cases c21 : (wrap64 ((wrap64 (10 * x10_2)) - (((bt a0 x7_2) - 48) % 256))) > 0
              ·rw [if_pos c21] at H
               have c21b0 : decide (0 < (wrap64 ((wrap64 (10 * x10_2)) - (((bt a0 x7_2) - 48) % 256)))) = true := decide_eq_true c21
               clear c21
               simp only [Option.some.injEq, Prod.mk.injEq] at H
               obtain ⟨rfl, rfl, rfl, rfl, rfl, rfl, rfl, rfl, rfl⟩ := H
               have p17 : 0 ≤ (x7_2 : Int) := of_decide_eq_true (by first | (with_reducible assumption) | assumption)
               have q17 : x7_2 < (a0.size : Int) := of_decide_eq_true (by first | (with_reducible assumption) | assumption)
               have hx17 := bt_at a0 x7_2
               replace p17 := eq_true p17
               replace q17 := eq_true q17
               have hcz22_0 : wc.cell? ⟨gb196, 0, none⟩ = some (.int .i64 x197000_2) := (blk_cell BK196.out 0).trans rfl
               have hcz22_1 : wc.cell? ⟨gb196, 1, none⟩ = some (.string x197001_2) := (blk_cell BK196.out 1).trans rfl
               have hcz22_2 : wc.cell? ⟨gb196, 2, none⟩ = some (.int .i64 x197002_2) := (blk_cell BK196.out 2).trans rfl
               have hcz22_3 : wc.cell? ⟨gb196, 3, none⟩ = some (.int .i64 x197003_2) := (blk_cell BK196.out 3).trans rfl
               have hcz22_4 : wc.cell? ⟨gb196, 4, none⟩ = some (.int .u64 x197004_2) := (blk_cell BK196.out 4).trans rfl
               have hcz22_5 : wc.cell? ⟨gb196, 5, none⟩ = some (.string x197005_2) := (blk_cell BK196.out 5).trans rfl
               have hcz22_6 : wc.cell? ⟨gb196, 6, none⟩ = some (.int .i64 x197006_2) := (blk_cell BK196.out 6).trans rfl
               have hfz22_0 := blk_frozen BK196.out 0
               have hfz22_1 := blk_frozen BK196.out 1
               have hfz22_2 := blk_frozen BK196.out 2
               have hfz22_3 := blk_frozen BK196.out 3
               have hfz22_4 := blk_frozen BK196.out 4
               have hfz22_5 := blk_frozen BK196.out 5
               have hfz22_6 := blk_frozen BK196.out 6
               go_wp2
               refine bodyPost_ret (results_ctt rfl _ _ gb196 47 #[.int .i64 0, .string (⟨#[]⟩ : ByteArray), .int .i64 0, .int .i64 0, .int .u64 0, .string (⟨#[]⟩ : ByteArray), .int .i64 0] (0, 0) _ rfl (by (with_reducible repeat (first | refine blk_drewN ?_ _ | refine blk_drew ?_ | refine blk_alloc ?_ _)); refine blk_put (cs := #[.int .i64 0, .string (⟨#[]⟩ : ByteArray), .int .i64 0, .int .i64 0, .int .u64 0, .string (⟨#[]⟩ : ByteArray), .int .i64 x197006_2]) ?_ 6 _ rfl; (with_reducible repeat (first | refine blk_drewN ?_ _ | refine blk_drew ?_ | refine blk_alloc ?_ _)); refine blk_put (cs := #[.int .i64 0, .string (⟨#[]⟩ : ByteArray), .int .i64 0, .int .i64 0, .int .u64 0, .string x197005_2, .int .i64 x197006_2]) ?_ 5 _ rfl; (with_reducible repeat (first | refine blk_drewN ?_ _ | refine blk_drew ?_ | refine blk_alloc ?_ _)); refine blk_put (cs := #[.int .i64 0, .string (⟨#[]⟩ : ByteArray), .int .i64 0, .int .i64 0, .int .u64 x197004_2, .string x197005_2, .int .i64 x197006_2]) ?_ 4 _ rfl; (with_reducible repeat (first | refine blk_drewN ?_ _ | refine blk_drew ?_ | refine blk_alloc ?_ _)); refine blk_put (cs := #[.int .i64 0, .string (⟨#[]⟩ : ByteArray), .int .i64 0, .int .i64 x197003_2, .int .u64 x197004_2, .string x197005_2, .int .i64 x197006_2]) ?_ 3 _ rfl; (with_reducible repeat (first | refine blk_drewN ?_ _ | refine blk_drew ?_ | refine blk_alloc ?_ _)); refine blk_put (cs := #[.int .i64 0, .string (⟨#[]⟩ : ByteArray), .int .i64 x197002_2, .int .i64 x197003_2, .int .u64 x197004_2, .string x197005_2, .int .i64 x197006_2]) ?_ 2 _ rfl; (with_reducible repeat (first | refine blk_drewN ?_ _ | refine blk_drew ?_ | refine blk_alloc ?_ _)); refine blk_put (cs := #[.int .i64 0, .string x197001_2, .int .i64 x197002_2, .int .i64 x197003_2, .int .u64 x197004_2, .string x197005_2, .int .i64 x197006_2]) ?_ 1 _ rfl; (with_reducible repeat (first | refine blk_drewN ?_ _ | refine blk_drew ?_ | refine blk_alloc ?_ _)); refine blk_put (cs := #[.int .i64 x197000_2, .string x197001_2, .int .i64 x197002_2, .int .i64 x197003_2, .int .u64 x197004_2, .string x197005_2, .int .i64 x197006_2]) ?_ 0 _ rfl; (with_reducible repeat (first | refine blk_drewN ?_ _ | refine blk_drew ?_ | refine blk_alloc ?_ _)); exact BK196.out) Tryd.underlying47 rfl (by kernel_rfl)) rfl ?_
               exact ⟨by first | rfl | (simp [errW_none, errW_some] <;> rfl) | (simp [*, errW_none, errW_some] <;> rfl), by repeat (first | (with_reducible first | exact HB.out | apply below_alloc | apply pw_below_drewN | apply below_drew1 | refine below_set ?_ GE196.out) | exact HB.out)⟩
              ·rw [if_neg c21] at H
               have c21b0 : decide (0 < (wrap64 ((wrap64 (10 * x10_2)) - (((bt a0 x7_2) - 48) % 256)))) = false := decide_eq_false c21
               clear c21
               have H' := Aside0.mk H
               clear H
               have p17 : 0 ≤ (x7_2 : Int) := of_decide_eq_true (by first | (with_reducible assumption) | assumption)
               have q17 : x7_2 < (a0.size : Int) := of_decide_eq_true (by first | (with_reducible assumption) | assumption)
               have hx17 := bt_at a0 x7_2
               replace p17 := eq_true p17
               replace q17 := eq_true q17
               go_wp2
               go_roundg kj8
               case measure => have := HJ5.out; have := HK2.out; have := HJ8.out; omega
               case rel => exact ⟨(wrap64 (x7_2 + 1)), (wrap64 ((wrap64 (10 * x10_2)) - (((bt a0 x7_2) - 48) % 256))), (x197000_2), (x197001_2), (x197002_2), (x197003_2), (x197004_2), (x197005_2), (x197006_2), (by first | rfl | (simp; done) | (simp [*]; done)), (by first | rfl | (simp; done) | (simp [*]; done)), H', ⟨by have := HJ5.out; have := HK2.out; have := HJ8.out; omega⟩, ⟨by (with_reducible repeat (first | refine blk_drewN ?_ _ | refine blk_drew ?_ | refine blk_alloc ?_ _)); exact BK196.out⟩, ⟨by repeat (first | (with_reducible first | exact HB.out | apply below_alloc | apply pw_below_drewN | apply below_drew1 | refine below_set ?_ GE196.out) | exact HB.out)⟩⟩
             ·rw [if_neg c20] at H
              have c20b0 : (x10_2 == (Int.tdiv ((-9223372036854775808) + (((bt a0 x7_2) - 48) % 256)) 10)) = false := beq_eq_false_iff_ne.mpr c20
              have c20b1 : (x10_2 != (Int.tdiv ((-9223372036854775808) + (((bt a0 x7_2) - 48) % 256)) 10)) = true := bne_iff_ne.mpr c20
              have H' := Aside0.mk H
              clear H
              have p17 : 0 ≤ (x7_2 : Int) := of_decide_eq_true (by first | (with_reducible assumption) | assumption)
              have q17 : x7_2 < (a0.size : Int) := of_decide_eq_true (by first | (with_reducible assumption) | assumption)
              have hx17 := bt_at a0 x7_2
              replace p17 := eq_true p17
              replace q17 := eq_true q17
              go_wp2
              go_roundg kj8
              case measure => have := HJ5.out; have := HK2.out; have := HJ8.out; omega
              case rel => exact ⟨(wrap64 (x7_2 + 1)), (wrap64 ((wrap64 (10 * x10_2)) - (((bt a0 x7_2) - 48) % 256))), (x197000_2), (x197001_2), (x197002_2), (x197003_2), (x197004_2), (x197005_2), (x197006_2), (by first | rfl | (simp; done) | (simp [*]; done)), (by first | rfl | (simp; done) | (simp [*]; done)), H', ⟨by have := HJ5.out; have := HK2.out; have := HJ8.out; omega⟩, ⟨by (with_reducible repeat (first | refine blk_drewN ?_ _ | refine blk_drew ?_ | refine blk_alloc ?_ _)); exact BK196.out⟩, ⟨by repeat (first | (with_reducible first | exact HB.out | apply below_alloc | apply pw_below_drewN | apply below_drew1 | refine below_set ?_ GE196.out) | exact HB.out)⟩⟩
           ·rw [if_neg c16] at H
            exact absurd H (by simp)
          ·rw [if_neg c15] at H
           exact absurd H (by simp)
         ·replace c14 := Bool.eq_false_iff.mpr c14
          subst c14
          have H1 : (if x7_2 = x7_5 then (falseworkref16_number.j3 kj8 a0 a1 x7_2 ((bt a0 a1) == 45) x10_2 true) else (if x7_2 > (wrap64 (x7_5 + 1)) then (if 0 ≤ x7_5 then (if x7_5 < (a0.size : Int) then (if (bt a0 x7_5) = 48 then (falseworkref16_number.j3 kj8 a0 a1 x7_2 ((bt a0 a1) == 45) x10_2 true) else (if ((bt a0 a1) == 45) = true then (if x10_2 = 0 then (falseworkref16_number.j3 kj8 a0 a1 x7_2 ((bt a0 a1) == 45) x10_2 true) else (if x7_2 < (a0.size : Int) then (if 0 ≤ x7_2 then ((falseworkref16_low.f (bt a0 x7_2)).bind fun t198 => (if t198 = true then (falseworkref16_number.j3 kj8 a0 a1 x7_2 ((bt a0 a1) == 45) x10_2 true) else (falseworkref16_number.j3 kj8 a0 a1 x7_2 ((bt a0 a1) == 45) x10_2 ((bt a0 x7_2) == 95)))) else (none)) else (falseworkref16_number.j3 kj8 a0 a1 x7_2 ((bt a0 a1) == 45) x10_2 false))) else (if x10_2 = (-9223372036854775808) then (falseworkref16_number.j3 kj8 a0 a1 x7_2 ((bt a0 a1) == 45) x10_2 true) else (if x7_2 < (a0.size : Int) then (if 0 ≤ x7_2 then ((falseworkref16_low.f (bt a0 x7_2)).bind fun t199 => (if t199 = true then (falseworkref16_number.j3 kj8 a0 a1 x7_2 ((bt a0 a1) == 45) x10_2 true) else (falseworkref16_number.j3 kj8 a0 a1 x7_2 ((bt a0 a1) == 45) x10_2 ((bt a0 x7_2) == 95)))) else (none)) else (falseworkref16_number.j3 kj8 a0 a1 x7_2 ((bt a0 a1) == 45) x10_2 false))))) else (none)) else (none)) else (if ((bt a0 a1) == 45) = true then (if x10_2 = 0 then (falseworkref16_number.j3 kj8 a0 a1 x7_2 ((bt a0 a1) == 45) x10_2 true) else (if x7_2 < (a0.size : Int) then (if 0 ≤ x7_2 then ((falseworkref16_low.f (bt a0 x7_2)).bind fun t200 => (if t200 = true then (falseworkref16_number.j3 kj8 a0 a1 x7_2 ((bt a0 a1) == 45) x10_2 true) else (falseworkref16_number.j3 kj8 a0 a1 x7_2 ((bt a0 a1) == 45) x10_2 ((bt a0 x7_2) == 95)))) else (none)) else (falseworkref16_number.j3 kj8 a0 a1 x7_2 ((bt a0 a1) == 45) x10_2 false))) else (if x10_2 = (-9223372036854775808) then (falseworkref16_number.j3 kj8 a0 a1 x7_2 ((bt a0 a1) == 45) x10_2 true) else (if x7_2 < (a0.size : Int) then (if 0 ≤ x7_2 then ((falseworkref16_low.f (bt a0 x7_2)).bind fun t201 => (if t201 = true then (falseworkref16_number.j3 kj8 a0 a1 x7_2 ((bt a0 a1) == 45) x10_2 true) else (falseworkref16_number.j3 kj8 a0 a1 x7_2 ((bt a0 a1) == 45) x10_2 ((bt a0 x7_2) == 95)))) else (none)) else (falseworkref16_number.j3 kj8 a0 a1 x7_2 ((bt a0 a1) == 45) x10_2 false)))))) = some (r1, r2, r3, r4, r5, r6, r7, r8, r9) := by rw [if_neg (show ¬ (false = true) by decide)] at H; exact H
          clear H
          have H := H1
          clear H1
          have HC23 := Aside0.mk H
          clear H
          go_upto_region 13 with (fail)
          go_cut [109] (fun v109 wc => ∃ (kq : Nat) (x109_22 : Bool), v109 = .bool x109_22 ∧ Aside0 (falseworkref16_number.j3 kq a0 a1 x7_2 ((bt a0 a1) == 45) x10_2 x109_22 = some (r1, r2, r3, r4, r5, r6, r7, r8, r9)) ∧ Aside0 (kq ≤ kj8) ∧ Aside0 (wc.heap[gb196]? = some (.cells #[.int .i64 x197000_2, .string x197001_2, .int .i64 x197002_2, .int .i64 x197003_2, .int .u64 x197004_2, .string x197005_2, .int .i64 x197006_2] 47 (0, 0))) ∧ Aside0 (Below w.heap.size w wc))
          case first =>
           have H := HC23.out
           clear HC23
           by_cases c24 : x7_2 = x7_5
           ·rw [if_pos c24] at H
            have c24b0 : (x7_2 == x7_5) = true := beq_iff_eq.mpr c24
            have c24b1 : (x7_2 != x7_5) = false := bne_eq_false_iff_eq.mpr c24
            clear c24
            (first | rw [c24b0] | (simp only [i64_w, i32_w]; rw [c24b0]) | skip)
            have H' := Aside0.mk H
            clear H
            go_wp2
            refine Met.intro ?_
            go_step
            (repeat apply Exists.intro)
            refine ⟨?rel, (by first | rfl | (simp only [show ((bt a0 a1) == 45) = true from by assumption]; rfl) | (simp only [show ((bt a0 a1) == 45) = false from by assumption]; rfl))⟩
            case rel => exact ⟨_, (true), (by first | rfl | (simp; done) | (simp [*]; done)), H', ⟨by have := HJ5.out; have := HK2.out; have := HJ8.out; first | omega | exact Nat.le_refl _⟩, ⟨by (with_reducible repeat (first | refine blk_drewN ?_ _ | refine blk_drew ?_ | refine blk_alloc ?_ _)); exact BK196.out⟩, ⟨by repeat (first | (with_reducible first | exact HB.out | apply below_alloc | apply pw_below_drewN | apply below_drew1 | refine below_set ?_ GE196.out) | exact HB.out)⟩⟩
           ·rw [if_neg c24] at H
            have c24b0 : (x7_2 == x7_5) = false := beq_eq_false_iff_ne.mpr c24
            have c24b1 : (x7_2 != x7_5) = true := bne_iff_ne.mpr c24
            (first | rw [c24b0] | (simp only [i64_w, i32_w]; rw [c24b0]) | skip)
            by_cases c25 : x7_2 > (wrap64 (x7_5 + 1))
            ·rw [if_pos c25] at H
             have c25b0 : decide ((wrap64 (x7_5 + 1)) < x7_2) = true := decide_eq_true c25
             clear c25
             by_cases c26 : 0 ≤ x7_5
             ·rw [if_pos c26] at H
              have c26b0 : decide (0 ≤ x7_5) = true := decide_eq_true c26
              clear c26
              by_cases c27 : x7_5 < (a0.size : Int)
              ·rw [if_pos c27] at H
               have c27b0 : decide (x7_5 < (a0.size : Int)) = true := decide_eq_true c27
               clear c27
               by_cases c29 : (bt a0 x7_5) = 48
               ·rw [if_pos c29] at H
                have c29b0 : ((bt a0 x7_5) == 48) = true := beq_iff_eq.mpr c29
                have c29b1 : ((bt a0 x7_5) != 48) = false := bne_eq_false_iff_eq.mpr c29
                clear c29
                have H' := Aside0.mk H
                clear H
                have p28 : 0 ≤ (x7_5 : Int) := of_decide_eq_true (by first | (with_reducible assumption) | assumption)
                have q28 : x7_5 < (a0.size : Int) := of_decide_eq_true (by first | (with_reducible assumption) | assumption)
                have hx28 := bt_at a0 x7_5
                replace p28 := eq_true p28
                replace q28 := eq_true q28
                go_wp2
                refine Met.intro ?_
                go_step
                (repeat apply Exists.intro)
                refine ⟨?rel, (by first | rfl | (simp only [show ((bt a0 a1) == 45) = true from by assumption]; rfl) | (simp only [show ((bt a0 a1) == 45) = false from by assumption]; rfl))⟩
                case rel => exact ⟨_, (true), (by first | rfl | (simp; done) | (simp [*]; done)), H', ⟨by have := HJ5.out; have := HK2.out; have := HJ8.out; first | omega | exact Nat.le_refl _⟩, ⟨by (with_reducible repeat (first | refine blk_drewN ?_ _ | refine blk_drew ?_ | refine blk_alloc ?_ _)); exact BK196.out⟩, ⟨by repeat (first | (with_reducible first | exact HB.out | apply below_alloc | apply pw_below_drewN | apply below_drew1 | refine below_set ?_ GE196.out) | exact HB.out)⟩⟩
               ·rw [if_neg c29] at H
                have c29b0 : ((bt a0 x7_5) == 48) = false := beq_eq_false_iff_ne.mpr c29
                have c29b1 : ((bt a0 x7_5) != 48) = true := bne_iff_ne.mpr c29
                by_cases c30 : ((bt a0 a1) == 45) = true
                ·rw [if_pos c30] at H
                 have c30b0 : ((bt a0 a1) == 45) = true := c30
                 (try (have c30b1 : decide ((bt a0 a1) = 45) = true := by simpa using c30))
                 (try (have c30b2 : ((bt a0 a1) == 45) = true := by simpa using c30))
                 clear c30
                 by_cases c31 : x10_2 = 0
                 ·rw [if_pos c31] at H
                  have c31b0 : (x10_2 == 0) = true := beq_iff_eq.mpr c31
                  have c31b1 : (x10_2 != 0) = false := bne_eq_false_iff_eq.mpr c31
                  clear c31
                  have H' := Aside0.mk H
                  clear H
                  have p28 : 0 ≤ (x7_5 : Int) := of_decide_eq_true (by first | (with_reducible assumption) | assumption)
                  have q28 : x7_5 < (a0.size : Int) := of_decide_eq_true (by first | (with_reducible assumption) | assumption)
                  have hx28 := bt_at a0 x7_5
                  replace p28 := eq_true p28
                  replace q28 := eq_true q28
                  go_wp2
                  refine Met.intro ?_
                  go_step
                  (repeat apply Exists.intro)
                  refine ⟨?rel, (by first | rfl | (simp only [show ((bt a0 a1) == 45) = true from by assumption]; rfl) | (simp only [show ((bt a0 a1) == 45) = false from by assumption]; rfl))⟩
                  case rel => exact ⟨_, (true), (by first | rfl | (simp; done) | (simp [*]; done)), H', ⟨by have := HJ5.out; have := HK2.out; have := HJ8.out; first | omega | exact Nat.le_refl _⟩, ⟨by (with_reducible repeat (first | refine blk_drewN ?_ _ | refine blk_drew ?_ | refine blk_alloc ?_ _)); exact BK196.out⟩, ⟨by repeat (first | (with_reducible first | exact HB.out | apply below_alloc | apply pw_below_drewN | apply below_drew1 | refine below_set ?_ GE196.out) | exact HB.out)⟩⟩
                 ·rw [if_neg c31] at H
                  have c31b0 : (x10_2 == 0) = false := beq_eq_false_iff_ne.mpr c31
                  have c31b1 : (x10_2 != 0) = true := bne_iff_ne.mpr c31
                  by_cases c32 : x7_2 < (a0.size : Int)
                  ·rw [if_pos c32] at H
                   have c32b0 : decide (x7_2 < (a0.size : Int)) = true := decide_eq_true c32
                   clear c32
                   by_cases c33 : 0 ≤ x7_2
                   ·rw [if_pos c33] at H
                    have c33b0 : decide (0 ≤ x7_2) = true := decide_eq_true c33
                    clear c33
                    replace H := Option.bind_eq_some_iff.mp H
                    obtain ⟨t198, A350, H⟩ := H
                    replace H : (if t198 = true then (falseworkref16_number.j3 kj8 a0 a1 x7_2 ((bt a0 a1) == 45) x10_2 true) else (falseworkref16_number.j3 kj8 a0 a1 x7_2 ((bt a0 a1) == 45) x10_2 ((bt a0 x7_2) == 95))) = some (r1, r2, r3, r4, r5, r6, r7, r8, r9) := H
                    have A35 := Aside0.mk A350
                    clear A350
                    by_cases c36 : t198 = true
                    ·subst c36
                     have H1 : (falseworkref16_number.j3 kj8 a0 a1 x7_2 ((bt a0 a1) == 45) x10_2 true) = some (r1, r2, r3, r4, r5, r6, r7, r8, r9) := by rw [if_pos rfl] at H; exact H
                     clear H
                     have H := H1
                     clear H1
                     have H' := Aside0.mk H
                     clear H
                     have p28 : 0 ≤ (x7_5 : Int) := of_decide_eq_true (by first | (with_reducible assumption) | assumption)
                     have q28 : x7_5 < (a0.size : Int) := of_decide_eq_true (by first | (with_reducible assumption) | assumption)
                     have hx28 := bt_at a0 x7_5
                     replace p28 := eq_true p28
                     replace q28 := eq_true q28
                     have p34 : 0 ≤ (x7_2 : Int) := of_decide_eq_true (by first | (with_reducible assumption) | assumption)
                     have q34 : x7_2 < (a0.size : Int) := of_decide_eq_true (by first | (with_reducible assumption) | assumption)
                     have hx34 := bt_at a0 x7_2
                     replace p34 := eq_true p34
                     replace q34 := eq_true q34
                     go_wp2_with (first | (go_at_call 34; (with_reducible refine (falseworkref16_low.calls (bt a0 x7_2) true _ A35.out).mono ?_); rintro e w' ⟨rfl, ⟨nd, rfl⟩⟩))
                     refine Met.intro ?_
                     go_step
                     (repeat apply Exists.intro)
                     refine ⟨?rel, (by first | rfl | (simp only [show ((bt a0 a1) == 45) = true from by assumption]; rfl) | (simp only [show ((bt a0 a1) == 45) = false from by assumption]; rfl))⟩
                     case rel => exact ⟨_, (true), (by first | rfl | (simp; done) | (simp [*]; done)), H', ⟨by have := HJ5.out; have := HK2.out; have := HJ8.out; first | omega | exact Nat.le_refl _⟩, ⟨by (with_reducible repeat (first | refine blk_drewN ?_ _ | refine blk_drew ?_ | refine blk_alloc ?_ _)); exact BK196.out⟩, ⟨by repeat (first | (with_reducible first | exact HB.out | apply below_alloc | apply pw_below_drewN | apply below_drew1 | refine below_set ?_ GE196.out) | exact HB.out)⟩⟩
                    ·replace c36 := Bool.eq_false_iff.mpr c36
                     subst c36
                     have H1 : (falseworkref16_number.j3 kj8 a0 a1 x7_2 ((bt a0 a1) == 45) x10_2 ((bt a0 x7_2) == 95)) = some (r1, r2, r3, r4, r5, r6, r7, r8, r9) := by rw [if_neg (show ¬ (false = true) by decide)] at H; exact H
                     clear H
                     have H := H1
                     clear H1
                     have H' := Aside0.mk H
                     clear H
                     have p28 : 0 ≤ (x7_5 : Int) := of_decide_eq_true (by first | (with_reducible assumption) | assumption)
                     have q28 : x7_5 < (a0.size : Int) := of_decide_eq_true (by first | (with_reducible assumption) | assumption)
                     have hx28 := bt_at a0 x7_5
                     replace p28 := eq_true p28
                     replace q28 := eq_true q28
                     have p34 : 0 ≤ (x7_2 : Int) := of_decide_eq_true (by first | (with_reducible assumption) | assumption)
                     have q34 : x7_2 < (a0.size : Int) := of_decide_eq_true (by first | (with_reducible assumption) | assumption)
                     have hx34 := bt_at a0 x7_2
                     replace p34 := eq_true p34
                     replace q34 := eq_true q34
                     go_wp2_with (first | (go_at_call 34; (with_reducible refine (falseworkref16_low.calls (bt a0 x7_2) false _ A35.out).mono ?_); rintro e w' ⟨rfl, ⟨nd, rfl⟩⟩; have p37 : 0 ≤ (x7_2 : Int) := of_decide_eq_true (by first | (with_reducible assumption) | assumption); have q37 : x7_2 < (a0.size : Int) := of_decide_eq_true (by first | (with_reducible assumption) | assumption); have hx37 := bt_at a0 x7_2; replace p37 := eq_true p37; replace q37 := eq_true q37))
                     refine Met.intro ?_
                     go_step
                     (repeat apply Exists.intro)
                     refine ⟨?rel, (by first | rfl | (simp only [show ((bt a0 a1) == 45) = true from by assumption]; rfl) | (simp only [show ((bt a0 a1) == 45) = false from by assumption]; rfl))⟩
                     case rel => exact ⟨_, (((bt a0 x7_2) == 95)), (by first | rfl | (simp; done) | (simp [*]; done)), H', ⟨by have := HJ5.out; have := HK2.out; have := HJ8.out; first | omega | exact Nat.le_refl _⟩, ⟨by (with_reducible repeat (first | refine blk_drewN ?_ _ | refine blk_drew ?_ | refine blk_alloc ?_ _)); exact BK196.out⟩, ⟨by repeat (first | (with_reducible first | exact HB.out | apply below_alloc | apply pw_below_drewN | apply below_drew1 | refine below_set ?_ GE196.out) | exact HB.out)⟩⟩
                   ·rw [if_neg c33] at H
                    exact absurd H (by simp)
                  ·rw [if_neg c32] at H
                   have c32b0 : decide (x7_2 < (a0.size : Int)) = false := decide_eq_false c32
                   clear c32
                   have H' := Aside0.mk H
                   clear H
                   have p28 : 0 ≤ (x7_5 : Int) := of_decide_eq_true (by first | (with_reducible assumption) | assumption)
                   have q28 : x7_5 < (a0.size : Int) := of_decide_eq_true (by first | (with_reducible assumption) | assumption)
                   have hx28 := bt_at a0 x7_5
                   replace p28 := eq_true p28
                   replace q28 := eq_true q28
                   go_wp2
                   refine Met.intro ?_
                   go_step
                   (repeat apply Exists.intro)
                   refine ⟨?rel, (by first | rfl | (simp only [show ((bt a0 a1) == 45) = true from by assumption]; rfl) | (simp only [show ((bt a0 a1) == 45) = false from by assumption]; rfl))⟩
                   case rel => exact ⟨_, (false), (by first | rfl | (simp; done) | (simp [*]; done)), H', ⟨by have := HJ5.out; have := HK2.out; have := HJ8.out; first | omega | exact Nat.le_refl _⟩, ⟨by (with_reducible repeat (first | refine blk_drewN ?_ _ | refine blk_drew ?_ | refine blk_alloc ?_ _)); exact BK196.out⟩, ⟨by repeat (first | (with_reducible first | exact HB.out | apply below_alloc | apply pw_below_drewN | apply below_drew1 | refine below_set ?_ GE196.out) | exact HB.out)⟩⟩
                ·rw [if_neg c30] at H
                 have c30b0 : ((bt a0 a1) == 45) = false := by simpa using c30
                 (try (have c30b1 : decide ((bt a0 a1) = 45) = false := by simpa using c30))
                 (try (have c30b2 : ((bt a0 a1) == 45) = false := by simpa using c30))
                 (try (have c30b3 : ¬ ((bt a0 a1) = 45) := by simpa using c30))
                 clear c30
                 by_cases c38 : x10_2 = (-9223372036854775808)
                 ·rw [if_pos c38] at H
                  have c38b0 : (x10_2 == (-9223372036854775808)) = true := beq_iff_eq.mpr c38
                  have c38b1 : (x10_2 != (-9223372036854775808)) = false := bne_eq_false_iff_eq.mpr c38
                  clear c38
                  have H' := Aside0.mk H
                  clear H
                  have p28 : 0 ≤ (x7_5 : Int) := of_decide_eq_true (by first | (with_reducible assumption) | assumption)
                  have q28 : x7_5 < (a0.size : Int) := of_decide_eq_true (by first | (with_reducible assumption) | assumption)
                  have hx28 := bt_at a0 x7_5
                  replace p28 := eq_true p28
                  replace q28 := eq_true q28
                  go_wp2
                  refine Met.intro ?_
                  go_step
                  (repeat apply Exists.intro)
                  refine ⟨?rel, (by first | rfl | (simp only [show ((bt a0 a1) == 45) = true from by assumption]; rfl) | (simp only [show ((bt a0 a1) == 45) = false from by assumption]; rfl))⟩
                  case rel => exact ⟨_, (true), (by first | rfl | (simp; done) | (simp [*]; done)), H', ⟨by have := HJ5.out; have := HK2.out; have := HJ8.out; first | omega | exact Nat.le_refl _⟩, ⟨by (with_reducible repeat (first | refine blk_drewN ?_ _ | refine blk_drew ?_ | refine blk_alloc ?_ _)); exact BK196.out⟩, ⟨by repeat (first | (with_reducible first | exact HB.out | apply below_alloc | apply pw_below_drewN | apply below_drew1 | refine below_set ?_ GE196.out) | exact HB.out)⟩⟩
                 ·rw [if_neg c38] at H
                  have c38b0 : (x10_2 == (-9223372036854775808)) = false := beq_eq_false_iff_ne.mpr c38
                  have c38b1 : (x10_2 != (-9223372036854775808)) = true := bne_iff_ne.mpr c38
                  by_cases c39 : x7_2 < (a0.size : Int)
                  ·rw [if_pos c39] at H
                   have c39b0 : decide (x7_2 < (a0.size : Int)) = true := decide_eq_true c39
                   clear c39
                   by_cases c40 : 0 ≤ x7_2
                   ·rw [if_pos c40] at H
                    have c40b0 : decide (0 ≤ x7_2) = true := decide_eq_true c40
                    clear c40
                    replace H := Option.bind_eq_some_iff.mp H
                    obtain ⟨t199, A420, H⟩ := H
                    replace H : (if t199 = true then (falseworkref16_number.j3 kj8 a0 a1 x7_2 ((bt a0 a1) == 45) x10_2 true) else (falseworkref16_number.j3 kj8 a0 a1 x7_2 ((bt a0 a1) == 45) x10_2 ((bt a0 x7_2) == 95))) = some (r1, r2, r3, r4, r5, r6, r7, r8, r9) := H
                    have A42 := Aside0.mk A420
                    clear A420
                    by_cases c43 : t199 = true
                    ·subst c43
                     have H1 : (falseworkref16_number.j3 kj8 a0 a1 x7_2 ((bt a0 a1) == 45) x10_2 true) = some (r1, r2, r3, r4, r5, r6, r7, r8, r9) := by rw [if_pos rfl] at H; exact H
                     clear H
                     have H := H1
                     clear H1
                     have H' := Aside0.mk H
                     clear H
                     have p28 : 0 ≤ (x7_5 : Int) := of_decide_eq_true (by first | (with_reducible assumption) | assumption)
                     have q28 : x7_5 < (a0.size : Int) := of_decide_eq_true (by first | (with_reducible assumption) | assumption)
                     have hx28 := bt_at a0 x7_5
                     replace p28 := eq_true p28
                     replace q28 := eq_true q28
                     have p41 : 0 ≤ (x7_2 : Int) := of_decide_eq_true (by first | (with_reducible assumption) | assumption)
                     have q41 : x7_2 < (a0.size : Int) := of_decide_eq_true (by first | (with_reducible assumption) | assumption)
                     have hx41 := bt_at a0 x7_2
                     replace p41 := eq_true p41
                     replace q41 := eq_true q41
                     go_wp2_with (first | (go_at_call 34; (with_reducible refine (falseworkref16_low.calls (bt a0 x7_2) true _ A42.out).mono ?_); rintro e w' ⟨rfl, ⟨nd, rfl⟩⟩))
                     refine Met.intro ?_
                     go_step
                     (repeat apply Exists.intro)
                     refine ⟨?rel, (by first | rfl | (simp only [show ((bt a0 a1) == 45) = true from by assumption]; rfl) | (simp only [show ((bt a0 a1) == 45) = false from by assumption]; rfl))⟩
                     case rel => exact ⟨_, (true), (by first | rfl | (simp; done) | (simp [*]; done)), H', ⟨by have := HJ5.out; have := HK2.out; have := HJ8.out; first | omega | exact Nat.le_refl _⟩, ⟨by (with_reducible repeat (first | refine blk_drewN ?_ _ | refine blk_drew ?_ | refine blk_alloc ?_ _)); exact BK196.out⟩, ⟨by repeat (first | (with_reducible first | exact HB.out | apply below_alloc | apply pw_below_drewN | apply below_drew1 | refine below_set ?_ GE196.out) | exact HB.out)⟩⟩
                    ·replace c43 := Bool.eq_false_iff.mpr c43
                     subst c43
                     have H1 : (falseworkref16_number.j3 kj8 a0 a1 x7_2 ((bt a0 a1) == 45) x10_2 ((bt a0 x7_2) == 95)) = some (r1, r2, r3, r4, r5, r6, r7, r8, r9) := by rw [if_neg (show ¬ (false = true) by decide)] at H; exact H
                     clear H
                     have H := H1
                     clear H1
                     have H' := Aside0.mk H
                     clear H
                     have p28 : 0 ≤ (x7_5 : Int) := of_decide_eq_true (by first | (with_reducible assumption) | assumption)
                     have q28 : x7_5 < (a0.size : Int) := of_decide_eq_true (by first | (with_reducible assumption) | assumption)
                     have hx28 := bt_at a0 x7_5
                     replace p28 := eq_true p28
                     replace q28 := eq_true q28
                     have p41 : 0 ≤ (x7_2 : Int) := of_decide_eq_true (by first | (with_reducible assumption) | assumption)
                     have q41 : x7_2 < (a0.size : Int) := of_decide_eq_true (by first | (with_reducible assumption) | assumption)
                     have hx41 := bt_at a0 x7_2
                     replace p41 := eq_true p41
                     replace q41 := eq_true q41
                     go_wp2_with (first | (go_at_call 34; (with_reducible refine (falseworkref16_low.calls (bt a0 x7_2) false _ A42.out).mono ?_); rintro e w' ⟨rfl, ⟨nd, rfl⟩⟩; have p44 : 0 ≤ (x7_2 : Int) := of_decide_eq_true (by first | (with_reducible assumption) | assumption); have q44 : x7_2 < (a0.size : Int) := of_decide_eq_true (by first | (with_reducible assumption) | assumption); have hx44 := bt_at a0 x7_2; replace p44 := eq_true p44; replace q44 := eq_true q44))
                     refine Met.intro ?_
                     go_step
                     (repeat apply Exists.intro)
                     refine ⟨?rel, (by first | rfl | (simp only [show ((bt a0 a1) == 45) = true from by assumption]; rfl) | (simp only [show ((bt a0 a1) == 45) = false from by assumption]; rfl))⟩
                     case rel => exact ⟨_, (((bt a0 x7_2) == 95)), (by first | rfl | (simp; done) | (simp [*]; done)), H', ⟨by have := HJ5.out; have := HK2.out; have := HJ8.out; first | omega | exact Nat.le_refl _⟩, ⟨by (with_reducible repeat (first | refine blk_drewN ?_ _ | refine blk_drew ?_ | refine blk_alloc ?_ _)); exact BK196.out⟩, ⟨by repeat (first | (with_reducible first | exact HB.out | apply below_alloc | apply pw_below_drewN | apply below_drew1 | refine below_set ?_ GE196.out) | exact HB.out)⟩⟩
                   ·rw [if_neg c40] at H
                    exact absurd H (by simp)
                  ·rw [if_neg c39] at H
                   have c39b0 : decide (x7_2 < (a0.size : Int)) = false := decide_eq_false c39
                   clear c39
                   have H' := Aside0.mk H
                   clear H
                   have p28 : 0 ≤ (x7_5 : Int) := of_decide_eq_true (by first | (with_reducible assumption) | assumption)
                   have q28 : x7_5 < (a0.size : Int) := of_decide_eq_true (by first | (with_reducible assumption) | assumption)
                   have hx28 := bt_at a0 x7_5
                   replace p28 := eq_true p28
                   replace q28 := eq_true q28
                   go_wp2
                   refine Met.intro ?_
                   go_step
                   (repeat apply Exists.intro)
                   refine ⟨?rel, (by first | rfl | (simp only [show ((bt a0 a1) == 45) = true from by assumption]; rfl) | (simp only [show ((bt a0 a1) == 45) = false from by assumption]; rfl))⟩
                   case rel => exact ⟨_, (false), (by first | rfl | (simp; done) | (simp [*]; done)), H', ⟨by have := HJ5.out; have := HK2.out; have := HJ8.out; first | omega | exact Nat.le_refl _⟩, ⟨by (with_reducible repeat (first | refine blk_drewN ?_ _ | refine blk_drew ?_ | refine blk_alloc ?_ _)); exact BK196.out⟩, ⟨by repeat (first | (with_reducible first | exact HB.out | apply below_alloc | apply pw_below_drewN | apply below_drew1 | refine below_set ?_ GE196.out) | exact HB.out)⟩⟩
              ·rw [if_neg c27] at H
               exact absurd H (by simp)
             ·rw [if_neg c26] at H
              exact absurd H (by simp)
            ·rw [if_neg c25] at H
             have c25b0 : decide ((wrap64 (x7_5 + 1)) < x7_2) = false := decide_eq_false c25
             clear c25
             by_cases c45 : ((bt a0 a1) == 45) = true
             ·rw [if_pos c45] at H
              have c45b0 : ((bt a0 a1) == 45) = true := c45
              (try (have c45b1 : decide ((bt a0 a1) = 45) = true := by simpa using c45))
              (try (have c45b2 : ((bt a0 a1) == 45) = true := by simpa using c45))
              clear c45
              by_cases c46 : x10_2 = 0
              ·rw [if_pos c46] at H
               have c46b0 : (x10_2 == 0) = true := beq_iff_eq.mpr c46
               have c46b1 : (x10_2 != 0) = false := bne_eq_false_iff_eq.mpr c46
               clear c46
               have H' := Aside0.mk H
               clear H
               go_wp2
               refine Met.intro ?_
               go_step
               (repeat apply Exists.intro)
               refine ⟨?rel, (by first | rfl | (simp only [show ((bt a0 a1) == 45) = true from by assumption]; rfl) | (simp only [show ((bt a0 a1) == 45) = false from by assumption]; rfl))⟩
               case rel => exact ⟨_, (true), (by first | rfl | (simp; done) | (simp [*]; done)), H', ⟨by have := HJ5.out; have := HK2.out; have := HJ8.out; first | omega | exact Nat.le_refl _⟩, ⟨by (with_reducible repeat (first | refine blk_drewN ?_ _ | refine blk_drew ?_ | refine blk_alloc ?_ _)); exact BK196.out⟩, ⟨by repeat (first | (with_reducible first | exact HB.out | apply below_alloc | apply pw_below_drewN | apply below_drew1 | refine below_set ?_ GE196.out) | exact HB.out)⟩⟩
              ·rw [if_neg c46] at H
               have c46b0 : (x10_2 == 0) = false := beq_eq_false_iff_ne.mpr c46
               have c46b1 : (x10_2 != 0) = true := bne_iff_ne.mpr c46
               by_cases c47 : x7_2 < (a0.size : Int)
               ·rw [if_pos c47] at H
                have c47b0 : decide (x7_2 < (a0.size : Int)) = true := decide_eq_true c47
                clear c47
                by_cases c48 : 0 ≤ x7_2
                ·rw [if_pos c48] at H
                 have c48b0 : decide (0 ≤ x7_2) = true := decide_eq_true c48
                 clear c48
                 replace H := Option.bind_eq_some_iff.mp H
                 obtain ⟨t200, A500, H⟩ := H
                 replace H : (if t200 = true then (falseworkref16_number.j3 kj8 a0 a1 x7_2 ((bt a0 a1) == 45) x10_2 true) else (falseworkref16_number.j3 kj8 a0 a1 x7_2 ((bt a0 a1) == 45) x10_2 ((bt a0 x7_2) == 95))) = some (r1, r2, r3, r4, r5, r6, r7, r8, r9) := H
                 have A50 := Aside0.mk A500
                 clear A500
                 by_cases c51 : t200 = true
                 ·subst c51
                  have H1 : (falseworkref16_number.j3 kj8 a0 a1 x7_2 ((bt a0 a1) == 45) x10_2 true) = some (r1, r2, r3, r4, r5, r6, r7, r8, r9) := by rw [if_pos rfl] at H; exact H
                  clear H
                  have H := H1
                  clear H1
                  have H' := Aside0.mk H
                  clear H
                  have p49 : 0 ≤ (x7_2 : Int) := of_decide_eq_true (by first | (with_reducible assumption) | assumption)
                  have q49 : x7_2 < (a0.size : Int) := of_decide_eq_true (by first | (with_reducible assumption) | assumption)
                  have hx49 := bt_at a0 x7_2
                  replace p49 := eq_true p49
                  replace q49 := eq_true q49
                  go_wp2_with (first | (go_at_call 34; (with_reducible refine (falseworkref16_low.calls (bt a0 x7_2) true _ A50.out).mono ?_); rintro e w' ⟨rfl, ⟨nd, rfl⟩⟩))
                  refine Met.intro ?_
                  go_step
                  (repeat apply Exists.intro)
                  refine ⟨?rel, (by first | rfl | (simp only [show ((bt a0 a1) == 45) = true from by assumption]; rfl) | (simp only [show ((bt a0 a1) == 45) = false from by assumption]; rfl))⟩
                  case rel => exact ⟨_, (true), (by first | rfl | (simp; done) | (simp [*]; done)), H', ⟨by have := HJ5.out; have := HK2.out; have := HJ8.out; first | omega | exact Nat.le_refl _⟩, ⟨by (with_reducible repeat (first | refine blk_drewN ?_ _ | refine blk_drew ?_ | refine blk_alloc ?_ _)); exact BK196.out⟩, ⟨by repeat (first | (with_reducible first | exact HB.out | apply below_alloc | apply pw_below_drewN | apply below_drew1 | refine below_set ?_ GE196.out) | exact HB.out)⟩⟩
                 ·replace c51 := Bool.eq_false_iff.mpr c51
                  subst c51
                  have H1 : (falseworkref16_number.j3 kj8 a0 a1 x7_2 ((bt a0 a1) == 45) x10_2 ((bt a0 x7_2) == 95)) = some (r1, r2, r3, r4, r5, r6, r7, r8, r9) := by rw [if_neg (show ¬ (false = true) by decide)] at H; exact H
                  clear H
                  have H := H1
                  clear H1
                  have H' := Aside0.mk H
                  clear H
                  have p49 : 0 ≤ (x7_2 : Int) := of_decide_eq_true (by first | (with_reducible assumption) | assumption)
                  have q49 : x7_2 < (a0.size : Int) := of_decide_eq_true (by first | (with_reducible assumption) | assumption)
                  have hx49 := bt_at a0 x7_2
                  replace p49 := eq_true p49
                  replace q49 := eq_true q49
                  go_wp2_with (first | (go_at_call 34; (with_reducible refine (falseworkref16_low.calls (bt a0 x7_2) false _ A50.out).mono ?_); rintro e w' ⟨rfl, ⟨nd, rfl⟩⟩; have p52 : 0 ≤ (x7_2 : Int) := of_decide_eq_true (by first | (with_reducible assumption) | assumption); have q52 : x7_2 < (a0.size : Int) := of_decide_eq_true (by first | (with_reducible assumption) | assumption); have hx52 := bt_at a0 x7_2; replace p52 := eq_true p52; replace q52 := eq_true q52))
                  refine Met.intro ?_
                  go_step
                  (repeat apply Exists.intro)
                  refine ⟨?rel, (by first | rfl | (simp only [show ((bt a0 a1) == 45) = true from by assumption]; rfl) | (simp only [show ((bt a0 a1) == 45) = false from by assumption]; rfl))⟩
                  case rel => exact ⟨_, (((bt a0 x7_2) == 95)), (by first | rfl | (simp; done) | (simp [*]; done)), H', ⟨by have := HJ5.out; have := HK2.out; have := HJ8.out; first | omega | exact Nat.le_refl _⟩, ⟨by (with_reducible repeat (first | refine blk_drewN ?_ _ | refine blk_drew ?_ | refine blk_alloc ?_ _)); exact BK196.out⟩, ⟨by repeat (first | (with_reducible first | exact HB.out | apply below_alloc | apply pw_below_drewN | apply below_drew1 | refine below_set ?_ GE196.out) | exact HB.out)⟩⟩
                ·rw [if_neg c48] at H
                 exact absurd H (by simp)
               ·rw [if_neg c47] at H
                have c47b0 : decide (x7_2 < (a0.size : Int)) = false := decide_eq_false c47
                clear c47
                have H' := Aside0.mk H
                clear H
                go_wp2
                refine Met.intro ?_
                go_step
                (repeat apply Exists.intro)
                refine ⟨?rel, (by first | rfl | (simp only [show ((bt a0 a1) == 45) = true from by assumption]; rfl) | (simp only [show ((bt a0 a1) == 45) = false from by assumption]; rfl))⟩
                case rel => exact ⟨_, (false), (by first | rfl | (simp; done) | (simp [*]; done)), H', ⟨by have := HJ5.out; have := HK2.out; have := HJ8.out; first | omega | exact Nat.le_refl _⟩, ⟨by (with_reducible repeat (first | refine blk_drewN ?_ _ | refine blk_drew ?_ | refine blk_alloc ?_ _)); exact BK196.out⟩, ⟨by repeat (first | (with_reducible first | exact HB.out | apply below_alloc | apply pw_below_drewN | apply below_drew1 | refine below_set ?_ GE196.out) | exact HB.out)⟩⟩
             ·rw [if_neg c45] at H
              have c45b0 : ((bt a0 a1) == 45) = false := by simpa using c45
              (try (have c45b1 : decide ((bt a0 a1) = 45) = false := by simpa using c45))
              (try (have c45b2 : ((bt a0 a1) == 45) = false := by simpa using c45))
              (try (have c45b3 : ¬ ((bt a0 a1) = 45) := by simpa using c45))
              clear c45
              by_cases c53 : x10_2 = (-9223372036854775808)
              ·rw [if_pos c53] at H
               have c53b0 : (x10_2 == (-9223372036854775808)) = true := beq_iff_eq.mpr c53
               have c53b1 : (x10_2 != (-9223372036854775808)) = false := bne_eq_false_iff_eq.mpr c53
               clear c53
               have H' := Aside0.mk H
               clear H
               go_wp2
               refine Met.intro ?_
               go_step
               (repeat apply Exists.intro)
               refine ⟨?rel, (by first | rfl | (simp only [show ((bt a0 a1) == 45) = true from by assumption]; rfl) | (simp only [show ((bt a0 a1) == 45) = false from by assumption]; rfl))⟩
               case rel => exact ⟨_, (true), (by first | rfl | (simp; done) | (simp [*]; done)), H', ⟨by have := HJ5.out; have := HK2.out; have := HJ8.out; first | omega | exact Nat.le_refl _⟩, ⟨by (with_reducible repeat (first | refine blk_drewN ?_ _ | refine blk_drew ?_ | refine blk_alloc ?_ _)); exact BK196.out⟩, ⟨by repeat (first | (with_reducible first | exact HB.out | apply below_alloc | apply pw_below_drewN | apply below_drew1 | refine below_set ?_ GE196.out) | exact HB.out)⟩⟩
              ·rw [if_neg c53] at H
               have c53b0 : (x10_2 == (-9223372036854775808)) = false := beq_eq_false_iff_ne.mpr c53
               have c53b1 : (x10_2 != (-9223372036854775808)) = true := bne_iff_ne.mpr c53
               by_cases c54 : x7_2 < (a0.size : Int)
               ·rw [if_pos c54] at H
                have c54b0 : decide (x7_2 < (a0.size : Int)) = true := decide_eq_true c54
                clear c54
                by_cases c55 : 0 ≤ x7_2
                ·rw [if_pos c55] at H
                 have c55b0 : decide (0 ≤ x7_2) = true := decide_eq_true c55
                 clear c55
                 replace H := Option.bind_eq_some_iff.mp H
                 obtain ⟨t201, A570, H⟩ := H
                 replace H : (if t201 = true then (falseworkref16_number.j3 kj8 a0 a1 x7_2 ((bt a0 a1) == 45) x10_2 true) else (falseworkref16_number.j3 kj8 a0 a1 x7_2 ((bt a0 a1) == 45) x10_2 ((bt a0 x7_2) == 95))) = some (r1, r2, r3, r4, r5, r6, r7, r8, r9) := H
                 have A57 := Aside0.mk A570
                 clear A570
                 by_cases c58 : t201 = true
                 ·subst c58
                  have H1 : (falseworkref16_number.j3 kj8 a0 a1 x7_2 ((bt a0 a1) == 45) x10_2 true) = some (r1, r2, r3, r4, r5, r6, r7, r8, r9) := by rw [if_pos rfl] at H; exact H
                  clear H
                  have H := H1
                  clear H1
                  have H' := Aside0.mk H
                  clear H
                  have p56 : 0 ≤ (x7_2 : Int) := of_decide_eq_true (by first | (with_reducible assumption) | assumption)
                  have q56 : x7_2 < (a0.size : Int) := of_decide_eq_true (by first | (with_reducible assumption) | assumption)
                  have hx56 := bt_at a0 x7_2
                  replace p56 := eq_true p56
                  replace q56 := eq_true q56
                  go_wp2_with (first | (go_at_call 34; (with_reducible refine (falseworkref16_low.calls (bt a0 x7_2) true _ A57.out).mono ?_); rintro e w' ⟨rfl, ⟨nd, rfl⟩⟩))
                  refine Met.intro ?_
                  go_step
                  (repeat apply Exists.intro)
                  refine ⟨?rel, (by first | rfl | (simp only [show ((bt a0 a1) == 45) = true from by assumption]; rfl) | (simp only [show ((bt a0 a1) == 45) = false from by assumption]; rfl))⟩
                  case rel => exact ⟨_, (true), (by first | rfl | (simp; done) | (simp [*]; done)), H', ⟨by have := HJ5.out; have := HK2.out; have := HJ8.out; first | omega | exact Nat.le_refl _⟩, ⟨by (with_reducible repeat (first | refine blk_drewN ?_ _ | refine blk_drew ?_ | refine blk_alloc ?_ _)); exact BK196.out⟩, ⟨by repeat (first | (with_reducible first | exact HB.out | apply below_alloc | apply pw_below_drewN | apply below_drew1 | refine below_set ?_ GE196.out) | exact HB.out)⟩⟩
                 ·replace c58 := Bool.eq_false_iff.mpr c58
                  subst c58
                  have H1 : (falseworkref16_number.j3 kj8 a0 a1 x7_2 ((bt a0 a1) == 45) x10_2 ((bt a0 x7_2) == 95)) = some (r1, r2, r3, r4, r5, r6, r7, r8, r9) := by rw [if_neg (show ¬ (false = true) by decide)] at H; exact H
                  clear H
                  have H := H1
                  clear H1
                  have H' := Aside0.mk H
                  clear H
                  have p56 : 0 ≤ (x7_2 : Int) := of_decide_eq_true (by first | (with_reducible assumption) | assumption)
                  have q56 : x7_2 < (a0.size : Int) := of_decide_eq_true (by first | (with_reducible assumption) | assumption)
                  have hx56 := bt_at a0 x7_2
                  replace p56 := eq_true p56
                  replace q56 := eq_true q56
                  go_wp2_with (first | (go_at_call 34; (with_reducible refine (falseworkref16_low.calls (bt a0 x7_2) false _ A57.out).mono ?_); rintro e w' ⟨rfl, ⟨nd, rfl⟩⟩; have p59 : 0 ≤ (x7_2 : Int) := of_decide_eq_true (by first | (with_reducible assumption) | assumption); have q59 : x7_2 < (a0.size : Int) := of_decide_eq_true (by first | (with_reducible assumption) | assumption); have hx59 := bt_at a0 x7_2; replace p59 := eq_true p59; replace q59 := eq_true q59))
                  refine Met.intro ?_
                  go_step
                  (repeat apply Exists.intro)
                  refine ⟨?rel, (by first | rfl | (simp only [show ((bt a0 a1) == 45) = true from by assumption]; rfl) | (simp only [show ((bt a0 a1) == 45) = false from by assumption]; rfl))⟩
                  case rel => exact ⟨_, (((bt a0 x7_2) == 95)), (by first | rfl | (simp; done) | (simp [*]; done)), H', ⟨by have := HJ5.out; have := HK2.out; have := HJ8.out; first | omega | exact Nat.le_refl _⟩, ⟨by (with_reducible repeat (first | refine blk_drewN ?_ _ | refine blk_drew ?_ | refine blk_alloc ?_ _)); exact BK196.out⟩, ⟨by repeat (first | (with_reducible first | exact HB.out | apply below_alloc | apply pw_below_drewN | apply below_drew1 | refine below_set ?_ GE196.out) | exact HB.out)⟩⟩
                ·rw [if_neg c55] at H
                 exact absurd H (by simp)
               ·rw [if_neg c54] at H
                have c54b0 : decide (x7_2 < (a0.size : Int)) = false := decide_eq_false c54
                clear c54
                have H' := Aside0.mk H
                clear H
                go_wp2
                refine Met.intro ?_
                go_step
                (repeat apply Exists.intro)
                refine ⟨?rel, (by first | rfl | (simp only [show ((bt a0 a1) == 45) = true from by assumption]; rfl) | (simp only [show ((bt a0 a1) == 45) = false from by assumption]; rfl))⟩
                case rel => exact ⟨_, (false), (by first | rfl | (simp; done) | (simp [*]; done)), H', ⟨by have := HJ5.out; have := HK2.out; have := HJ8.out; first | omega | exact Nat.le_refl _⟩, ⟨by (with_reducible repeat (first | refine blk_drewN ?_ _ | refine blk_drew ?_ | refine blk_alloc ?_ _)); exact BK196.out⟩, ⟨by repeat (first | (with_reducible first | exact HB.out | apply below_alloc | apply pw_below_drewN | apply below_drew1 | refine below_set ?_ GE196.out) | exact HB.out)⟩⟩
          case rest =>
           clear HC23
           try clear c1
           try clear p1
           try clear q1
           try clear hx1
           try clear c2
           try clear p2
           try clear q2
           try clear hx2
           try clear c3
           try clear c3b0
           try clear p3
           try clear q3
           try clear hx3
           try clear c4
           try clear c4b0
           try clear p4
           try clear q4
           try clear hx4
           try clear c5
           try clear p5
           try clear q5
           try clear hx5
           try clear p6
           try clear c8
           try clear c8b0
           try clear c8b1
           try clear c10
           try clear c10b0
           try clear c11
           try clear c11b0
           try clear p12
           try clear q12
           try clear hx12
           try clear c14
           try clear c15
           try clear c15b0
           try clear c16
           try clear c16b0
           try clear p17
           try clear q17
           try clear hx17
           try clear c18
           try clear c18b0
           try clear c20
           try clear c20b0
           try clear c20b1
           try clear c21
           try clear c21b0
           try clear c24
           try clear c24b0
           try clear c24b1
           try clear c25
           try clear c25b0
           try clear c26
           try clear c26b0
           try clear c27
           try clear c27b0
           try clear p28
           try clear q28
           try clear hx28
           try clear c29
           try clear c29b0
           try clear c29b1
           try clear c30
           try clear c30b0
           try clear c30b1
           try clear c30b2
           try clear c31
           try clear c31b0
           try clear c31b1
           try clear c32
           try clear c32b0
           try clear c33
           try clear c33b0
           try clear p34
           try clear q34
           try clear hx34
           try clear c36
           try clear p37
           try clear q37
           try clear hx37
           try clear c38
           try clear c38b0
           try clear c38b1
           try clear c39
           try clear c39b0
           try clear c40
           try clear c40b0
           try clear p41
           try clear q41
           try clear hx41
           try clear c43
           try clear p44
           try clear q44
           try clear hx44
           try clear c45
           try clear c45b0
           try clear c45b1
           try clear c45b2
           try clear c46
           try clear c46b0
           try clear c46b1
           try clear c47
           try clear c47b0
           try clear c48
           try clear c48b0
           try clear p49
           try clear q49
           try clear hx49
           try clear c51
           try clear p52
           try clear q52
           try clear hx52
           try clear c53
           try clear c53b0
           try clear c53b1
           try clear c54
           try clear c54b0
           try clear c55
           try clear c55b0
           try clear p56
           try clear q56
           try clear hx56
           try clear c58
           try clear p59
           try clear q59
           try clear hx59
           try clear hcz19_0
           try clear hcz19_1
           try clear hcz19_2
           try clear hcz19_3
           try clear hcz19_4
           try clear hcz19_5
           try clear hcz19_6
           try clear hcz22_0
           try clear hcz22_1
           try clear hcz22_2
           try clear hcz22_3
           try clear hcz22_4
           try clear hcz22_5
           try clear hcz22_6
           try clear hfz19_0
           try clear hfz19_1
           try clear hfz19_2
           try clear hfz19_3
           try clear hfz19_4
           try clear hfz19_5
           try clear hfz19_6
           try clear hfz22_0
           try clear hfz22_1
           try clear hfz22_2
           try clear hfz22_3
           try clear hfz22_4
           try clear hfz22_5
           try clear hfz22_6
           try clear p1
           try clear p12
           try clear p17
           try clear p2
           try clear p28
           try clear p34
           try clear p37
           try clear p41
           try clear p44
           try clear p49
           try clear p5
           try clear p52
           try clear p56
           try clear p59
           try clear p6
           try clear q1
           try clear q12
           try clear q17
           try clear q28
           try clear q34
           try clear q37
           try clear q41
           try clear q44
           try clear q49
           try clear q5
           try clear q52
           try clear q56
           try clear q59
           obtain ⟨kq, x109_22, rfl, HA, HJ22, BK196, HB⟩ := hcut
           cases kq with
           | zero => exact absurd HA.out (by simp [falseworkref16_number.j3])
           | succ kj22 =>
            have H := HA.out
            clear HA
            simp only [falseworkref16_number.j3] at H
            by_cases c60 : x109_22 = true
            ·subst c60
             have H1 : (some (0, (⟨#[]⟩ : ByteArray), 0, 0, 0, (⟨#[]⟩ : ByteArray), 0, 0, false)) = some (r1, r2, r3, r4, r5, r6, r7, r8, r9) := by rw [if_pos rfl] at H; exact H
             clear H
             have H := H1
             clear H1
             simp only [Option.some.injEq, Prod.mk.injEq] at H
             obtain ⟨rfl, rfl, rfl, rfl, rfl, rfl, rfl, rfl, rfl⟩ := H
             have hcz61_0 : wc.cell? ⟨gb196, 0, none⟩ = some (.int .i64 x197000_2) := (blk_cell BK196.out 0).trans rfl
             have hcz61_1 : wc.cell? ⟨gb196, 1, none⟩ = some (.string x197001_2) := (blk_cell BK196.out 1).trans rfl
             have hcz61_2 : wc.cell? ⟨gb196, 2, none⟩ = some (.int .i64 x197002_2) := (blk_cell BK196.out 2).trans rfl
             have hcz61_3 : wc.cell? ⟨gb196, 3, none⟩ = some (.int .i64 x197003_2) := (blk_cell BK196.out 3).trans rfl
             have hcz61_4 : wc.cell? ⟨gb196, 4, none⟩ = some (.int .u64 x197004_2) := (blk_cell BK196.out 4).trans rfl
             have hcz61_5 : wc.cell? ⟨gb196, 5, none⟩ = some (.string x197005_2) := (blk_cell BK196.out 5).trans rfl
             have hcz61_6 : wc.cell? ⟨gb196, 6, none⟩ = some (.int .i64 x197006_2) := (blk_cell BK196.out 6).trans rfl
             have hfz61_0 := blk_frozen BK196.out 0
             have hfz61_1 := blk_frozen BK196.out 1
             have hfz61_2 := blk_frozen BK196.out 2
             have hfz61_3 := blk_frozen BK196.out 3
             have hfz61_4 := blk_frozen BK196.out 4
             have hfz61_5 := blk_frozen BK196.out 5
             have hfz61_6 := blk_frozen BK196.out 6
             go_wp2
             refine bodyPost_ret (results_ctt rfl _ _ gb196 47 #[.int .i64 0, .string (⟨#[]⟩ : ByteArray), .int .i64 0, .int .i64 0, .int .u64 0, .string (⟨#[]⟩ : ByteArray), .int .i64 0] (0, 0) _ rfl (by (with_reducible repeat (first | refine blk_drewN ?_ _ | refine blk_drew ?_ | refine blk_alloc ?_ _)); refine blk_put (cs := #[.int .i64 0, .string (⟨#[]⟩ : ByteArray), .int .i64 0, .int .i64 0, .int .u64 0, .string (⟨#[]⟩ : ByteArray), .int .i64 x197006_2]) ?_ 6 _ rfl; (with_reducible repeat (first | refine blk_drewN ?_ _ | refine blk_drew ?_ | refine blk_alloc ?_ _)); refine blk_put (cs := #[.int .i64 0, .string (⟨#[]⟩ : ByteArray), .int .i64 0, .int .i64 0, .int .u64 0, .string x197005_2, .int .i64 x197006_2]) ?_ 5 _ rfl; (with_reducible repeat (first | refine blk_drewN ?_ _ | refine blk_drew ?_ | refine blk_alloc ?_ _)); refine blk_put (cs := #[.int .i64 0, .string (⟨#[]⟩ : ByteArray), .int .i64 0, .int .i64 0, .int .u64 x197004_2, .string x197005_2, .int .i64 x197006_2]) ?_ 4 _ rfl; (with_reducible repeat (first | refine blk_drewN ?_ _ | refine blk_drew ?_ | refine blk_alloc ?_ _)); refine blk_put (cs := #[.int .i64 0, .string (⟨#[]⟩ : ByteArray), .int .i64 0, .int .i64 x197003_2, .int .u64 x197004_2, .string x197005_2, .int .i64 x197006_2]) ?_ 3 _ rfl; (with_reducible repeat (first | refine blk_drewN ?_ _ | refine blk_drew ?_ | refine blk_alloc ?_ _)); refine blk_put (cs := #[.int .i64 0, .string (⟨#[]⟩ : ByteArray), .int .i64 x197002_2, .int .i64 x197003_2, .int .u64 x197004_2, .string x197005_2, .int .i64 x197006_2]) ?_ 2 _ rfl; (with_reducible repeat (first | refine blk_drewN ?_ _ | refine blk_drew ?_ | refine blk_alloc ?_ _)); refine blk_put (cs := #[.int .i64 0, .string x197001_2, .int .i64 x197002_2, .int .i64 x197003_2, .int .u64 x197004_2, .string x197005_2, .int .i64 x197006_2]) ?_ 1 _ rfl; (with_reducible repeat (first | refine blk_drewN ?_ _ | refine blk_drew ?_ | refine blk_alloc ?_ _)); refine blk_put (cs := #[.int .i64 x197000_2, .string x197001_2, .int .i64 x197002_2, .int .i64 x197003_2, .int .u64 x197004_2, .string x197005_2, .int .i64 x197006_2]) ?_ 0 _ rfl; (with_reducible repeat (first | refine blk_drewN ?_ _ | refine blk_drew ?_ | refine blk_alloc ?_ _)); exact BK196.out) Tryd.underlying47 rfl (by kernel_rfl)) rfl ?_
             exact ⟨by first | rfl | (simp [errW_none, errW_some] <;> rfl) | (simp [*, errW_none, errW_some] <;> rfl), by repeat (first | (with_reducible first | exact HB.out | apply below_alloc | apply pw_below_drewN | apply below_drew1 | refine below_set ?_ GE196.out) | exact HB.out)⟩
            ·replace c60 := Bool.eq_false_iff.mpr c60
             subst c60
             have H1 : (if ((bt a0 a1) == 45) = true then (if 0 ≤ a1 then (if a1 ≤ x7_2 then (if x7_2 ≤ (a0.size : Int) then (some (3, a0.extract (a1 : Int).toNat (x7_2 : Int).toNat, 2, x10_2, 0, (⟨#[]⟩ : ByteArray), a1, x7_2, true)) else (none)) else (none)) else (none)) else (if 0 ≤ a1 then (if a1 ≤ x7_2 then (if x7_2 ≤ (a0.size : Int) then (some (3, a0.extract (a1 : Int).toNat (x7_2 : Int).toNat, 2, wrap64 (-x10_2), 0, (⟨#[]⟩ : ByteArray), a1, x7_2, true)) else (none)) else (none)) else (none))) = some (r1, r2, r3, r4, r5, r6, r7, r8, r9) := by rw [if_neg (show ¬ (false = true) by decide)] at H; exact H
             clear H
             have H := H1
             clear H1
             by_cases c62 : ((bt a0 a1) == 45) = true
             ·rw [if_pos c62] at H
              have c62b0 : ((bt a0 a1) == 45) = true := c62
              (try (have c62b1 : decide ((bt a0 a1) = 45) = true := by simpa using c62))
              (try (have c62b2 : ((bt a0 a1) == 45) = true := by simpa using c62))
              clear c62
              by_cases c63 : 0 ≤ a1
              ·rw [if_pos c63] at H
               have c63b0 := eq_true c63
               have c63b1 : decide (0 ≤ a1) = true := decide_eq_true c63
               clear c63
               by_cases c64 : a1 ≤ x7_2
               ·rw [if_pos c64] at H
                have c64b0 := eq_true c64
                have c64b1 : decide (a1 ≤ x7_2) = true := decide_eq_true c64
                clear c64
                by_cases c65 : x7_2 ≤ (a0.size : Int)
                ·rw [if_pos c65] at H
                 have c65b0 := eq_true c65
                 have c65b1 : decide (x7_2 ≤ (a0.size : Int)) = true := decide_eq_true c65
                 clear c65
                 simp only [Option.some.injEq, Prod.mk.injEq] at H
                 obtain ⟨rfl, rfl, rfl, rfl, rfl, rfl, rfl, rfl, rfl⟩ := H
                 have hcz66_0 : wc.cell? ⟨gb196, 0, none⟩ = some (.int .i64 x197000_2) := (blk_cell BK196.out 0).trans rfl
                 have hcz66_1 : wc.cell? ⟨gb196, 1, none⟩ = some (.string x197001_2) := (blk_cell BK196.out 1).trans rfl
                 have hcz66_2 : wc.cell? ⟨gb196, 2, none⟩ = some (.int .i64 x197002_2) := (blk_cell BK196.out 2).trans rfl
                 have hcz66_3 : wc.cell? ⟨gb196, 3, none⟩ = some (.int .i64 x197003_2) := (blk_cell BK196.out 3).trans rfl
                 have hcz66_4 : wc.cell? ⟨gb196, 4, none⟩ = some (.int .u64 x197004_2) := (blk_cell BK196.out 4).trans rfl
                 have hcz66_5 : wc.cell? ⟨gb196, 5, none⟩ = some (.string x197005_2) := (blk_cell BK196.out 5).trans rfl
                 have hcz66_6 : wc.cell? ⟨gb196, 6, none⟩ = some (.int .i64 x197006_2) := (blk_cell BK196.out 6).trans rfl
                 have hfz66_0 := blk_frozen BK196.out 0
                 have hfz66_1 := blk_frozen BK196.out 1
                 have hfz66_2 := blk_frozen BK196.out 2
                 have hfz66_3 := blk_frozen BK196.out 3
                 have hfz66_4 := blk_frozen BK196.out 4
                 have hfz66_5 := blk_frozen BK196.out 5
                 have hfz66_6 := blk_frozen BK196.out 6
                 go_wp2
                 refine bodyPost_ret (results_ctt rfl _ _ gb196 47 #[.int .i64 3, .string (a0.extract (a1 : Int).toNat (x7_2 : Int).toNat), .int .i64 2, .int .i64 x10_2, .int .u64 0, .string (⟨#[]⟩ : ByteArray), .int .i64 a1] (0, 0) _ rfl (by (with_reducible repeat (first | refine blk_drewN ?_ _ | refine blk_drew ?_ | refine blk_alloc ?_ _)); refine blk_put (cs := #[.int .i64 3, .string (a0.extract (a1 : Int).toNat (x7_2 : Int).toNat), .int .i64 2, .int .i64 x10_2, .int .u64 0, .string (⟨#[]⟩ : ByteArray), .int .i64 x197006_2]) ?_ 6 _ rfl; (with_reducible repeat (first | refine blk_drewN ?_ _ | refine blk_drew ?_ | refine blk_alloc ?_ _)); refine blk_put (cs := #[.int .i64 3, .string (a0.extract (a1 : Int).toNat (x7_2 : Int).toNat), .int .i64 2, .int .i64 x10_2, .int .u64 0, .string x197005_2, .int .i64 x197006_2]) ?_ 5 _ rfl; (with_reducible repeat (first | refine blk_drewN ?_ _ | refine blk_drew ?_ | refine blk_alloc ?_ _)); refine blk_put (cs := #[.int .i64 3, .string (a0.extract (a1 : Int).toNat (x7_2 : Int).toNat), .int .i64 2, .int .i64 x10_2, .int .u64 x197004_2, .string x197005_2, .int .i64 x197006_2]) ?_ 4 _ rfl; (with_reducible repeat (first | refine blk_drewN ?_ _ | refine blk_drew ?_ | refine blk_alloc ?_ _)); refine blk_put (cs := #[.int .i64 3, .string (a0.extract (a1 : Int).toNat (x7_2 : Int).toNat), .int .i64 2, .int .i64 x197003_2, .int .u64 x197004_2, .string x197005_2, .int .i64 x197006_2]) ?_ 3 _ rfl; (with_reducible repeat (first | refine blk_drewN ?_ _ | refine blk_drew ?_ | refine blk_alloc ?_ _)); refine blk_put (cs := #[.int .i64 3, .string (a0.extract (a1 : Int).toNat (x7_2 : Int).toNat), .int .i64 x197002_2, .int .i64 x197003_2, .int .u64 x197004_2, .string x197005_2, .int .i64 x197006_2]) ?_ 2 _ rfl; (with_reducible repeat (first | refine blk_drewN ?_ _ | refine blk_drew ?_ | refine blk_alloc ?_ _)); refine blk_put (cs := #[.int .i64 3, .string x197001_2, .int .i64 x197002_2, .int .i64 x197003_2, .int .u64 x197004_2, .string x197005_2, .int .i64 x197006_2]) ?_ 1 _ rfl; (with_reducible repeat (first | refine blk_drewN ?_ _ | refine blk_drew ?_ | refine blk_alloc ?_ _)); refine blk_put (cs := #[.int .i64 x197000_2, .string x197001_2, .int .i64 x197002_2, .int .i64 x197003_2, .int .u64 x197004_2, .string x197005_2, .int .i64 x197006_2]) ?_ 0 _ rfl; (with_reducible repeat (first | refine blk_drewN ?_ _ | refine blk_drew ?_ | refine blk_alloc ?_ _)); exact BK196.out) Tryd.underlying47 rfl (by kernel_rfl)) rfl ?_
                 exact ⟨by first | rfl | (simp [errW_none, errW_some] <;> rfl) | (simp [*, errW_none, errW_some] <;> rfl), by repeat (first | (with_reducible first | exact HB.out | apply below_alloc | apply pw_below_drewN | apply below_drew1 | refine below_set ?_ GE196.out) | exact HB.out)⟩
                ·rw [if_neg c65] at H
                 exact absurd H (by simp)
               ·rw [if_neg c64] at H
                exact absurd H (by simp)
              ·rw [if_neg c63] at H
               exact absurd H (by simp)
             ·rw [if_neg c62] at H
              have c62b0 : ((bt a0 a1) == 45) = false := by simpa using c62
              (try (have c62b1 : decide ((bt a0 a1) = 45) = false := by simpa using c62))
              (try (have c62b2 : ((bt a0 a1) == 45) = false := by simpa using c62))
              (try (have c62b3 : ¬ ((bt a0 a1) = 45) := by simpa using c62))
              clear c62
              by_cases c67 : 0 ≤ a1
              ·rw [if_pos c67] at H
               have c67b0 := eq_true c67
               have c67b1 : decide (0 ≤ a1) = true := decide_eq_true c67
               clear c67
               by_cases c68 : a1 ≤ x7_2
               ·rw [if_pos c68] at H
                have c68b0 := eq_true c68
                have c68b1 : decide (a1 ≤ x7_2) = true := decide_eq_true c68
                clear c68
                by_cases c69 : x7_2 ≤ (a0.size : Int)
                ·rw [if_pos c69] at H
                 have c69b0 := eq_true c69
                 have c69b1 : decide (x7_2 ≤ (a0.size : Int)) = true := decide_eq_true c69
                 clear c69
                 simp only [Option.some.injEq, Prod.mk.injEq] at H
                 obtain ⟨rfl, rfl, rfl, rfl, rfl, rfl, rfl, rfl, rfl⟩ := H
                 have hcz70_0 : wc.cell? ⟨gb196, 0, none⟩ = some (.int .i64 x197000_2) := (blk_cell BK196.out 0).trans rfl
                 have hcz70_1 : wc.cell? ⟨gb196, 1, none⟩ = some (.string x197001_2) := (blk_cell BK196.out 1).trans rfl
                 have hcz70_2 : wc.cell? ⟨gb196, 2, none⟩ = some (.int .i64 x197002_2) := (blk_cell BK196.out 2).trans rfl
                 have hcz70_3 : wc.cell? ⟨gb196, 3, none⟩ = some (.int .i64 x197003_2) := (blk_cell BK196.out 3).trans rfl
                 have hcz70_4 : wc.cell? ⟨gb196, 4, none⟩ = some (.int .u64 x197004_2) := (blk_cell BK196.out 4).trans rfl
                 have hcz70_5 : wc.cell? ⟨gb196, 5, none⟩ = some (.string x197005_2) := (blk_cell BK196.out 5).trans rfl
                 have hcz70_6 : wc.cell? ⟨gb196, 6, none⟩ = some (.int .i64 x197006_2) := (blk_cell BK196.out 6).trans rfl
                 have hfz70_0 := blk_frozen BK196.out 0
                 have hfz70_1 := blk_frozen BK196.out 1
                 have hfz70_2 := blk_frozen BK196.out 2
                 have hfz70_3 := blk_frozen BK196.out 3
                 have hfz70_4 := blk_frozen BK196.out 4
                 have hfz70_5 := blk_frozen BK196.out 5
                 have hfz70_6 := blk_frozen BK196.out 6
                 go_wp2
                 refine bodyPost_ret (results_ctt rfl _ _ gb196 47 #[.int .i64 3, .string (a0.extract (a1 : Int).toNat (x7_2 : Int).toNat), .int .i64 2, .int .i64 (wrap64 (-x10_2)), .int .u64 0, .string (⟨#[]⟩ : ByteArray), .int .i64 a1] (0, 0) _ rfl (by (with_reducible repeat (first | refine blk_drewN ?_ _ | refine blk_drew ?_ | refine blk_alloc ?_ _)); refine blk_put (cs := #[.int .i64 3, .string (a0.extract (a1 : Int).toNat (x7_2 : Int).toNat), .int .i64 2, .int .i64 (wrap64 (-x10_2)), .int .u64 0, .string (⟨#[]⟩ : ByteArray), .int .i64 x197006_2]) ?_ 6 _ rfl; (with_reducible repeat (first | refine blk_drewN ?_ _ | refine blk_drew ?_ | refine blk_alloc ?_ _)); refine blk_put (cs := #[.int .i64 3, .string (a0.extract (a1 : Int).toNat (x7_2 : Int).toNat), .int .i64 2, .int .i64 (wrap64 (-x10_2)), .int .u64 0, .string x197005_2, .int .i64 x197006_2]) ?_ 5 _ rfl; (with_reducible repeat (first | refine blk_drewN ?_ _ | refine blk_drew ?_ | refine blk_alloc ?_ _)); refine blk_put (cs := #[.int .i64 3, .string (a0.extract (a1 : Int).toNat (x7_2 : Int).toNat), .int .i64 2, .int .i64 (wrap64 (-x10_2)), .int .u64 x197004_2, .string x197005_2, .int .i64 x197006_2]) ?_ 4 _ rfl; (with_reducible repeat (first | refine blk_drewN ?_ _ | refine blk_drew ?_ | refine blk_alloc ?_ _)); refine blk_put (cs := #[.int .i64 3, .string (a0.extract (a1 : Int).toNat (x7_2 : Int).toNat), .int .i64 2, .int .i64 x197003_2, .int .u64 x197004_2, .string x197005_2, .int .i64 x197006_2]) ?_ 3 _ rfl; (with_reducible repeat (first | refine blk_drewN ?_ _ | refine blk_drew ?_ | refine blk_alloc ?_ _)); refine blk_put (cs := #[.int .i64 3, .string (a0.extract (a1 : Int).toNat (x7_2 : Int).toNat), .int .i64 x197002_2, .int .i64 x197003_2, .int .u64 x197004_2, .string x197005_2, .int .i64 x197006_2]) ?_ 2 _ rfl; (with_reducible repeat (first | refine blk_drewN ?_ _ | refine blk_drew ?_ | refine blk_alloc ?_ _)); refine blk_put (cs := #[.int .i64 3, .string x197001_2, .int .i64 x197002_2, .int .i64 x197003_2, .int .u64 x197004_2, .string x197005_2, .int .i64 x197006_2]) ?_ 1 _ rfl; (with_reducible repeat (first | refine blk_drewN ?_ _ | refine blk_drew ?_ | refine blk_alloc ?_ _)); refine blk_put (cs := #[.int .i64 x197000_2, .string x197001_2, .int .i64 x197002_2, .int .i64 x197003_2, .int .u64 x197004_2, .string x197005_2, .int .i64 x197006_2]) ?_ 0 _ rfl; (with_reducible repeat (first | refine blk_drewN ?_ _ | refine blk_drew ?_ | refine blk_alloc ?_ _)); exact BK196.out) Tryd.underlying47 rfl (by kernel_rfl)) rfl ?_
                 exact ⟨by first | rfl | (simp [errW_none, errW_some] <;> rfl) | (simp [*, errW_none, errW_some] <;> rfl), by repeat (first | (with_reducible first | exact HB.out | apply below_alloc | apply pw_below_drewN | apply below_drew1 | refine below_set ?_ GE196.out) | exact HB.out)⟩
                ·rw [if_neg c69] at H
                 exact absurd H (by simp)
               ·rw [if_neg c68] at H
                exact absurd H (by simp)
              ·rw [if_neg c67] at H
               exact absurd H (by simp)
  ·rw [if_neg c4] at H
   exact absurd H (by simp)
 ·rw [if_neg c3] at H
  exact absurd H (by simp)
end Go.Proofs.YtjehfmimbbdnkaaDoor.L
