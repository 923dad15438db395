/- Own texts of this session, packed by its program wip/pp/pack.py: lemmas and walks of functions. -/
import Derived.Laws.BitsAllLaws
import Derived.Test.YtjgomlcdmpcoaaaDoorKCC3
import Derived.Test.YtjgomlcdmpcoaaaDoorKCC5
import Derived.Test.YtjgomlcdmpcoaaaDoorKCC7
namespace Go.Proofs.YtjgomlcdmpcoaaaDoor.D
open Go.RowKit Go.Proofs.YtjgomlcdmpcoaaaDoorW.PrintWords Go.Proofs.YtjgomlcdmpcoaaaDoorW.PrintLast Go.Proofs.YtjgomlcdmpcoaaaDoorW.PrintMore
attribute [local go_sem] max2_int min2_int max_two min_two max_three min_three max_four min_four
set_option linter.unusedVariables false
set_option linter.unusedSimpArgs false
def falseworkref1_Canon.f (a0 : Int) : Option (Int) := if (Go.bits .andNot .u64 a0 9223372036854775808) > 9218868437227405312 then (some 9221120237041090560) else (if a0 = 9223372036854775808 then (some 0) else (some a0))
set_option maxHeartbeats 8000000 in
set_option maxRecDepth 100000 in
theorem falseworkref1_Canon.calls (a0 : Int) (r : Int) (w : World) (h : falseworkref1_Canon.f a0 = some r) :
  Calls Tryd.prog 159 #[.int .u64 a0] w fun e w' => e = .returned (.int .u64 r) ∧ Drawn0 w w' := by
 have H : (if (Go.bits .andNot .u64 a0 9223372036854775808) > 9218868437227405312 then (some 9221120237041090560) else (if a0 = 9223372036854775808 then (some 0) else (some a0))) = some r := h
 clear h; by_cases c2 : (Go.bits .andNot .u64 a0 9223372036854775808) > 9218868437227405312
 ·rw [if_pos c2] at H
  have c2b0 : decide (9218868437227405312 < (Go.bits .andNot .u64 a0 9223372036854775808)) = true := decide_eq_true c2
  clear c2; obtain rfl := Option.some.inj H; go_enter Tryd.func159, Tryd.ntmps159
  go_wp2; go_ret; exact ⟨by first | rfl | (simp; done) | (simp [*]; done), by repeat (first | exact Drawn0.refl _ | apply Drawn0.step)⟩
 ·rw [if_neg c2] at H
  have c2b0 : decide (9218868437227405312 < (Go.bits .andNot .u64 a0 9223372036854775808)) = false := decide_eq_false c2
  clear c2; by_cases c3 : a0 = 9223372036854775808
  ·rw [if_pos c3] at H
   have c3b0 : (a0 == 9223372036854775808) = true := beq_iff_eq.mpr c3
   have c3b1 : (a0 != 9223372036854775808) = false := bne_eq_false_iff_eq.mpr c3
   clear c3; obtain rfl := Option.some.inj H; go_enter Tryd.func159, Tryd.ntmps159
   go_wp2; go_ret; exact ⟨by first | rfl | (simp; done) | (simp [*]; done), by repeat (first | exact Drawn0.refl _ | apply Drawn0.step)⟩
  ·rw [if_neg c3] at H
   have c3b0 : (a0 == 9223372036854775808) = false := beq_eq_false_iff_ne.mpr c3
   have c3b1 : (a0 != 9223372036854775808) = true := bne_iff_ne.mpr c3
   obtain rfl := Option.some.inj H; go_enter Tryd.func159, Tryd.ntmps159
   go_wp2; go_ret; exact ⟨by first | rfl | (simp; done) | (simp [*]; done), by repeat (first | exact Drawn0.refl _ | apply Drawn0.step)⟩
end Go.Proofs.YtjgomlcdmpcoaaaDoor.D
namespace Go.Proofs.YtjgomlcdmpcoaaaDoor.D
open Go.RowKit Go.Proofs.YtjgomlcdmpcoaaaDoorW.PrintWords Go.Proofs.YtjgomlcdmpcoaaaDoorW.PrintLast Go.Proofs.YtjgomlcdmpcoaaaDoorW.PrintMore
attribute [local go_sem] max2_int min2_int max_two min_two max_three min_three max_four min_four
set_option linter.unusedVariables false
set_option linter.unusedSimpArgs false
def falseworkref2_May.f (a0_0 : Int) (a0_1 : Int) (a0_2 : Int) (a0_3 : ByteArray) : Option (Bool) := if a0_0 = 0 then (if a0_1 = 0 then (if a0_2 = 0 then (some (a0_3.toList == ([] : List UInt8))) else (some false)) else (some false)) else (if a0_0 = 1 then (if a0_1 = 0 then (if a0_2 = 0 then (some (a0_3.toList == ([] : List UInt8))) else (some false)) else (if a0_1 = 1 then (if a0_2 = 0 then (some (a0_3.toList == ([] : List UInt8))) else (some false)) else (some false))) else (if a0_0 = 2 then (if a0_2 = 0 then (some (a0_3.toList == ([] : List UInt8))) else (some false)) else (if a0_0 = 3 then (if a0_1 = 0 then (if a0_3.toList = ([] : List UInt8) then ((falseworkref1_Canon.f a0_2).bind fun t136 => (some (t136 == a0_2))) else (some false)) else (some false)) else (if a0_0 = 4 then (if a0_1 = 0 then (if a0_2 = 0 then (some (decide ((a0_3.size : Int) ≤ 40))) else (some false)) else (some false)) else (if a0_0 = 5 then (if a0_1 = 0 then (if a0_2 = 0 then (some (decide ((a0_3.size : Int) ≤ 40))) else (some false)) else (some false)) else (some false))))))
set_option maxHeartbeats 8000000 in
set_option maxRecDepth 100000 in
theorem falseworkref2_May.calls (a0_0 : Int) (a0_1 : Int) (a0_2 : Int) (a0_3 : ByteArray) (r : Bool) (w : World) (h : falseworkref2_May.f a0_0 a0_1 a0_2 a0_3 = some r) :
  Calls Tryd.prog 118 #[.agg #[.int .i64 a0_0, .int .i64 a0_1, .int .u64 a0_2, .string a0_3]] w fun e w' => e = .returned (.bool r) ∧ Below w.heap.size w w' := by
 have hu73 := Tryd.underlying73
 have HB := Aside0.mk (Below.refl w.heap.size w)
 have H : (if a0_0 = 0 then (if a0_1 = 0 then (if a0_2 = 0 then (some (a0_3.toList == ([] : List UInt8))) else (some false)) else (some false)) else (if a0_0 = 1 then (if a0_1 = 0 then (if a0_2 = 0 then (some (a0_3.toList == ([] : List UInt8))) else (some false)) else (if a0_1 = 1 then (if a0_2 = 0 then (some (a0_3.toList == ([] : List UInt8))) else (some false)) else (some false))) else (if a0_0 = 2 then (if a0_2 = 0 then (some (a0_3.toList == ([] : List UInt8))) else (some false)) else (if a0_0 = 3 then (if a0_1 = 0 then (if a0_3.toList = ([] : List UInt8) then ((falseworkref1_Canon.f a0_2).bind fun t136 => (some (t136 == a0_2))) else (some false)) else (some false)) else (if a0_0 = 4 then (if a0_1 = 0 then (if a0_2 = 0 then (some (decide ((a0_3.size : Int) ≤ 40))) else (some false)) else (some false)) else (if a0_0 = 5 then (if a0_1 = 0 then (if a0_2 = 0 then (some (decide ((a0_3.size : Int) ≤ 40))) else (some false)) else (some false)) else (some false))))))) = some r := h
 clear h; by_cases c2 : a0_0 = 0
 ·rw [if_pos c2] at H
  have c2b0 : (a0_0 == 0) = true := beq_iff_eq.mpr c2
  have c2b1 : (a0_0 != 0) = false := bne_eq_false_iff_eq.mpr c2
  clear c2; by_cases c3 : a0_1 = 0
  ·rw [if_pos c3] at H
   have c3b0 : (a0_1 == 0) = true := beq_iff_eq.mpr c3
   have c3b1 : (a0_1 != 0) = false := bne_eq_false_iff_eq.mpr c3
   clear c3; by_cases c4 : a0_2 = 0
   ·rw [if_pos c4] at H
    have c4b0 : (a0_2 == 0) = true := beq_iff_eq.mpr c4
    have c4b1 : (a0_2 != 0) = false := bne_eq_false_iff_eq.mpr c4
    clear c4; obtain rfl := Option.some.inj H; go_enter Tryd.func118, Tryd.ntmps118
    go_wp2; go_ret; exact ⟨by first | rfl | (simp [*] <;> rfl), by repeat (first | exact HB.out | exact Below.refl _ _ | apply below_alloc | apply pw_below_drewN | apply below_drew1)⟩
   ·rw [if_neg c4] at H
    have c4b0 : (a0_2 == 0) = false := beq_eq_false_iff_ne.mpr c4
    have c4b1 : (a0_2 != 0) = true := bne_iff_ne.mpr c4
    obtain rfl := Option.some.inj H; go_enter Tryd.func118, Tryd.ntmps118
    go_wp2; go_ret; exact ⟨by first | rfl | (simp [*] <;> rfl), by repeat (first | exact HB.out | exact Below.refl _ _ | apply below_alloc | apply pw_below_drewN | apply below_drew1)⟩
  ·rw [if_neg c3] at H
   have c3b0 : (a0_1 == 0) = false := beq_eq_false_iff_ne.mpr c3
   have c3b1 : (a0_1 != 0) = true := bne_iff_ne.mpr c3
   obtain rfl := Option.some.inj H; go_enter Tryd.func118, Tryd.ntmps118
   go_wp2; go_ret; exact ⟨by first | rfl | (simp [*] <;> rfl), by repeat (first | exact HB.out | exact Below.refl _ _ | apply below_alloc | apply pw_below_drewN | apply below_drew1)⟩
 ·rw [if_neg c2] at H
  have c2b0 : (a0_0 == 0) = false := beq_eq_false_iff_ne.mpr c2
  have c2b1 : (a0_0 != 0) = true := bne_iff_ne.mpr c2
  by_cases c11 : a0_0 = 1
  ·rw [if_pos c11] at H
   have c11b0 : (a0_0 == 1) = true := beq_iff_eq.mpr c11
   have c11b1 : (a0_0 != 1) = false := bne_eq_false_iff_eq.mpr c11
   clear c11; by_cases c12 : a0_1 = 0
   ·rw [if_pos c12] at H
    have c12b0 : (a0_1 == 0) = true := beq_iff_eq.mpr c12
    have c12b1 : (a0_1 != 0) = false := bne_eq_false_iff_eq.mpr c12
    clear c12; by_cases c13 : a0_2 = 0
    ·rw [if_pos c13] at H
     have c13b0 : (a0_2 == 0) = true := beq_iff_eq.mpr c13
     have c13b1 : (a0_2 != 0) = false := bne_eq_false_iff_eq.mpr c13
     clear c13; obtain rfl := Option.some.inj H; go_enter Tryd.func118, Tryd.ntmps118
     go_wp2; go_ret; exact ⟨by first | rfl | (simp [*] <;> rfl), by repeat (first | exact HB.out | exact Below.refl _ _ | apply below_alloc | apply pw_below_drewN | apply below_drew1)⟩
    ·rw [if_neg c13] at H
     have c13b0 : (a0_2 == 0) = false := beq_eq_false_iff_ne.mpr c13
     have c13b1 : (a0_2 != 0) = true := bne_iff_ne.mpr c13
     obtain rfl := Option.some.inj H; go_enter Tryd.func118, Tryd.ntmps118
     go_wp2; go_ret; exact ⟨by first | rfl | (simp [*] <;> rfl), by repeat (first | exact HB.out | exact Below.refl _ _ | apply below_alloc | apply pw_below_drewN | apply below_drew1)⟩
   ·rw [if_neg c12] at H
    have c12b0 : (a0_1 == 0) = false := beq_eq_false_iff_ne.mpr c12
    have c12b1 : (a0_1 != 0) = true := bne_iff_ne.mpr c12
    by_cases c18 : a0_1 = 1
    ·rw [if_pos c18] at H
     have c18b0 : (a0_1 == 1) = true := beq_iff_eq.mpr c18
     have c18b1 : (a0_1 != 1) = false := bne_eq_false_iff_eq.mpr c18
     clear c18; by_cases c19 : a0_2 = 0
     ·rw [if_pos c19] at H
      have c19b0 : (a0_2 == 0) = true := beq_iff_eq.mpr c19
      have c19b1 : (a0_2 != 0) = false := bne_eq_false_iff_eq.mpr c19
      clear c19; obtain rfl := Option.some.inj H; go_enter Tryd.func118, Tryd.ntmps118
      go_wp2; go_ret; exact ⟨by first | rfl | (simp [*] <;> rfl), by repeat (first | exact HB.out | exact Below.refl _ _ | apply below_alloc | apply pw_below_drewN | apply below_drew1)⟩
     ·rw [if_neg c19] at H
      have c19b0 : (a0_2 == 0) = false := beq_eq_false_iff_ne.mpr c19
      have c19b1 : (a0_2 != 0) = true := bne_iff_ne.mpr c19
      obtain rfl := Option.some.inj H; go_enter Tryd.func118, Tryd.ntmps118
      go_wp2; go_ret; exact ⟨by first | rfl | (simp [*] <;> rfl), by repeat (first | exact HB.out | exact Below.refl _ _ | apply below_alloc | apply pw_below_drewN | apply below_drew1)⟩
    ·rw [if_neg c18] at H
     have c18b0 : (a0_1 == 1) = false := beq_eq_false_iff_ne.mpr c18
     have c18b1 : (a0_1 != 1) = true := bne_iff_ne.mpr c18
     obtain rfl := Option.some.inj H; go_enter Tryd.func118, Tryd.ntmps118
     go_wp2; go_ret; exact ⟨by first | rfl | (simp [*] <;> rfl), by repeat (first | exact HB.out | exact Below.refl _ _ | apply below_alloc | apply pw_below_drewN | apply below_drew1)⟩
  ·rw [if_neg c11] at H
   have c11b0 : (a0_0 == 1) = false := beq_eq_false_iff_ne.mpr c11
   have c11b1 : (a0_0 != 1) = true := bne_iff_ne.mpr c11
   by_cases c26 : a0_0 = 2
   ·rw [if_pos c26] at H
    have c26b0 : (a0_0 == 2) = true := beq_iff_eq.mpr c26
    have c26b1 : (a0_0 != 2) = false := bne_eq_false_iff_eq.mpr c26
    clear c26; by_cases c27 : a0_2 = 0
    ·rw [if_pos c27] at H
     have c27b0 : (a0_2 == 0) = true := beq_iff_eq.mpr c27
     have c27b1 : (a0_2 != 0) = false := bne_eq_false_iff_eq.mpr c27
     clear c27; obtain rfl := Option.some.inj H; go_enter Tryd.func118, Tryd.ntmps118
     go_wp2; go_ret; exact ⟨by first | rfl | (simp [*] <;> rfl), by repeat (first | exact HB.out | exact Below.refl _ _ | apply below_alloc | apply pw_below_drewN | apply below_drew1)⟩
    ·rw [if_neg c27] at H
     have c27b0 : (a0_2 == 0) = false := beq_eq_false_iff_ne.mpr c27
     have c27b1 : (a0_2 != 0) = true := bne_iff_ne.mpr c27
     obtain rfl := Option.some.inj H; go_enter Tryd.func118, Tryd.ntmps118
     go_wp2; go_ret; exact ⟨by first | rfl | (simp [*] <;> rfl), by repeat (first | exact HB.out | exact Below.refl _ _ | apply below_alloc | apply pw_below_drewN | apply below_drew1)⟩
   ·rw [if_neg c26] at H
    have c26b0 : (a0_0 == 2) = false := beq_eq_false_iff_ne.mpr c26
    have c26b1 : (a0_0 != 2) = true := bne_iff_ne.mpr c26
    by_cases c32 : a0_0 = 3
    ·rw [if_pos c32] at H
     have c32b0 : (a0_0 == 3) = true := beq_iff_eq.mpr c32
     have c32b1 : (a0_0 != 3) = false := bne_eq_false_iff_eq.mpr c32
     clear c32; by_cases c33 : a0_1 = 0
     ·rw [if_pos c33] at H
      have c33b0 : (a0_1 == 0) = true := beq_iff_eq.mpr c33
      have c33b1 : (a0_1 != 0) = false := bne_eq_false_iff_eq.mpr c33
      clear c33; by_cases c34 : a0_3.toList = ([] : List UInt8)
      ·rw [if_pos c34] at H
       have c34b0 : (a0_3.toList == ([] : List UInt8)) = true := beq_iff_eq.mpr c34
       have c34b1 : (a0_3.toList != ([] : List UInt8)) = false := bne_eq_false_iff_eq.mpr c34
       clear c34; replace H := Option.bind_eq_some_iff.mp H; obtain ⟨t136, A350, H⟩ := H
       replace H : (some (t136 == a0_2)) = some r := H
       have A35 := Aside0.mk A350; clear A350; obtain rfl := Option.some.inj H; go_enter Tryd.func118, Tryd.ntmps118
       go_wp2
       repeat (go_quiet (first | (go_at_call 159; (with_reducible refine (falseworkref1_Canon.calls a0_2 t136 _ A35.out).mono ?_); rintro e w' ⟨rfl, ⟨nd, rfl⟩⟩; (try first | exact ⟨rfl, _, World.drewN_drewN _ _ _⟩ | exact ⟨rfl, _, Eq.trans (World.drewN_drewN _ _ _) (congrArg (World.drewN _) (Nat.add_assoc _ _ _))⟩))); try go_wp2_with (first | ((with_reducible refine gate_dst (N := 1) rfl ?_); (try (refine gate_guard (by rfl) ?_; dsimp only)); refine box_event ?hg (N := 1) ?hd (cs := #[.int .i64 a0_0, .int .i64 a0_1, .int .u64 a0_2, .string a0_3]) (t := 73) ?hr ?_; (case hd => rfl); (case hg => rfl); (case hr => first | (go_simp; done) | (go_simp; rfl)); intro gb135 hg w36 hbox hb; have n0_ := Aside0.mk (below_step (by repeat (first | (with_reducible first | exact HB.out | apply below_alloc | apply pw_below_drewN | apply below_drew1) | exact HB.out)) hb); have n1_ := Aside0.mk (hbox); have n2_ := Aside0.mk ((by rw [hg]; exact (below_size (by repeat (first | (with_reducible first | exact HB.out | apply below_alloc | apply pw_below_drewN | apply below_drew1) | exact HB.out))) : w.heap.size ≤ gb135)); have n3_ := Aside0.mk ((by rw [hg]; exact (below_size (by repeat (first | (with_reducible first | exact HB.out | apply below_alloc | apply pw_below_drewN | apply below_drew1) | exact HB.out))) : w.heap.size ≤ gb135)); clear HB; have HB := n0_; have BK135 := n1_; have GW135 := n2_; have GE135 := n3_; clear n0_ n1_ n2_ n3_; clear hb hbox hg; have hcz37_0 : w36.cell? ⟨gb135, 0, none⟩ = some (.int .i64 a0_0) := (pwC BK135.out 0).trans rfl; have hcz37_1 : w36.cell? ⟨gb135, 1, none⟩ = some (.int .i64 a0_1) := (pwC BK135.out 1).trans rfl; have hcz37_2 : w36.cell? ⟨gb135, 2, none⟩ = some (.int .u64 a0_2) := (pwC BK135.out 2).trans rfl; have hcz37_3 : w36.cell? ⟨gb135, 3, none⟩ = some (.string a0_3) := (pwC BK135.out 3).trans rfl; have hfz37_0 := blk_frozen BK135.out 0; have hfz37_1 := blk_frozen BK135.out 1; have hfz37_2 := blk_frozen BK135.out 2; have hfz37_3 := blk_frozen BK135.out 3) | (go_at_call 159; (with_reducible refine (falseworkref1_Canon.calls a0_2 t136 _ A35.out).mono ?_); rintro e w' ⟨rfl, ⟨nd, rfl⟩⟩; (try first | exact ⟨rfl, _, World.drewN_drewN _ _ _⟩ | exact ⟨rfl, _, Eq.trans (World.drewN_drewN _ _ _) (congrArg (World.drewN _) (Nat.add_assoc _ _ _))⟩))))
       go_ret; exact ⟨by first | rfl | (simp [*] <;> rfl), by repeat (first | exact HB.out | exact Below.refl _ _ | apply below_alloc | apply pw_below_drewN | apply below_drew1)⟩
      ·rw [if_neg c34] at H
       have c34b0 : (a0_3.toList == ([] : List UInt8)) = false := beq_eq_false_iff_ne.mpr c34
       have c34b1 : (a0_3.toList != ([] : List UInt8)) = true := bne_iff_ne.mpr c34
       obtain rfl := Option.some.inj H; go_enter Tryd.func118, Tryd.ntmps118
       go_wp2_with (first | ((with_reducible refine gate_dst (N := 1) rfl ?_); (try (refine gate_guard (by rfl) ?_; dsimp only)); refine box_event ?hg (N := 1) ?hd (cs := #[.int .i64 a0_0, .int .i64 a0_1, .int .u64 a0_2, .string a0_3]) (t := 73) ?hr ?_; (case hd => rfl); (case hg => rfl); (case hr => first | (go_simp; done) | (go_simp; rfl)); intro gb135 hg w38 hbox hb; have n0_ := Aside0.mk (below_step (by repeat (first | (with_reducible first | exact HB.out | apply below_alloc | apply pw_below_drewN | apply below_drew1) | exact HB.out)) hb); have n1_ := Aside0.mk (hbox); have n2_ := Aside0.mk ((by rw [hg]; exact (below_size (by repeat (first | (with_reducible first | exact HB.out | apply below_alloc | apply pw_below_drewN | apply below_drew1) | exact HB.out))) : w.heap.size ≤ gb135)); have n3_ := Aside0.mk ((by rw [hg]; exact (below_size (by repeat (first | (with_reducible first | exact HB.out | apply below_alloc | apply pw_below_drewN | apply below_drew1) | exact HB.out))) : w.heap.size ≤ gb135)); clear HB; have HB := n0_; have BK135 := n1_; have GW135 := n2_; have GE135 := n3_; clear n0_ n1_ n2_ n3_; clear hb hbox hg; have hcz39_0 : w38.cell? ⟨gb135, 0, none⟩ = some (.int .i64 a0_0) := (pwC BK135.out 0).trans rfl; have hcz39_1 : w38.cell? ⟨gb135, 1, none⟩ = some (.int .i64 a0_1) := (pwC BK135.out 1).trans rfl; have hcz39_2 : w38.cell? ⟨gb135, 2, none⟩ = some (.int .u64 a0_2) := (pwC BK135.out 2).trans rfl; have hcz39_3 : w38.cell? ⟨gb135, 3, none⟩ = some (.string a0_3) := (pwC BK135.out 3).trans rfl; have hfz39_0 := blk_frozen BK135.out 0; have hfz39_1 := blk_frozen BK135.out 1; have hfz39_2 := blk_frozen BK135.out 2; have hfz39_3 := blk_frozen BK135.out 3))
       repeat (go_quiet (first | fail); try go_wp2_with (first | ((with_reducible refine gate_dst (N := 1) rfl ?_); (try (refine gate_guard (by rfl) ?_; dsimp only)); refine box_event ?hg (N := 1) ?hd (cs := #[.int .i64 a0_0, .int .i64 a0_1, .int .u64 a0_2, .string a0_3]) (t := 73) ?hr ?_; (case hd => rfl); (case hg => rfl); (case hr => first | (go_simp; done) | (go_simp; rfl)); intro gb135 hg w38 hbox hb; have n0_ := Aside0.mk (below_step (by repeat (first | (with_reducible first | exact HB.out | apply below_alloc | apply pw_below_drewN | apply below_drew1) | exact HB.out)) hb); have n1_ := Aside0.mk (hbox); have n2_ := Aside0.mk ((by rw [hg]; exact (below_size (by repeat (first | (with_reducible first | exact HB.out | apply below_alloc | apply pw_below_drewN | apply below_drew1) | exact HB.out))) : w.heap.size ≤ gb135)); have n3_ := Aside0.mk ((by rw [hg]; exact (below_size (by repeat (first | (with_reducible first | exact HB.out | apply below_alloc | apply pw_below_drewN | apply below_drew1) | exact HB.out))) : w.heap.size ≤ gb135)); clear HB; have HB := n0_; have BK135 := n1_; have GW135 := n2_; have GE135 := n3_; clear n0_ n1_ n2_ n3_; clear hb hbox hg; have hcz39_0 : w38.cell? ⟨gb135, 0, none⟩ = some (.int .i64 a0_0) := (pwC BK135.out 0).trans rfl; have hcz39_1 : w38.cell? ⟨gb135, 1, none⟩ = some (.int .i64 a0_1) := (pwC BK135.out 1).trans rfl; have hcz39_2 : w38.cell? ⟨gb135, 2, none⟩ = some (.int .u64 a0_2) := (pwC BK135.out 2).trans rfl; have hcz39_3 : w38.cell? ⟨gb135, 3, none⟩ = some (.string a0_3) := (pwC BK135.out 3).trans rfl; have hfz39_0 := blk_frozen BK135.out 0; have hfz39_1 := blk_frozen BK135.out 1; have hfz39_2 := blk_frozen BK135.out 2; have hfz39_3 := blk_frozen BK135.out 3)))
       go_ret; exact ⟨by first | rfl | (simp [errW_none, errW_some] <;> rfl) | (simp [*, errW_none, errW_some] <;> rfl), by repeat (first | (with_reducible first | exact HB.out | apply below_alloc | apply pw_below_drewN | apply below_drew1 | refine below_set ?_ GE135.out) | exact HB.out)⟩
     ·rw [if_neg c33] at H
      have c33b0 : (a0_1 == 0) = false := beq_eq_false_iff_ne.mpr c33
      have c33b1 : (a0_1 != 0) = true := bne_iff_ne.mpr c33
      obtain rfl := Option.some.inj H; go_enter Tryd.func118, Tryd.ntmps118
      go_wp2_with (first | ((with_reducible refine gate_dst (N := 1) rfl ?_); (try (refine gate_guard (by rfl) ?_; dsimp only)); refine box_event ?hg (N := 1) ?hd (cs := #[.int .i64 a0_0, .int .i64 a0_1, .int .u64 a0_2, .string a0_3]) (t := 73) ?hr ?_; (case hd => rfl); (case hg => rfl); (case hr => first | (go_simp; done) | (go_simp; rfl)); intro gb135 hg w40 hbox hb; have n0_ := Aside0.mk (below_step (by repeat (first | (with_reducible first | exact HB.out | apply below_alloc | apply pw_below_drewN | apply below_drew1) | exact HB.out)) hb); have n1_ := Aside0.mk (hbox); have n2_ := Aside0.mk ((by rw [hg]; exact (below_size (by repeat (first | (with_reducible first | exact HB.out | apply below_alloc | apply pw_below_drewN | apply below_drew1) | exact HB.out))) : w.heap.size ≤ gb135)); have n3_ := Aside0.mk ((by rw [hg]; exact (below_size (by repeat (first | (with_reducible first | exact HB.out | apply below_alloc | apply pw_below_drewN | apply below_drew1) | exact HB.out))) : w.heap.size ≤ gb135)); clear HB; have HB := n0_; have BK135 := n1_; have GW135 := n2_; have GE135 := n3_; clear n0_ n1_ n2_ n3_; clear hb hbox hg; have hcz41_0 : w40.cell? ⟨gb135, 0, none⟩ = some (.int .i64 a0_0) := (pwC BK135.out 0).trans rfl; have hcz41_1 : w40.cell? ⟨gb135, 1, none⟩ = some (.int .i64 a0_1) := (pwC BK135.out 1).trans rfl; have hcz41_2 : w40.cell? ⟨gb135, 2, none⟩ = some (.int .u64 a0_2) := (pwC BK135.out 2).trans rfl; have hcz41_3 : w40.cell? ⟨gb135, 3, none⟩ = some (.string a0_3) := (pwC BK135.out 3).trans rfl; have hfz41_0 := blk_frozen BK135.out 0; have hfz41_1 := blk_frozen BK135.out 1; have hfz41_2 := blk_frozen BK135.out 2; have hfz41_3 := blk_frozen BK135.out 3))
      repeat (go_quiet (first | fail); try go_wp2_with (first | ((with_reducible refine gate_dst (N := 1) rfl ?_); (try (refine gate_guard (by rfl) ?_; dsimp only)); refine box_event ?hg (N := 1) ?hd (cs := #[.int .i64 a0_0, .int .i64 a0_1, .int .u64 a0_2, .string a0_3]) (t := 73) ?hr ?_; (case hd => rfl); (case hg => rfl); (case hr => first | (go_simp; done) | (go_simp; rfl)); intro gb135 hg w40 hbox hb; have n0_ := Aside0.mk (below_step (by repeat (first | (with_reducible first | exact HB.out | apply below_alloc | apply pw_below_drewN | apply below_drew1) | exact HB.out)) hb); have n1_ := Aside0.mk (hbox); have n2_ := Aside0.mk ((by rw [hg]; exact (below_size (by repeat (first | (with_reducible first | exact HB.out | apply below_alloc | apply pw_below_drewN | apply below_drew1) | exact HB.out))) : w.heap.size ≤ gb135)); have n3_ := Aside0.mk ((by rw [hg]; exact (below_size (by repeat (first | (with_reducible first | exact HB.out | apply below_alloc | apply pw_below_drewN | apply below_drew1) | exact HB.out))) : w.heap.size ≤ gb135)); clear HB; have HB := n0_; have BK135 := n1_; have GW135 := n2_; have GE135 := n3_; clear n0_ n1_ n2_ n3_; clear hb hbox hg; have hcz41_0 : w40.cell? ⟨gb135, 0, none⟩ = some (.int .i64 a0_0) := (pwC BK135.out 0).trans rfl; have hcz41_1 : w40.cell? ⟨gb135, 1, none⟩ = some (.int .i64 a0_1) := (pwC BK135.out 1).trans rfl; have hcz41_2 : w40.cell? ⟨gb135, 2, none⟩ = some (.int .u64 a0_2) := (pwC BK135.out 2).trans rfl; have hcz41_3 : w40.cell? ⟨gb135, 3, none⟩ = some (.string a0_3) := (pwC BK135.out 3).trans rfl; have hfz41_0 := blk_frozen BK135.out 0; have hfz41_1 := blk_frozen BK135.out 1; have hfz41_2 := blk_frozen BK135.out 2; have hfz41_3 := blk_frozen BK135.out 3)))
      go_ret; exact ⟨by first | rfl | (simp [errW_none, errW_some] <;> rfl) | (simp [*, errW_none, errW_some] <;> rfl), by repeat (first | (with_reducible first | exact HB.out | apply below_alloc | apply pw_below_drewN | apply below_drew1 | refine below_set ?_ GE135.out) | exact HB.out)⟩
    ·rw [if_neg c32] at H
     have c32b0 : (a0_0 == 3) = false := beq_eq_false_iff_ne.mpr c32
     have c32b1 : (a0_0 != 3) = true := bne_iff_ne.mpr c32
     by_cases c42 : a0_0 = 4
     ·rw [if_pos c42] at H
      have c42b0 : (a0_0 == 4) = true := beq_iff_eq.mpr c42
      have c42b1 : (a0_0 != 4) = false := bne_eq_false_iff_eq.mpr c42
      clear c42; by_cases c43 : a0_1 = 0
      ·rw [if_pos c43] at H
       have c43b0 : (a0_1 == 0) = true := beq_iff_eq.mpr c43
       have c43b1 : (a0_1 != 0) = false := bne_eq_false_iff_eq.mpr c43
       clear c43; by_cases c44 : a0_2 = 0
       ·rw [if_pos c44] at H
        have c44b0 : (a0_2 == 0) = true := beq_iff_eq.mpr c44
        have c44b1 : (a0_2 != 0) = false := bne_eq_false_iff_eq.mpr c44
        clear c44; obtain rfl := Option.some.inj H; go_enter Tryd.func118, Tryd.ntmps118
        go_wp2; go_ret; exact ⟨by first | rfl | (simp [*] <;> rfl), by repeat (first | exact HB.out | exact Below.refl _ _ | apply below_alloc | apply pw_below_drewN | apply below_drew1)⟩
       ·rw [if_neg c44] at H
        have c44b0 : (a0_2 == 0) = false := beq_eq_false_iff_ne.mpr c44
        have c44b1 : (a0_2 != 0) = true := bne_iff_ne.mpr c44
        obtain rfl := Option.some.inj H; go_enter Tryd.func118, Tryd.ntmps118
        go_wp2; go_ret; exact ⟨by first | rfl | (simp [*] <;> rfl), by repeat (first | exact HB.out | exact Below.refl _ _ | apply below_alloc | apply pw_below_drewN | apply below_drew1)⟩
      ·rw [if_neg c43] at H
       have c43b0 : (a0_1 == 0) = false := beq_eq_false_iff_ne.mpr c43
       have c43b1 : (a0_1 != 0) = true := bne_iff_ne.mpr c43
       obtain rfl := Option.some.inj H; go_enter Tryd.func118, Tryd.ntmps118
       go_wp2; go_ret; exact ⟨by first | rfl | (simp [*] <;> rfl), by repeat (first | exact HB.out | exact Below.refl _ _ | apply below_alloc | apply pw_below_drewN | apply below_drew1)⟩
     ·rw [if_neg c42] at H
      have c42b0 : (a0_0 == 4) = false := beq_eq_false_iff_ne.mpr c42
      have c42b1 : (a0_0 != 4) = true := bne_iff_ne.mpr c42
      by_cases c51 : a0_0 = 5
      ·rw [if_pos c51] at H
       have c51b0 : (a0_0 == 5) = true := beq_iff_eq.mpr c51
       have c51b1 : (a0_0 != 5) = false := bne_eq_false_iff_eq.mpr c51
       clear c51; by_cases c52 : a0_1 = 0
       ·rw [if_pos c52] at H
        have c52b0 : (a0_1 == 0) = true := beq_iff_eq.mpr c52
        have c52b1 : (a0_1 != 0) = false := bne_eq_false_iff_eq.mpr c52
        clear c52; by_cases c53 : a0_2 = 0
        ·rw [if_pos c53] at H
         have c53b0 : (a0_2 == 0) = true := beq_iff_eq.mpr c53
         have c53b1 : (a0_2 != 0) = false := bne_eq_false_iff_eq.mpr c53
         clear c53; obtain rfl := Option.some.inj H; go_enter Tryd.func118, Tryd.ntmps118
         go_wp2; go_ret; exact ⟨by first | rfl | (simp [*] <;> rfl), by repeat (first | exact HB.out | exact Below.refl _ _ | apply below_alloc | apply pw_below_drewN | apply below_drew1)⟩
        ·rw [if_neg c53] at H
         have c53b0 : (a0_2 == 0) = false := beq_eq_false_iff_ne.mpr c53
         have c53b1 : (a0_2 != 0) = true := bne_iff_ne.mpr c53
         obtain rfl := Option.some.inj H; go_enter Tryd.func118, Tryd.ntmps118
         go_wp2; go_ret; exact ⟨by first | rfl | (simp [*] <;> rfl), by repeat (first | exact HB.out | exact Below.refl _ _ | apply below_alloc | apply pw_below_drewN | apply below_drew1)⟩
       ·rw [if_neg c52] at H
        have c52b0 : (a0_1 == 0) = false := beq_eq_false_iff_ne.mpr c52
        have c52b1 : (a0_1 != 0) = true := bne_iff_ne.mpr c52
        obtain rfl := Option.some.inj H; go_enter Tryd.func118, Tryd.ntmps118
        go_wp2; go_ret; exact ⟨by first | rfl | (simp [*] <;> rfl), by repeat (first | exact HB.out | exact Below.refl _ _ | apply below_alloc | apply pw_below_drewN | apply below_drew1)⟩
      ·rw [if_neg c51] at H
       have c51b0 : (a0_0 == 5) = false := beq_eq_false_iff_ne.mpr c51
       have c51b1 : (a0_0 != 5) = true := bne_iff_ne.mpr c51
       obtain rfl := Option.some.inj H; go_enter Tryd.func118, Tryd.ntmps118
       go_wp2; go_ret; exact ⟨by first | rfl | (simp [*] <;> rfl), by repeat (first | exact HB.out | exact Below.refl _ _ | apply below_alloc | apply pw_below_drewN | apply below_drew1)⟩
end Go.Proofs.YtjgomlcdmpcoaaaDoor.D
namespace Go.Proofs.YtjgomlcdmpcoaaaDoor.H
open Go.RowKit Go.Proofs.YtjgomlcdmpcoaaaDoorW.PrintWords Go.Proofs.YtjgomlcdmpcoaaaDoorW.PrintLast Go.Proofs.YtjgomlcdmpcoaaaDoorW.PrintMore
open Go.Proofs.YtjgomlcdmpcoaaaDoor.D Go.Proofs.YtjgomlcdmpcoaaaDoor
set_option linter.unusedVariables false
def valB (v : S73) : Bool := if v.f0 = 3 then canonI v.f2 == v.f2 && (v.f1 == 0 && (v.f3.toList == ([] : List UInt8))) else mayB v.f0 v.f1 v.f2 v.f3
def columnB (c : S75) : Bool := nameB c.f1 && (decide (1 ≤ c.f2) && (decide (c.f2 ≤ 5) && (stateB c.f3 && (stateB c.f4 && (valB c.f5 && (c.f5.f0 == 0 || c.f5.f0 == c.f2))))))
def ValWf (v : S73) : Prop := 0 ≤ v.f2 ∧ v.f2 < 18446744073709551616
theorem val_may (v : S73) (h : ValWf v) : value_May.f v.f0 v.f1 v.f2 v.f3 = some (valB v) := by
  unfold value_May.f valB flo_Canon.f
  rw [if_pos h.1, if_pos h.2]
  split <;> rfl
theorem ref_canon (f : Int) (h0 : 0 ≤ f) (h1 : f < 18446744073709551616) : falseworkref1_Canon.f f = some (canonI f) := by
  have hb : Go.bits .andNot .u64 f 9223372036854775808 = f % 9223372036854775808 := by
    rw [u64_andNot f 9223372036854775808 h0 h1 (by decide) (by decide)]
    have e : (18446744073709551615 - (9223372036854775808 : Int).toNat : Nat) = 2 ^ 63 - 1 := by decide
    rw [e, Nat.and_two_pow_sub_one_eq_mod]
    omega
  unfold falseworkref1_Canon.f canonI
  rw [hb]
  split
  · rfl
  · split <;> rfl
theorem ref_val (v : S73) (h : ValWf v) : falseworkref2_May.f v.f0 v.f1 v.f2 v.f3 = some (valB v) := by
  unfold falseworkref2_May.f valB mayB
  rw [ref_canon _ h.1 h.2]
  have d : decide ((v.f3.size : Int) ≤ 40) = decide (v.f3.size ≤ 40) := by rw [decide_eq_decide]; omega
  simp only [d, Option.bind_some]
  have he : ∀ (x y : Option Bool), (if v.f3.toList = ([] : List UInt8) then x else y) = if (v.f3.toList == ([] : List UInt8)) = true then x else y := fun x y => by
    by_cases h : v.f3.toList = [] <;> simp [h]
  simp only [he]
  obtain ⟨e, hE⟩ : ∃ e, (v.f3.toList == ([] : List UInt8)) = e := ⟨_, rfl⟩
  obtain ⟨z, hz⟩ : ∃ z, decide (v.f3.size ≤ 40) = z := ⟨_, rfl⟩
  rw [hE, hz]
  obtain ⟨k, hk⟩ : ∃ k, v.f0 = k := ⟨_, rfl⟩
  obtain ⟨n, hn⟩ : ∃ n, v.f1 = n := ⟨_, rfl⟩
  obtain ⟨f, hf⟩ : ∃ f, v.f2 = f := ⟨_, rfl⟩
  rw [hk, hn, hf]
  clear hE hz he d h hk hn hf v
  by_cases k0 : k = 0
  · subst k0; cases e <;> by_cases h1 : n = 0 <;> by_cases h2 : f = 0 <;> simp [h1, h2]
  by_cases k1 : k = 1
  · subst k1; cases e <;> by_cases h1 : n = 0 <;> by_cases h3 : n = 1 <;> by_cases h2 : f = 0 <;> simp [h1, h2, h3]
  by_cases k2 : k = 2
  · subst k2; cases e <;> by_cases h2 : f = 0 <;> simp [h2]
  by_cases k3 : k = 3
  · subst k3; cases e <;> by_cases h1 : n = 0 <;> simp [h1]
  by_cases k4 : k = 4
  · subst k4; cases z <;> by_cases h1 : n = 0 <;> by_cases h2 : f = 0 <;> simp [h1, h2]
  by_cases k5 : k = 5
  · subst k5; cases z <;> by_cases h1 : n = 0 <;> by_cases h2 : f = 0 <;> simp [h1, h2]
  simp [k0, k1, k2, k3, k4, k5]
set_option maxRecDepth 100000 in
set_option maxHeartbeats 4000000 in
theorem column_calls' (c : S75) (h : ValWf c.f5) (w : World) (hG : GL w) : Calls Tryd.prog 124 #[.agg #[.int .i64 c.f0, .string c.f1, .int .i64 c.f2, .int .i64 c.f3, .int .i64 c.f4, .int .i64 c.f5.f0, .int .i64 c.f5.f1, .int .u64 c.f5.f2, .string c.f5.f3]] w
    fun e w' => e = .returned (.bool (columnB c)) ∧ Below w.heap.size w w' := by
  have hb0 := below_alloc (Below.refl _ w) (.cells #[.int .i64 c.f0, .string c.f1, .int .i64 c.f2, .int .i64 c.f3, .int .i64 c.f4, .int .i64 c.f5.f0, .int .i64 c.f5.f1, .int .u64 c.f5.f2, .string c.f5.f3] 75)
  have HX := Aside0.mk (heap_alloc_new w (.cells #[.int .i64 c.f0, .string c.f1, .int .i64 c.f2, .int .i64 c.f3, .int .i64 c.f4, .int .i64 c.f5.f0, .int .i64 c.f5.f1, .int .u64 c.f5.f2, .string c.f5.f3] 75))
  have HB := Aside0.mk hb0
  have x1 := (pwC HX.out 1).trans (show _ = some (.string c.f1) from rfl)
  have HI := Lib.hid (show columnB c = _ by unfold columnB; exact rfl)
  obtain ⟨r, hr⟩ : ∃ r, columnB c = r := ⟨_, rfl⟩
  rw [hr] at HI ⊢
  have HN := Lib.hid (nameCalls c.f1 (w.alloc (.cells #[.int .i64 c.f0, .string c.f1, .int .i64 c.f2, .int .i64 c.f3, .int .i64 c.f4, .int .i64 c.f5.f0, .int .i64 c.f5.f1, .int .u64 c.f5.f2, .string c.f5.f3] 75)) (hG.of_below hb0))
  have H3 := Lib.hid (fun W => state_calls c.f3 W)
  have H4 := Lib.hid (fun W => state_calls c.f4 W)
  have HV := Lib.hid (fun W => (value_May.calls _ _ _ _ _ W (val_may c.f5 h)))
  clear hb0 hr h hG
  obtain ⟨nm, hnm⟩ : ∃ b, nameB c.f1 = b := ⟨_, rfl⟩
  obtain ⟨g1, hg1⟩ : ∃ b, decide (1 ≤ c.f2) = b := ⟨_, rfl⟩
  obtain ⟨g2, hg2⟩ : ∃ b, decide (c.f2 ≤ 5) = b := ⟨_, rfl⟩
  obtain ⟨s3, hs3⟩ : ∃ b, stateB c.f3 = b := ⟨_, rfl⟩
  obtain ⟨s4, hs4⟩ : ∃ b, stateB c.f4 = b := ⟨_, rfl⟩
  obtain ⟨vb, hvb⟩ : ∃ b, valB c.f5 = b := ⟨_, rfl⟩
  obtain ⟨e0, he0⟩ : ∃ b, (c.f5.f0 == 0) = b := ⟨_, rfl⟩
  obtain ⟨e1, he1⟩ : ∃ b, (c.f5.f0 == c.f2) = b := ⟨_, rfl⟩
  rw [hnm, hg1, hg2, hs3, hs4, hvb, he0, he1] at HI
  rw [hnm] at HN
  clear hnm
  rw [hs3] at H3
  clear hs3
  rw [hs4] at H4
  clear hs4
  rw [hvb] at HV
  clear hvb
  have hcase : (nm = false ∧ r = false) ∨ (nm = true ∧ g1 = false ∧ r = false) ∨ (nm = true ∧ g1 = true ∧ g2 = false ∧ r = false) ∨ (nm = true ∧ g1 = true ∧ g2 = true ∧ s3 = false ∧ r = false) ∨ (nm = true ∧ g1 = true ∧ g2 = true ∧ s3 = true ∧ s4 = false ∧ r = false) ∨ (nm = true ∧ g1 = true ∧ g2 = true ∧ s3 = true ∧ s4 = true ∧ vb = false ∧ r = false) ∨ (nm = true ∧ g1 = true ∧ g2 = true ∧ s3 = true ∧ s4 = true ∧ vb = true ∧ e0 = true ∧ r = true) ∨ (nm = true ∧ g1 = true ∧ g2 = true ∧ s3 = true ∧ s4 = true ∧ vb = true ∧ e0 = false ∧ r = e1) := by
    rw [HI.out]
    cases nm <;> cases g1 <;> cases g2 <;> cases s3 <;> cases s4 <;> cases vb <;> cases e0 <;> simp
  clear HI
  rcases hcase with ⟨rfl, rfl⟩ | ⟨rfl, rfl, rfl⟩ | ⟨rfl, rfl, rfl, rfl⟩ | ⟨rfl, rfl, rfl, rfl, rfl⟩ | ⟨rfl, rfl, rfl, rfl, rfl, rfl⟩ | ⟨rfl, rfl, rfl, rfl, rfl, rfl, rfl⟩ | ⟨rfl, rfl, rfl, rfl, rfl, rfl, rfl, rfl⟩ | ⟨rfl, rfl, rfl, rfl, rfl, rfl, rfl, rfl⟩
  all_goals
    go_enter Tryd.func124, Tryd.ntmps124
    go_wp2_with (first | (go_at_call 33; refine (HN.out).mono ?_; rintro e w1 ⟨rfl, hb1⟩; have HB1 := Aside0.mk (below_then HB.out (by simp) hb1); have hx1 := blk_below HX.out hb1; have HX1 := Aside0.mk hx1; have x2 := (pwC hx1 2).trans (show _ = some (.int .i64 c.f2) from rfl); have x3 := (pwC hx1 3).trans (show _ = some (.int .i64 c.f3) from rfl); have x4 := (pwC hx1 4).trans (show _ = some (.int .i64 c.f4) from rfl); have x5 := (pwC hx1 5).trans (show _ = some (.int .i64 c.f5.f0) from rfl); have x6 := (pwC hx1 6).trans (show _ = some (.int .i64 c.f5.f1) from rfl); have x7 := (pwC hx1 7).trans (show _ = some (.int .u64 c.f5.f2) from rfl); have x8 := (pwC hx1 8).trans (show _ = some (.string c.f5.f3) from rfl); clear hx1 hb1 x1) | (go_at_call 162; first | (refine (H3.out _).mono ?_; rintro e w2 ⟨rfl, rfl⟩) | (refine (H4.out _).mono ?_; rintro e w2 ⟨rfl, rfl⟩)) | (go_at_call 144; refine (HV.out _).mono ?_; rintro e w4 ⟨rfl, hb4⟩; have HB2 := Aside0.mk (below_then HB1.out HB1.out.size hb4); have hx4 := blk_below HX1.out hb4; clear x2 x3 x4 x5 x6 x7 x8; have x2 := (pwC hx4 2).trans (show _ = some (.int .i64 c.f2) from rfl); have x5 := (pwC hx4 5).trans (show _ = some (.int .i64 c.f5.f0) from rfl); clear hx4 hb4))
    all_goals
      go_ret
      exact ⟨rfl, by repeat (first | exact HB.out | exact HB1.out | exact HB2.out | exact HB3.out)⟩
set_option maxRecDepth 100000 in
set_option maxHeartbeats 4000000 in
theorem rcol126 (c : S75) (h : ValWf c.f5) (w : World) : Calls Tryd.prog 126 #[.agg #[.int .i64 c.f0, .string c.f1, .int .i64 c.f2, .int .i64 c.f3, .int .i64 c.f4, .int .i64 c.f5.f0, .int .i64 c.f5.f1, .int .u64 c.f5.f2, .string c.f5.f3]] w
    fun e w' => e = .returned (.bool (columnB c)) ∧ Below w.heap.size w w' := by
  have hb0 := below_alloc (Below.refl _ w) (.cells #[.int .i64 c.f0, .string c.f1, .int .i64 c.f2, .int .i64 c.f3, .int .i64 c.f4, .int .i64 c.f5.f0, .int .i64 c.f5.f1, .int .u64 c.f5.f2, .string c.f5.f3] 75)
  have HX := Aside0.mk (heap_alloc_new w (.cells #[.int .i64 c.f0, .string c.f1, .int .i64 c.f2, .int .i64 c.f3, .int .i64 c.f4, .int .i64 c.f5.f0, .int .i64 c.f5.f1, .int .u64 c.f5.f2, .string c.f5.f3] 75))
  have HB := Aside0.mk hb0
  have x1 := (pwC HX.out 1).trans (show _ = some (.string c.f1) from rfl)
  have HI := Lib.hid (show columnB c = _ by unfold columnB stateB; exact rfl)
  obtain ⟨r, hr⟩ : ∃ r, columnB c = r := ⟨_, rfl⟩
  rw [hr] at HI ⊢
  have HN := Lib.hid (show Calls Tryd.prog 34 #[.string c.f1] (w.alloc (.cells #[.int .i64 c.f0, .string c.f1, .int .i64 c.f2, .int .i64 c.f3, .int .i64 c.f4, .int .i64 c.f5.f0, .int .i64 c.f5.f1, .int .u64 c.f5.f2, .string c.f5.f3] 75)) fun e w' => e = .returned (.bool (nameB c.f1)) ∧ Below (w.alloc (.cells #[.int .i64 c.f0, .string c.f1, .int .i64 c.f2, .int .i64 c.f3, .int .i64 c.f4, .int .i64 c.f5.f0, .int .i64 c.f5.f1, .int .u64 c.f5.f2, .string c.f5.f3] 75)).heap.size (w.alloc (.cells #[.int .i64 c.f0, .string c.f1, .int .i64 c.f2, .int .i64 c.f3, .int .i64 c.f4, .int .i64 c.f5.f0, .int .i64 c.f5.f1, .int .u64 c.f5.f2, .string c.f5.f3] 75)) w' from (falseworkref6_Name.calls 101 c.f1 (nameB c.f1) _ (ref_name _ 101 (by decide))).mono fun e w' h => ⟨h.1, by first | exact h.2 | exact h.2.below⟩)
  have HV := Lib.hid (fun W => (falseworkref2_May.calls _ _ _ _ _ W (ref_val c.f5 h)))
  clear hb0 hr h
  obtain ⟨nm, hnm⟩ : ∃ b, nameB c.f1 = b := ⟨_, rfl⟩
  obtain ⟨g1, hg1⟩ : ∃ b, decide (1 ≤ c.f2) = b := ⟨_, rfl⟩
  obtain ⟨g2, hg2⟩ : ∃ b, decide (c.f2 ≤ 5) = b := ⟨_, rfl⟩
  obtain ⟨a3, ha3⟩ : ∃ b, decide (0 ≤ c.f3) = b := ⟨_, rfl⟩
  obtain ⟨b3, hb3⟩ : ∃ b, decide (c.f3 ≤ 4) = b := ⟨_, rfl⟩
  obtain ⟨a4, ha4⟩ : ∃ b, decide (0 ≤ c.f4) = b := ⟨_, rfl⟩
  obtain ⟨b4, hb4⟩ : ∃ b, decide (c.f4 ≤ 4) = b := ⟨_, rfl⟩
  obtain ⟨vb, hvb⟩ : ∃ b, valB c.f5 = b := ⟨_, rfl⟩
  obtain ⟨e0, he0⟩ : ∃ b, (c.f5.f0 == 0) = b := ⟨_, rfl⟩
  obtain ⟨e1, he1⟩ : ∃ b, (c.f5.f0 == c.f2) = b := ⟨_, rfl⟩
  rw [hnm, hg1, hg2, ha3, hb3, ha4, hb4, hvb, he0, he1] at HI
  rw [hnm] at HN
  clear hnm
  rw [hvb] at HV
  clear hvb
  have hcase : (nm = false ∧ r = false) ∨ (nm = true ∧ g1 = false ∧ r = false) ∨ (nm = true ∧ g1 = true ∧ g2 = false ∧ r = false) ∨ (nm = true ∧ g1 = true ∧ g2 = true ∧ a3 = false ∧ r = false) ∨ (nm = true ∧ g1 = true ∧ g2 = true ∧ a3 = true ∧ b3 = false ∧ r = false) ∨ (nm = true ∧ g1 = true ∧ g2 = true ∧ a3 = true ∧ b3 = true ∧ a4 = false ∧ r = false) ∨ (nm = true ∧ g1 = true ∧ g2 = true ∧ a3 = true ∧ b3 = true ∧ a4 = true ∧ b4 = false ∧ r = false) ∨ (nm = true ∧ g1 = true ∧ g2 = true ∧ a3 = true ∧ b3 = true ∧ a4 = true ∧ b4 = true ∧ vb = false ∧ r = false) ∨ (nm = true ∧ g1 = true ∧ g2 = true ∧ a3 = true ∧ b3 = true ∧ a4 = true ∧ b4 = true ∧ vb = true ∧ e0 = true ∧ r = true) ∨ (nm = true ∧ g1 = true ∧ g2 = true ∧ a3 = true ∧ b3 = true ∧ a4 = true ∧ b4 = true ∧ vb = true ∧ e0 = false ∧ r = e1) := by
    rw [HI.out]
    cases nm <;> cases g1 <;> cases g2 <;> cases a3 <;> cases b3 <;> cases a4 <;> cases b4 <;> cases vb <;> cases e0 <;> simp
  clear HI
  rcases hcase with ⟨rfl, rfl⟩ | ⟨rfl, rfl, rfl⟩ | ⟨rfl, rfl, rfl, rfl⟩ | ⟨rfl, rfl, rfl, rfl, rfl⟩ | ⟨rfl, rfl, rfl, rfl, rfl, rfl⟩ | ⟨rfl, rfl, rfl, rfl, rfl, rfl, rfl⟩ | ⟨rfl, rfl, rfl, rfl, rfl, rfl, rfl, rfl⟩ | ⟨rfl, rfl, rfl, rfl, rfl, rfl, rfl, rfl, rfl⟩ | ⟨rfl, rfl, rfl, rfl, rfl, rfl, rfl, rfl, rfl, rfl⟩ | ⟨rfl, rfl, rfl, rfl, rfl, rfl, rfl, rfl, rfl, rfl⟩
  all_goals
    go_enter Tryd.func126, Tryd.ntmps126
    go_wp2_with (first | (go_at_call 34; refine (HN.out).mono ?_; rintro e w1 ⟨rfl, hb1⟩; have HB1 := Aside0.mk (below_then HB.out (by simp) hb1); have hx1 := blk_below HX.out hb1; have HX1 := Aside0.mk hx1; have x2 := (pwC hx1 2).trans (show _ = some (.int .i64 c.f2) from rfl); have x3 := (pwC hx1 3).trans (show _ = some (.int .i64 c.f3) from rfl); have x4 := (pwC hx1 4).trans (show _ = some (.int .i64 c.f4) from rfl); have x5 := (pwC hx1 5).trans (show _ = some (.int .i64 c.f5.f0) from rfl); have x6 := (pwC hx1 6).trans (show _ = some (.int .i64 c.f5.f1) from rfl); have x7 := (pwC hx1 7).trans (show _ = some (.int .u64 c.f5.f2) from rfl); have x8 := (pwC hx1 8).trans (show _ = some (.string c.f5.f3) from rfl); clear hx1 hb1 x1) | (go_at_call 118; refine (HV.out _).mono ?_; rintro e w4 ⟨rfl, hb4⟩; have HB2 := Aside0.mk (below_then HB1.out HB1.out.size hb4); have hx4 := blk_below HX1.out hb4; clear x2 x3 x4 x5 x6 x7 x8; have x2 := (pwC hx4 2).trans (show _ = some (.int .i64 c.f2) from rfl); have x5 := (pwC hx4 5).trans (show _ = some (.int .i64 c.f5.f0) from rfl); clear hx4 hb4))
    all_goals
      go_ret
      exact ⟨rfl, by repeat (first | exact HB.out | exact HB1.out | exact HB2.out | exact HB3.out)⟩
end Go.Proofs.YtjgomlcdmpcoaaaDoor.H
