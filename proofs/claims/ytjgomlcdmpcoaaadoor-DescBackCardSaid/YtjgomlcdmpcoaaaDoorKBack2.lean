/- Own texts of this session, packed by its program wip/pp/pack.py: lemmas and walks of functions. -/
import Derived.Deep.QuietTactic
import Derived.BigQuiet
import Derived.Laws.BitsAllLaws
import Derived.Maps.OwnSet
import Derived.Lib.Hide
import Derived.OneCell
import Derived.Test.YtjgomlcdmpcoaaaDoorKBack1
namespace Go.Proofs.YtjgomlcdmpcoaaaDoor
open Go.RowKit Go.Proofs.YtjgomlcdmpcoaaaDoorW.PrintWords Go.Proofs.YtjgomlcdmpcoaaaDoorW.PrintLast
def mayB (k n f : Int) (s : ByteArray) : Bool :=
  if k = 0 then n == 0 && (f == 0 && (s.toList == ([] : List UInt8)))
  else if k = 1 then (n == 0 || n == 1) && (f == 0 && (s.toList == ([] : List UInt8)))
  else if k = 2 then f == 0 && (s.toList == ([] : List UInt8))
  else if k = 4 ∨ k = 5 then decide (s.size ≤ 40) && (n == 0 && f == 0)
  else false
def value_May.f (a0_0 : Int) (a0_1 : Int) (a0_2 : Int) (a0_3 : ByteArray) : Option Bool :=
  if a0_0 = 3 then (flo_Canon.f a0_2).bind fun t => some (t == a0_2 && (a0_1 == 0 && (a0_3.toList == ([] : List UInt8)))) else some (mayB a0_0 a0_1 a0_2 a0_3)
theorem ret_bool {a b : Bool} (h : a = b) : Ending.returned (.bool a) = Ending.returned (.bool b) := by rw [h]
set_option maxHeartbeats 1000000 in
theorem value_May.calls (a0_0 : Int) (a0_1 : Int) (a0_2 : Int) (a0_3 : ByteArray) (r : Bool) (w : World) (h : value_May.f a0_0 a0_1 a0_2 a0_3 = some r) :
    Calls Tryd.prog 144 #[.agg #[.int .i64 a0_0, .int .i64 a0_1, .int .u64 a0_2, .string a0_3]] w fun e w' => e = .returned (.bool r) ∧ Below w.heap.size w w' := by
  unfold value_May.f at h
  by_cases k3 : a0_0 = 3
  · rw [if_pos k3] at h
    subst k3
    obtain ⟨t, ht, hr⟩ := Option.bind_eq_some_iff.mp h
    have hx := Option.some.inj hr
    have HX := Lib.hid hx
    have HT := Lib.hid ht
    clear hx hr h ht
    by_cases hc : t = a0_2
    · have b1 : (t != a0_2) = false := bne_eq_false_iff_eq.mpr hc
      have HC := Lib.hid hc
      clear hc
      go_enter Tryd.func144, Tryd.ntmps144
      go_wp2
      go_quiet ((go_at_call 171; exact Calls.quiet_of ((flo_Canon.calls _ t _ HT.out).mono fun e w' h => ⟨h.1, h.2.out⟩)))
      go_wp2
      all_goals
        go_ret
        refine ⟨ret_bool ?_, by repeat (first | exact Below.refl _ _ | apply below_alloc | apply pw_below_drewN | apply below_drew1 | refine below_set ?_ (by first | exact Nat.le_refl _ | exact Nat.le_succ _))⟩
        rw [← HX.out, beq_iff_eq.2 HC.out]
        simp_all
    · have b1 : (t != a0_2) = true := bne_iff_ne.mpr hc
      have HC := Lib.hid hc
      clear hc
      go_enter Tryd.func144, Tryd.ntmps144
      go_wp2
      go_quiet ((go_at_call 171; exact Calls.quiet_of ((flo_Canon.calls _ t _ HT.out).mono fun e w' h => ⟨h.1, h.2.out⟩)))
      go_wp2
      go_ret
      refine ⟨ret_bool ?_, by repeat (first | exact Below.refl _ _ | apply below_alloc | apply pw_below_drewN | apply below_drew1 | refine below_set ?_ (by first | exact Nat.le_refl _ | exact Nat.le_succ _))⟩
      rw [← HX.out, beq_eq_false_iff_ne.2 HC.out]
      rfl
  · rw [if_neg k3] at h
    have hx := Option.some.inj h
    unfold mayB at hx
    clear h
    by_cases k0 : a0_0 = 0
    · subst k0
      rw [if_pos rfl] at hx
      have HX := Lib.hid hx
      clear hx k3
      go_enter Tryd.func144, Tryd.ntmps144
      go_wp2
      all_goals
        go_ret
        refine ⟨ret_bool ?_, by repeat (first | exact Below.refl _ _ | apply below_alloc | apply pw_below_drewN | apply below_drew1 | refine below_set ?_ (by first | exact Nat.le_refl _ | exact Nat.le_succ _))⟩
        rw [← HX.out]
        simp_all
    · rw [if_neg k0] at hx
      by_cases k1 : a0_0 = 1
      · subst k1
        rw [if_pos rfl] at hx
        clear k3 k0
        by_cases n0 : a0_1 = 0
        · have b0 : (a0_1 != 0) = false := bne_eq_false_iff_eq.mpr n0
          have e0 : (a0_1 == 0) = true := beq_iff_eq.mpr n0
          rw [e0] at hx
          clear n0
          have HX := Lib.hid hx
          clear hx
          go_enter Tryd.func144, Tryd.ntmps144
          go_wp2
          all_goals
            go_ret
            refine ⟨ret_bool ?_, by repeat (first | exact Below.refl _ _ | apply below_alloc | apply pw_below_drewN | apply below_drew1 | refine below_set ?_ (by first | exact Nat.le_refl _ | exact Nat.le_succ _))⟩
            rw [← HX.out]
            simp_all
        · have b0 : (a0_1 != 0) = true := bne_iff_ne.mpr n0
          have e0 : (a0_1 == 0) = false := beq_eq_false_iff_ne.mpr n0
          rw [e0] at hx
          clear n0
          by_cases n1 : a0_1 = 1
          · have b1 : (a0_1 != 1) = false := bne_eq_false_iff_eq.mpr n1
            have e1 : (a0_1 == 1) = true := beq_iff_eq.mpr n1
            rw [e1] at hx
            clear n1
            have HX := Lib.hid hx
            clear hx
            go_enter Tryd.func144, Tryd.ntmps144
            go_wp2
            all_goals
              go_ret
              refine ⟨ret_bool ?_, by repeat (first | exact Below.refl _ _ | apply below_alloc | apply pw_below_drewN | apply below_drew1 | refine below_set ?_ (by first | exact Nat.le_refl _ | exact Nat.le_succ _))⟩
              rw [← HX.out]
              simp_all
          · have b1 : (a0_1 != 1) = true := bne_iff_ne.mpr n1
            have e1 : (a0_1 == 1) = false := beq_eq_false_iff_ne.mpr n1
            rw [e1] at hx
            clear n1
            have HX := Lib.hid hx
            clear hx
            go_enter Tryd.func144, Tryd.ntmps144
            go_wp2
            all_goals
              go_ret
              refine ⟨ret_bool ?_, by repeat (first | exact Below.refl _ _ | apply below_alloc | apply pw_below_drewN | apply below_drew1 | refine below_set ?_ (by first | exact Nat.le_refl _ | exact Nat.le_succ _))⟩
              rw [← HX.out]
              simp_all
      · rw [if_neg k1] at hx
        by_cases k2 : a0_0 = 2
        · subst k2
          rw [if_pos rfl] at hx
          clear k3 k0 k1
          have HX := Lib.hid hx
          clear hx
          go_enter Tryd.func144, Tryd.ntmps144
          go_wp2
          all_goals
            go_ret
            refine ⟨ret_bool ?_, by repeat (first | exact Below.refl _ _ | apply below_alloc | apply pw_below_drewN | apply below_drew1 | refine below_set ?_ (by first | exact Nat.le_refl _ | exact Nat.le_succ _))⟩
            rw [← HX.out]
            simp_all
        · rw [if_neg k2] at hx
          have e0 : (a0_0 == 0) = false := beq_eq_false_iff_ne.mpr k0
          have e1 : (a0_0 == 1) = false := beq_eq_false_iff_ne.mpr k1
          have e2 : (a0_0 == 2) = false := beq_eq_false_iff_ne.mpr k2
          have e3 : (a0_0 == 3) = false := beq_eq_false_iff_ne.mpr k3
          by_cases k4 : a0_0 = 4
          · subst k4
            rw [if_pos (.inl rfl)] at hx
            clear k3 k0 k1 k2 e0 e1 e2 e3
            by_cases hs : a0_3.size ≤ 40
            · have b1 : decide (40 < (a0_3.size : Int)) = false := decide_eq_false (by omega)
              have b2 : decide (40 < a0_3.size) = false := decide_eq_false (by omega)
              rw [decide_eq_true hs] at hx
              clear hs
              have HX := Lib.hid hx
              clear hx
              go_enter Tryd.func144, Tryd.ntmps144
              go_wp2
              all_goals
                go_ret
                refine ⟨ret_bool ?_, by repeat (first | exact Below.refl _ _ | apply below_alloc | apply pw_below_drewN | apply below_drew1 | refine below_set ?_ (by first | exact Nat.le_refl _ | exact Nat.le_succ _))⟩
                rw [← HX.out]
                simp_all
            · have b1 : decide (40 < (a0_3.size : Int)) = true := decide_eq_true (by omega)
              have b2 : decide (40 < a0_3.size) = true := decide_eq_true (by omega)
              rw [decide_eq_false hs] at hx
              clear hs
              have HX := Lib.hid hx
              clear hx
              go_enter Tryd.func144, Tryd.ntmps144
              go_wp2
              all_goals
                go_ret
                refine ⟨ret_bool ?_, by repeat (first | exact Below.refl _ _ | apply below_alloc | apply pw_below_drewN | apply below_drew1 | refine below_set ?_ (by first | exact Nat.le_refl _ | exact Nat.le_succ _))⟩
                rw [← HX.out]
                simp_all
          · have e4 : (a0_0 == 4) = false := beq_eq_false_iff_ne.mpr k4
            by_cases k5 : a0_0 = 5
            · subst k5
              rw [if_pos (.inr rfl)] at hx
              clear k3 k0 k1 k2 k4 e0 e1 e2 e3 e4
              by_cases hs : a0_3.size ≤ 40
              · have b1 : decide (40 < (a0_3.size : Int)) = false := decide_eq_false (by omega)
                have b2 : decide (40 < a0_3.size) = false := decide_eq_false (by omega)
                rw [decide_eq_true hs] at hx
                clear hs
                have HX := Lib.hid hx
                clear hx
                go_enter Tryd.func144, Tryd.ntmps144
                go_wp2
                all_goals
                  go_ret
                  refine ⟨ret_bool ?_, by repeat (first | exact Below.refl _ _ | apply below_alloc | apply pw_below_drewN | apply below_drew1 | refine below_set ?_ (by first | exact Nat.le_refl _ | exact Nat.le_succ _))⟩
                  rw [← HX.out]
                  simp_all
              · have b1 : decide (40 < (a0_3.size : Int)) = true := decide_eq_true (by omega)
                have b2 : decide (40 < a0_3.size) = true := decide_eq_true (by omega)
                rw [decide_eq_false hs] at hx
                clear hs
                have HX := Lib.hid hx
                clear hx
                go_enter Tryd.func144, Tryd.ntmps144
                go_wp2
                all_goals
                  go_ret
                  refine ⟨ret_bool ?_, by repeat (first | exact Below.refl _ _ | apply below_alloc | apply pw_below_drewN | apply below_drew1 | refine below_set ?_ (by first | exact Nat.le_refl _ | exact Nat.le_succ _))⟩
                  rw [← HX.out]
                  simp_all
            · have e5 : (a0_0 == 5) = false := beq_eq_false_iff_ne.mpr k5
              rw [if_neg (by omega)] at hx
              clear k3 k0 k1 k2 k4 k5
              have HX := Lib.hid hx
              clear hx
              go_enter Tryd.func144, Tryd.ntmps144
              go_wp2
              all_goals
                go_ret
                refine ⟨ret_bool ?_, by repeat (first | exact Below.refl _ _ | apply below_alloc | apply pw_below_drewN | apply below_drew1 | refine below_set ?_ (by first | exact Nat.le_refl _ | exact Nat.le_succ _))⟩
                rw [← HX.out]
end Go.Proofs.YtjgomlcdmpcoaaaDoor
namespace Go.Proofs.YtjgomlcdmpcoaaaDoor.D
open Go.RowKit Go.Proofs.YtjgomlcdmpcoaaaDoorW.PrintWords Go.Proofs.YtjgomlcdmpcoaaaDoorW.PrintLast Go.Proofs.YtjgomlcdmpcoaaaDoorW.PrintMore
attribute [local go_sem] max2_int min2_int max_two min_two max_three min_three max_four min_four
set_option linter.unusedVariables false
set_option linter.unusedSimpArgs false
def desc_column.f (k : Nat) (a0_0 : Int) (a0_1 : ByteArray) (a0_2 : Int) (a0_3 : Int) (a0_4 : Int) (a0_5 : Int) (a0_6 : Int) (a0_7 : Int) (a0_8 : ByteArray) : Option (Bool) := (desc_Name.f k a0_1).bind fun t112 => (if t112 = true then (if a0_2 ≥ 1 then (if a0_2 ≤ 5 then ((desc_state.f a0_3).bind fun t113 => (if t113 = true then ((desc_state.f a0_4).bind fun t114 => (if t114 = true then ((value_May.f a0_5 a0_6 a0_7 a0_8).bind fun t115 => (if t115 = true then (if a0_5 = 0 then (some true) else (some (a0_5 == a0_2))) else (some false))) else (some false))) else (some false))) else (some false)) else (some false)) else (some false))
theorem desc_column.mono : ∀ a0 a1 a2 a3 a4 a5 a6 a7 a8 k, LeO (desc_column.f k a0 a1 a2 a3 a4 a5 a6 a7 a8) (desc_column.f (k + 1) a0 a1 a2 a3 a4 a5 a6 a7 a8) := by
 intro a0 a1 a2 a3 a4 a5 a6 a7 a8 k
 unfold desc_column.f
 repeat' first
   | (with_reducible exact desc_Name.mono _ _)
   | (with_reducible exact LeO.refl _)
   | (with_reducible exact LeO.none _)
   | (with_reducible refine LeO.ite ?_ ?_)
   | (with_reducible refine LeO.bind ?_ (fun _ => ?_))
   | exact desc_Name.mono _ _
   | exact LeO.none _
   | refine LeO.ite ?_ ?_
   | refine LeO.bind ?_ (fun _ => ?_)
set_option maxHeartbeats 8000000 in
set_option maxRecDepth 100000 in
theorem desc_column.calls (k : Nat) (a0_0 : Int) (a0_1 : ByteArray) (a0_2 : Int) (a0_3 : Int) (a0_4 : Int) (a0_5 : Int) (a0_6 : Int) (a0_7 : Int) (a0_8 : ByteArray) (r : Bool) (w : World) (h : desc_column.f k a0_0 a0_1 a0_2 a0_3 a0_4 a0_5 a0_6 a0_7 a0_8 = some r) (hG : GL w) :
  Calls Tryd.prog 124 #[.agg #[.int .i64 a0_0, .string a0_1, .int .i64 a0_2, .int .i64 a0_3, .int .i64 a0_4, .int .i64 a0_5, .int .i64 a0_6, .int .u64 a0_7, .string a0_8]] w fun e w' => e = .returned (.bool r) ∧ Below w.heap.size w w' := by
 have hu75 := Tryd.underlying75
 have hu73 := Tryd.underlying73
 have HB := Aside0.mk (Below.refl w.heap.size w)
 have HG := Aside0.mk hG; clear hG; have H : ((desc_Name.f k a0_1).bind fun t112 => (if t112 = true then (if a0_2 ≥ 1 then (if a0_2 ≤ 5 then ((desc_state.f a0_3).bind fun t113 => (if t113 = true then ((desc_state.f a0_4).bind fun t114 => (if t114 = true then ((value_May.f a0_5 a0_6 a0_7 a0_8).bind fun t115 => (if t115 = true then (if a0_5 = 0 then (some true) else (some (a0_5 == a0_2))) else (some false))) else (some false))) else (some false))) else (some false)) else (some false)) else (some false))) = some r := h
 clear h; replace H := Option.bind_eq_some_iff.mp H; obtain ⟨t112, A20, H⟩ := H
 replace H : (if t112 = true then (if a0_2 ≥ 1 then (if a0_2 ≤ 5 then ((desc_state.f a0_3).bind fun t113 => (if t113 = true then ((desc_state.f a0_4).bind fun t114 => (if t114 = true then ((value_May.f a0_5 a0_6 a0_7 a0_8).bind fun t115 => (if t115 = true then (if a0_5 = 0 then (some true) else (some (a0_5 == a0_2))) else (some false))) else (some false))) else (some false))) else (some false)) else (some false)) else (some false)) = some r := H
 have A2 := Aside0.mk A20; clear A20; by_cases c3 : t112 = true
 ·subst c3
  have H1 : (if a0_2 ≥ 1 then (if a0_2 ≤ 5 then ((desc_state.f a0_3).bind fun t113 => (if t113 = true then ((desc_state.f a0_4).bind fun t114 => (if t114 = true then ((value_May.f a0_5 a0_6 a0_7 a0_8).bind fun t115 => (if t115 = true then (if a0_5 = 0 then (some true) else (some (a0_5 == a0_2))) else (some false))) else (some false))) else (some false))) else (some false)) else (some false)) = some r := by rw [if_pos rfl] at H; exact H
  clear H; have H := H1; clear H1; by_cases c4 : a0_2 ≥ 1
  ·rw [if_pos c4] at H
   have c4b0 : decide (1 ≤ a0_2) = true := decide_eq_true c4
   clear c4; by_cases c5 : a0_2 ≤ 5
   ·rw [if_pos c5] at H
    have c5b0 : decide (a0_2 ≤ 5) = true := decide_eq_true c5
    clear c5; replace H := Option.bind_eq_some_iff.mp H; obtain ⟨t113, A60, H⟩ := H
    replace H : (if t113 = true then ((desc_state.f a0_4).bind fun t114 => (if t114 = true then ((value_May.f a0_5 a0_6 a0_7 a0_8).bind fun t115 => (if t115 = true then (if a0_5 = 0 then (some true) else (some (a0_5 == a0_2))) else (some false))) else (some false))) else (some false)) = some r := H
    have A6 := Aside0.mk A60; clear A60; by_cases c7 : t113 = true
    ·subst c7
     have H1 : ((desc_state.f a0_4).bind fun t114 => (if t114 = true then ((value_May.f a0_5 a0_6 a0_7 a0_8).bind fun t115 => (if t115 = true then (if a0_5 = 0 then (some true) else (some (a0_5 == a0_2))) else (some false))) else (some false))) = some r := by rw [if_pos rfl] at H; exact H
     clear H; have H := H1; clear H1; replace H := Option.bind_eq_some_iff.mp H; obtain ⟨t114, A80, H⟩ := H
     replace H : (if t114 = true then ((value_May.f a0_5 a0_6 a0_7 a0_8).bind fun t115 => (if t115 = true then (if a0_5 = 0 then (some true) else (some (a0_5 == a0_2))) else (some false))) else (some false)) = some r := H
     have A8 := Aside0.mk A80; clear A80; by_cases c9 : t114 = true
     ·subst c9
      have H1 : ((value_May.f a0_5 a0_6 a0_7 a0_8).bind fun t115 => (if t115 = true then (if a0_5 = 0 then (some true) else (some (a0_5 == a0_2))) else (some false))) = some r := by rw [if_pos rfl] at H; exact H
      clear H; have H := H1; clear H1; replace H := Option.bind_eq_some_iff.mp H; obtain ⟨t115, A100, H⟩ := H
      replace H : (if t115 = true then (if a0_5 = 0 then (some true) else (some (a0_5 == a0_2))) else (some false)) = some r := H
      have A10 := Aside0.mk A100; clear A100; by_cases c11 : t115 = true
      ·subst c11
       have H1 : (if a0_5 = 0 then (some true) else (some (a0_5 == a0_2))) = some r := by rw [if_pos rfl] at H; exact H
       clear H; have H := H1; clear H1; by_cases c12 : a0_5 = 0
       ·rw [if_pos c12] at H
        have c12b0 : (a0_5 == 0) = true := beq_iff_eq.mpr c12
        have c12b1 : (a0_5 != 0) = false := bne_eq_false_iff_eq.mpr c12
        clear c12; obtain rfl := Option.some.inj H; go_enter Tryd.func124, Tryd.ntmps124
        go_wp2_with (first | ((with_reducible refine gate_dst (N := 1) rfl ?_); refine box_event ?hg (N := 1) ?hd (cs := #[.int .i64 a0_0, .string a0_1, .int .i64 a0_2, .int .i64 a0_3, .int .i64 a0_4, .int .i64 a0_5, .int .i64 a0_6, .int .u64 a0_7, .string a0_8]) (t := 75) ?hr ?_; (case hd => rfl); (case hg => rfl); (case hr => first | (go_simp; done) | (go_simp; rfl)); intro gb111 hg w13 hbox hb; have n0_ := Aside0.mk (below_step (by repeat (first | (with_reducible first | exact HB.out | apply below_alloc | apply pw_below_drewN | apply below_drew1) | exact HB.out)) hb); have n1_ := Aside0.mk (hbox); have n2_ := Aside0.mk ((by rw [hg]; exact (below_size (by repeat (first | (with_reducible first | exact HB.out | apply below_alloc | apply pw_below_drewN | apply below_drew1) | exact HB.out))) : w.heap.size ≤ gb111)); have n3_ := Aside0.mk ((by rw [hg]; exact (below_size (by repeat (first | (with_reducible first | exact HB.out | apply below_alloc | apply pw_below_drewN | apply below_drew1) | exact HB.out))) : w.heap.size ≤ gb111)); clear HB; have HB := n0_; have BK111 := n1_; have GW111 := n2_; have GE111 := n3_; clear n0_ n1_ n2_ n3_; clear hb hbox hg; have hcz14_0 : w13.cell? ⟨gb111, 0, none⟩ = some (.int .i64 a0_0) := (Go.Proofs.YtjgomlcdmpcoaaaDoorW.PrintWords.blk_cell BK111.out 0).trans rfl; have hcz14_1 : w13.cell? ⟨gb111, 1, none⟩ = some (.string a0_1) := (Go.Proofs.YtjgomlcdmpcoaaaDoorW.PrintWords.blk_cell BK111.out 1).trans rfl; have hcz14_2 : w13.cell? ⟨gb111, 2, none⟩ = some (.int .i64 a0_2) := (Go.Proofs.YtjgomlcdmpcoaaaDoorW.PrintWords.blk_cell BK111.out 2).trans rfl; have hcz14_3 : w13.cell? ⟨gb111, 3, none⟩ = some (.int .i64 a0_3) := (Go.Proofs.YtjgomlcdmpcoaaaDoorW.PrintWords.blk_cell BK111.out 3).trans rfl; have hcz14_4 : w13.cell? ⟨gb111, 4, none⟩ = some (.int .i64 a0_4) := (Go.Proofs.YtjgomlcdmpcoaaaDoorW.PrintWords.blk_cell BK111.out 4).trans rfl; have hcz14_5 : w13.cell? ⟨gb111, 5, none⟩ = some (.int .i64 a0_5) := (Go.Proofs.YtjgomlcdmpcoaaaDoorW.PrintWords.blk_cell BK111.out 5).trans rfl; have hcz14_6 : w13.cell? ⟨gb111, 6, none⟩ = some (.int .i64 a0_6) := (Go.Proofs.YtjgomlcdmpcoaaaDoorW.PrintWords.blk_cell BK111.out 6).trans rfl; have hcz14_7 : w13.cell? ⟨gb111, 7, none⟩ = some (.int .u64 a0_7) := (Go.Proofs.YtjgomlcdmpcoaaaDoorW.PrintWords.blk_cell BK111.out 7).trans rfl; have hcz14_8 : w13.cell? ⟨gb111, 8, none⟩ = some (.string a0_8) := (Go.Proofs.YtjgomlcdmpcoaaaDoorW.PrintWords.blk_cell BK111.out 8).trans rfl; have hfz14_0 := blk_frozen BK111.out 0; have hfz14_1 := blk_frozen BK111.out 1; have hfz14_2 := blk_frozen BK111.out 2; have hfz14_3 := blk_frozen BK111.out 3; have hfz14_4 := blk_frozen BK111.out 4; have hfz14_5 := blk_frozen BK111.out 5; have hfz14_6 := blk_frozen BK111.out 6; have hfz14_7 := blk_frozen BK111.out 7; have hfz14_8 := blk_frozen BK111.out 8) | ((with_reducible refine gate_callee (f := 33) rfl ?_); refine goesL_ (some 5) rfl rfl Tryd.func33 (by kernel_rfl) rfl #[.string a0_1] rfl (by (try simp only [List.map_toArray, List.map_cons, List.map_nil]); first | done | rfl | (simp only [List.length_drop, List.length_take]; rfl)) ?_; (with_reducible refine (desc_Name.calls k a0_1 true _ A2.out ?side1).mono ?_); (case side1 => exact GL.of_below HG.out (by repeat (first | (with_reducible first | exact HB.out | apply below_alloc | apply pw_below_drewN | apply below_drew1 | refine below_set ?_ GE111.out) | exact HB.out))); rintro e w15 ⟨rfl, hb⟩; refine ⟨_, rfl, ?_⟩; have n0_ := Aside0.mk (blk_below (g := gb111) (o := .cells #[.int .i64 a0_0, .string a0_1, .int .i64 a0_2, .int .i64 a0_3, .int .i64 a0_4, .int .i64 a0_5, .int .i64 a0_6, .int .u64 a0_7, .string a0_8] 75 (0, 0)) (by (with_reducible repeat (first | refine blk_drewN ?_ _ | refine blk_drew ?_ | refine blk_alloc ?_ _)); exact BK111.out) hb); have n1_ := Aside0.mk (below_step (by repeat (first | (with_reducible first | exact HB.out | apply below_alloc | apply pw_below_drewN | apply below_drew1 | refine below_set ?_ GE111.out) | exact HB.out)) hb); clear BK111; clear HB; have BK111 := n0_; have HB := n1_; clear n0_ n1_; (try clear hb); (try clear hb2); (try clear hk); (try clear hi); have hcz16_0 : w15.cell? ⟨gb111, 0, none⟩ = some (.int .i64 a0_0) := (Go.Proofs.YtjgomlcdmpcoaaaDoorW.PrintWords.blk_cell BK111.out 0).trans rfl; have hcz16_1 : w15.cell? ⟨gb111, 1, none⟩ = some (.string a0_1) := (Go.Proofs.YtjgomlcdmpcoaaaDoorW.PrintWords.blk_cell BK111.out 1).trans rfl; have hcz16_2 : w15.cell? ⟨gb111, 2, none⟩ = some (.int .i64 a0_2) := (Go.Proofs.YtjgomlcdmpcoaaaDoorW.PrintWords.blk_cell BK111.out 2).trans rfl; have hcz16_3 : w15.cell? ⟨gb111, 3, none⟩ = some (.int .i64 a0_3) := (Go.Proofs.YtjgomlcdmpcoaaaDoorW.PrintWords.blk_cell BK111.out 3).trans rfl; have hcz16_4 : w15.cell? ⟨gb111, 4, none⟩ = some (.int .i64 a0_4) := (Go.Proofs.YtjgomlcdmpcoaaaDoorW.PrintWords.blk_cell BK111.out 4).trans rfl; have hcz16_5 : w15.cell? ⟨gb111, 5, none⟩ = some (.int .i64 a0_5) := (Go.Proofs.YtjgomlcdmpcoaaaDoorW.PrintWords.blk_cell BK111.out 5).trans rfl; have hcz16_6 : w15.cell? ⟨gb111, 6, none⟩ = some (.int .i64 a0_6) := (Go.Proofs.YtjgomlcdmpcoaaaDoorW.PrintWords.blk_cell BK111.out 6).trans rfl; have hcz16_7 : w15.cell? ⟨gb111, 7, none⟩ = some (.int .u64 a0_7) := (Go.Proofs.YtjgomlcdmpcoaaaDoorW.PrintWords.blk_cell BK111.out 7).trans rfl; have hcz16_8 : w15.cell? ⟨gb111, 8, none⟩ = some (.string a0_8) := (Go.Proofs.YtjgomlcdmpcoaaaDoorW.PrintWords.blk_cell BK111.out 8).trans rfl; have hfz16_0 := blk_frozen BK111.out 0; have hfz16_1 := blk_frozen BK111.out 1; have hfz16_2 := blk_frozen BK111.out 2; have hfz16_3 := blk_frozen BK111.out 3; have hfz16_4 := blk_frozen BK111.out 4; have hfz16_5 := blk_frozen BK111.out 5; have hfz16_6 := blk_frozen BK111.out 6; have hfz16_7 := blk_frozen BK111.out 7; have hfz16_8 := blk_frozen BK111.out 8) | (go_at_call 162; (with_reducible refine (desc_state.calls a0_3 true _ A6.out).mono ?_); rintro e w' ⟨rfl, ⟨nd, rfl⟩⟩) | (go_at_call 162; (with_reducible refine (desc_state.calls a0_4 true _ A8.out).mono ?_); rintro e w' ⟨rfl, ⟨nd, rfl⟩⟩) | (go_at_call 144; (with_reducible refine (value_May.calls a0_5 a0_6 a0_7 a0_8 true _ A10.out).mono ?_); rintro e w17 ⟨rfl, hb⟩; have n0_ := Aside0.mk (blk_below (g := gb111) (o := .cells #[.int .i64 a0_0, .string a0_1, .int .i64 a0_2, .int .i64 a0_3, .int .i64 a0_4, .int .i64 a0_5, .int .i64 a0_6, .int .u64 a0_7, .string a0_8] 75 (0, 0)) (by (with_reducible repeat (first | refine blk_drewN ?_ _ | refine blk_drew ?_ | refine blk_alloc ?_ _)); exact BK111.out) hb); have n1_ := Aside0.mk (below_step (by repeat (first | (with_reducible first | exact HB.out | apply below_alloc | apply pw_below_drewN | apply below_drew1 | refine below_set ?_ GE111.out) | exact HB.out)) hb); clear BK111; clear HB; have BK111 := n0_; have HB := n1_; clear n0_ n1_; (try clear hb); (try clear hb2); (try clear hk); (try clear hi); have hcz18_0 : w17.cell? ⟨gb111, 0, none⟩ = some (.int .i64 a0_0) := (Go.Proofs.YtjgomlcdmpcoaaaDoorW.PrintWords.blk_cell BK111.out 0).trans rfl; have hcz18_1 : w17.cell? ⟨gb111, 1, none⟩ = some (.string a0_1) := (Go.Proofs.YtjgomlcdmpcoaaaDoorW.PrintWords.blk_cell BK111.out 1).trans rfl; have hcz18_2 : w17.cell? ⟨gb111, 2, none⟩ = some (.int .i64 a0_2) := (Go.Proofs.YtjgomlcdmpcoaaaDoorW.PrintWords.blk_cell BK111.out 2).trans rfl; have hcz18_3 : w17.cell? ⟨gb111, 3, none⟩ = some (.int .i64 a0_3) := (Go.Proofs.YtjgomlcdmpcoaaaDoorW.PrintWords.blk_cell BK111.out 3).trans rfl; have hcz18_4 : w17.cell? ⟨gb111, 4, none⟩ = some (.int .i64 a0_4) := (Go.Proofs.YtjgomlcdmpcoaaaDoorW.PrintWords.blk_cell BK111.out 4).trans rfl; have hcz18_5 : w17.cell? ⟨gb111, 5, none⟩ = some (.int .i64 a0_5) := (Go.Proofs.YtjgomlcdmpcoaaaDoorW.PrintWords.blk_cell BK111.out 5).trans rfl; have hcz18_6 : w17.cell? ⟨gb111, 6, none⟩ = some (.int .i64 a0_6) := (Go.Proofs.YtjgomlcdmpcoaaaDoorW.PrintWords.blk_cell BK111.out 6).trans rfl; have hcz18_7 : w17.cell? ⟨gb111, 7, none⟩ = some (.int .u64 a0_7) := (Go.Proofs.YtjgomlcdmpcoaaaDoorW.PrintWords.blk_cell BK111.out 7).trans rfl; have hcz18_8 : w17.cell? ⟨gb111, 8, none⟩ = some (.string a0_8) := (Go.Proofs.YtjgomlcdmpcoaaaDoorW.PrintWords.blk_cell BK111.out 8).trans rfl; have hfz18_0 := blk_frozen BK111.out 0; have hfz18_1 := blk_frozen BK111.out 1; have hfz18_2 := blk_frozen BK111.out 2; have hfz18_3 := blk_frozen BK111.out 3; have hfz18_4 := blk_frozen BK111.out 4; have hfz18_5 := blk_frozen BK111.out 5; have hfz18_6 := blk_frozen BK111.out 6; have hfz18_7 := blk_frozen BK111.out 7; have hfz18_8 := blk_frozen BK111.out 8))
        go_ret; exact ⟨by first | rfl | (simp [errW_none, errW_some] <;> rfl) | (simp [*, errW_none, errW_some] <;> rfl), by repeat (first | (with_reducible first | exact HB.out | apply below_alloc | apply pw_below_drewN | apply below_drew1 | refine below_set ?_ GE111.out) | exact HB.out)⟩
       ·rw [if_neg c12] at H
        have c12b0 : (a0_5 == 0) = false := beq_eq_false_iff_ne.mpr c12
        have c12b1 : (a0_5 != 0) = true := bne_iff_ne.mpr c12
        obtain rfl := Option.some.inj H; go_enter Tryd.func124, Tryd.ntmps124
        go_wp2_with (first | ((with_reducible refine gate_dst (N := 1) rfl ?_); refine box_event ?hg (N := 1) ?hd (cs := #[.int .i64 a0_0, .string a0_1, .int .i64 a0_2, .int .i64 a0_3, .int .i64 a0_4, .int .i64 a0_5, .int .i64 a0_6, .int .u64 a0_7, .string a0_8]) (t := 75) ?hr ?_; (case hd => rfl); (case hg => rfl); (case hr => first | (go_simp; done) | (go_simp; rfl)); intro gb111 hg w19 hbox hb; have n0_ := Aside0.mk (below_step (by repeat (first | (with_reducible first | exact HB.out | apply below_alloc | apply pw_below_drewN | apply below_drew1) | exact HB.out)) hb); have n1_ := Aside0.mk (hbox); have n2_ := Aside0.mk ((by rw [hg]; exact (below_size (by repeat (first | (with_reducible first | exact HB.out | apply below_alloc | apply pw_below_drewN | apply below_drew1) | exact HB.out))) : w.heap.size ≤ gb111)); have n3_ := Aside0.mk ((by rw [hg]; exact (below_size (by repeat (first | (with_reducible first | exact HB.out | apply below_alloc | apply pw_below_drewN | apply below_drew1) | exact HB.out))) : w.heap.size ≤ gb111)); clear HB; have HB := n0_; have BK111 := n1_; have GW111 := n2_; have GE111 := n3_; clear n0_ n1_ n2_ n3_; clear hb hbox hg; have hcz20_0 : w19.cell? ⟨gb111, 0, none⟩ = some (.int .i64 a0_0) := (Go.Proofs.YtjgomlcdmpcoaaaDoorW.PrintWords.blk_cell BK111.out 0).trans rfl; have hcz20_1 : w19.cell? ⟨gb111, 1, none⟩ = some (.string a0_1) := (Go.Proofs.YtjgomlcdmpcoaaaDoorW.PrintWords.blk_cell BK111.out 1).trans rfl; have hcz20_2 : w19.cell? ⟨gb111, 2, none⟩ = some (.int .i64 a0_2) := (Go.Proofs.YtjgomlcdmpcoaaaDoorW.PrintWords.blk_cell BK111.out 2).trans rfl; have hcz20_3 : w19.cell? ⟨gb111, 3, none⟩ = some (.int .i64 a0_3) := (Go.Proofs.YtjgomlcdmpcoaaaDoorW.PrintWords.blk_cell BK111.out 3).trans rfl; have hcz20_4 : w19.cell? ⟨gb111, 4, none⟩ = some (.int .i64 a0_4) := (Go.Proofs.YtjgomlcdmpcoaaaDoorW.PrintWords.blk_cell BK111.out 4).trans rfl; have hcz20_5 : w19.cell? ⟨gb111, 5, none⟩ = some (.int .i64 a0_5) := (Go.Proofs.YtjgomlcdmpcoaaaDoorW.PrintWords.blk_cell BK111.out 5).trans rfl; have hcz20_6 : w19.cell? ⟨gb111, 6, none⟩ = some (.int .i64 a0_6) := (Go.Proofs.YtjgomlcdmpcoaaaDoorW.PrintWords.blk_cell BK111.out 6).trans rfl; have hcz20_7 : w19.cell? ⟨gb111, 7, none⟩ = some (.int .u64 a0_7) := (Go.Proofs.YtjgomlcdmpcoaaaDoorW.PrintWords.blk_cell BK111.out 7).trans rfl; have hcz20_8 : w19.cell? ⟨gb111, 8, none⟩ = some (.string a0_8) := (Go.Proofs.YtjgomlcdmpcoaaaDoorW.PrintWords.blk_cell BK111.out 8).trans rfl; have hfz20_0 := blk_frozen BK111.out 0; have hfz20_1 := blk_frozen BK111.out 1; have hfz20_2 := blk_frozen BK111.out 2; have hfz20_3 := blk_frozen BK111.out 3; have hfz20_4 := blk_frozen BK111.out 4; have hfz20_5 := blk_frozen BK111.out 5; have hfz20_6 := blk_frozen BK111.out 6; have hfz20_7 := blk_frozen BK111.out 7; have hfz20_8 := blk_frozen BK111.out 8) | ((with_reducible refine gate_callee (f := 33) rfl ?_); refine goesL_ (some 5) rfl rfl Tryd.func33 (by kernel_rfl) rfl #[.string a0_1] rfl (by (try simp only [List.map_toArray, List.map_cons, List.map_nil]); first | done | rfl | (simp only [List.length_drop, List.length_take]; rfl)) ?_; (with_reducible refine (desc_Name.calls k a0_1 true _ A2.out ?side1).mono ?_); (case side1 => exact GL.of_below HG.out (by repeat (first | (with_reducible first | exact HB.out | apply below_alloc | apply pw_below_drewN | apply below_drew1 | refine below_set ?_ GE111.out) | exact HB.out))); rintro e w21 ⟨rfl, hb⟩; refine ⟨_, rfl, ?_⟩; have n0_ := Aside0.mk (blk_below (g := gb111) (o := .cells #[.int .i64 a0_0, .string a0_1, .int .i64 a0_2, .int .i64 a0_3, .int .i64 a0_4, .int .i64 a0_5, .int .i64 a0_6, .int .u64 a0_7, .string a0_8] 75 (0, 0)) (by (with_reducible repeat (first | refine blk_drewN ?_ _ | refine blk_drew ?_ | refine blk_alloc ?_ _)); exact BK111.out) hb); have n1_ := Aside0.mk (below_step (by repeat (first | (with_reducible first | exact HB.out | apply below_alloc | apply pw_below_drewN | apply below_drew1 | refine below_set ?_ GE111.out) | exact HB.out)) hb); clear BK111; clear HB; have BK111 := n0_; have HB := n1_; clear n0_ n1_; (try clear hb); (try clear hb2); (try clear hk); (try clear hi); have hcz22_0 : w21.cell? ⟨gb111, 0, none⟩ = some (.int .i64 a0_0) := (Go.Proofs.YtjgomlcdmpcoaaaDoorW.PrintWords.blk_cell BK111.out 0).trans rfl; have hcz22_1 : w21.cell? ⟨gb111, 1, none⟩ = some (.string a0_1) := (Go.Proofs.YtjgomlcdmpcoaaaDoorW.PrintWords.blk_cell BK111.out 1).trans rfl; have hcz22_2 : w21.cell? ⟨gb111, 2, none⟩ = some (.int .i64 a0_2) := (Go.Proofs.YtjgomlcdmpcoaaaDoorW.PrintWords.blk_cell BK111.out 2).trans rfl; have hcz22_3 : w21.cell? ⟨gb111, 3, none⟩ = some (.int .i64 a0_3) := (Go.Proofs.YtjgomlcdmpcoaaaDoorW.PrintWords.blk_cell BK111.out 3).trans rfl; have hcz22_4 : w21.cell? ⟨gb111, 4, none⟩ = some (.int .i64 a0_4) := (Go.Proofs.YtjgomlcdmpcoaaaDoorW.PrintWords.blk_cell BK111.out 4).trans rfl; have hcz22_5 : w21.cell? ⟨gb111, 5, none⟩ = some (.int .i64 a0_5) := (Go.Proofs.YtjgomlcdmpcoaaaDoorW.PrintWords.blk_cell BK111.out 5).trans rfl; have hcz22_6 : w21.cell? ⟨gb111, 6, none⟩ = some (.int .i64 a0_6) := (Go.Proofs.YtjgomlcdmpcoaaaDoorW.PrintWords.blk_cell BK111.out 6).trans rfl; have hcz22_7 : w21.cell? ⟨gb111, 7, none⟩ = some (.int .u64 a0_7) := (Go.Proofs.YtjgomlcdmpcoaaaDoorW.PrintWords.blk_cell BK111.out 7).trans rfl; have hcz22_8 : w21.cell? ⟨gb111, 8, none⟩ = some (.string a0_8) := (Go.Proofs.YtjgomlcdmpcoaaaDoorW.PrintWords.blk_cell BK111.out 8).trans rfl; have hfz22_0 := blk_frozen BK111.out 0; have hfz22_1 := blk_frozen BK111.out 1; have hfz22_2 := blk_frozen BK111.out 2; have hfz22_3 := blk_frozen BK111.out 3; have hfz22_4 := blk_frozen BK111.out 4; have hfz22_5 := blk_frozen BK111.out 5; have hfz22_6 := blk_frozen BK111.out 6; have hfz22_7 := blk_frozen BK111.out 7; have hfz22_8 := blk_frozen BK111.out 8) | (go_at_call 162; (with_reducible refine (desc_state.calls a0_3 true _ A6.out).mono ?_); rintro e w' ⟨rfl, ⟨nd, rfl⟩⟩) | (go_at_call 162; (with_reducible refine (desc_state.calls a0_4 true _ A8.out).mono ?_); rintro e w' ⟨rfl, ⟨nd, rfl⟩⟩) | (go_at_call 144; (with_reducible refine (value_May.calls a0_5 a0_6 a0_7 a0_8 true _ A10.out).mono ?_); rintro e w23 ⟨rfl, hb⟩; have n0_ := Aside0.mk (blk_below (g := gb111) (o := .cells #[.int .i64 a0_0, .string a0_1, .int .i64 a0_2, .int .i64 a0_3, .int .i64 a0_4, .int .i64 a0_5, .int .i64 a0_6, .int .u64 a0_7, .string a0_8] 75 (0, 0)) (by (with_reducible repeat (first | refine blk_drewN ?_ _ | refine blk_drew ?_ | refine blk_alloc ?_ _)); exact BK111.out) hb); have n1_ := Aside0.mk (below_step (by repeat (first | (with_reducible first | exact HB.out | apply below_alloc | apply pw_below_drewN | apply below_drew1 | refine below_set ?_ GE111.out) | exact HB.out)) hb); clear BK111; clear HB; have BK111 := n0_; have HB := n1_; clear n0_ n1_; (try clear hb); (try clear hb2); (try clear hk); (try clear hi); have hcz24_0 : w23.cell? ⟨gb111, 0, none⟩ = some (.int .i64 a0_0) := (Go.Proofs.YtjgomlcdmpcoaaaDoorW.PrintWords.blk_cell BK111.out 0).trans rfl; have hcz24_1 : w23.cell? ⟨gb111, 1, none⟩ = some (.string a0_1) := (Go.Proofs.YtjgomlcdmpcoaaaDoorW.PrintWords.blk_cell BK111.out 1).trans rfl; have hcz24_2 : w23.cell? ⟨gb111, 2, none⟩ = some (.int .i64 a0_2) := (Go.Proofs.YtjgomlcdmpcoaaaDoorW.PrintWords.blk_cell BK111.out 2).trans rfl; have hcz24_3 : w23.cell? ⟨gb111, 3, none⟩ = some (.int .i64 a0_3) := (Go.Proofs.YtjgomlcdmpcoaaaDoorW.PrintWords.blk_cell BK111.out 3).trans rfl; have hcz24_4 : w23.cell? ⟨gb111, 4, none⟩ = some (.int .i64 a0_4) := (Go.Proofs.YtjgomlcdmpcoaaaDoorW.PrintWords.blk_cell BK111.out 4).trans rfl; have hcz24_5 : w23.cell? ⟨gb111, 5, none⟩ = some (.int .i64 a0_5) := (Go.Proofs.YtjgomlcdmpcoaaaDoorW.PrintWords.blk_cell BK111.out 5).trans rfl; have hcz24_6 : w23.cell? ⟨gb111, 6, none⟩ = some (.int .i64 a0_6) := (Go.Proofs.YtjgomlcdmpcoaaaDoorW.PrintWords.blk_cell BK111.out 6).trans rfl; have hcz24_7 : w23.cell? ⟨gb111, 7, none⟩ = some (.int .u64 a0_7) := (Go.Proofs.YtjgomlcdmpcoaaaDoorW.PrintWords.blk_cell BK111.out 7).trans rfl; have hcz24_8 : w23.cell? ⟨gb111, 8, none⟩ = some (.string a0_8) := (Go.Proofs.YtjgomlcdmpcoaaaDoorW.PrintWords.blk_cell BK111.out 8).trans rfl; have hfz24_0 := blk_frozen BK111.out 0; have hfz24_1 := blk_frozen BK111.out 1; have hfz24_2 := blk_frozen BK111.out 2; have hfz24_3 := blk_frozen BK111.out 3; have hfz24_4 := blk_frozen BK111.out 4; have hfz24_5 := blk_frozen BK111.out 5; have hfz24_6 := blk_frozen BK111.out 6; have hfz24_7 := blk_frozen BK111.out 7; have hfz24_8 := blk_frozen BK111.out 8))
        go_ret; exact ⟨by first | rfl | (simp [errW_none, errW_some] <;> rfl) | (simp [*, errW_none, errW_some] <;> rfl), by repeat (first | (with_reducible first | exact HB.out | apply below_alloc | apply pw_below_drewN | apply below_drew1 | refine below_set ?_ GE111.out) | exact HB.out)⟩
      ·replace c11 := Bool.eq_false_iff.mpr c11
       subst c11; have H1 : (some false) = some r := by rw [if_neg (show ¬ (false = true) by decide)] at H; exact H
       clear H; have H := H1; clear H1; obtain rfl := Option.some.inj H; go_enter Tryd.func124, Tryd.ntmps124
       go_wp2_with (first | ((with_reducible refine gate_dst (N := 1) rfl ?_); refine box_event ?hg (N := 1) ?hd (cs := #[.int .i64 a0_0, .string a0_1, .int .i64 a0_2, .int .i64 a0_3, .int .i64 a0_4, .int .i64 a0_5, .int .i64 a0_6, .int .u64 a0_7, .string a0_8]) (t := 75) ?hr ?_; (case hd => rfl); (case hg => rfl); (case hr => first | (go_simp; done) | (go_simp; rfl)); intro gb111 hg w25 hbox hb; have n0_ := Aside0.mk (below_step (by repeat (first | (with_reducible first | exact HB.out | apply below_alloc | apply pw_below_drewN | apply below_drew1) | exact HB.out)) hb); have n1_ := Aside0.mk (hbox); have n2_ := Aside0.mk ((by rw [hg]; exact (below_size (by repeat (first | (with_reducible first | exact HB.out | apply below_alloc | apply pw_below_drewN | apply below_drew1) | exact HB.out))) : w.heap.size ≤ gb111)); have n3_ := Aside0.mk ((by rw [hg]; exact (below_size (by repeat (first | (with_reducible first | exact HB.out | apply below_alloc | apply pw_below_drewN | apply below_drew1) | exact HB.out))) : w.heap.size ≤ gb111)); clear HB; have HB := n0_; have BK111 := n1_; have GW111 := n2_; have GE111 := n3_; clear n0_ n1_ n2_ n3_; clear hb hbox hg; have hcz26_0 : w25.cell? ⟨gb111, 0, none⟩ = some (.int .i64 a0_0) := (Go.Proofs.YtjgomlcdmpcoaaaDoorW.PrintWords.blk_cell BK111.out 0).trans rfl; have hcz26_1 : w25.cell? ⟨gb111, 1, none⟩ = some (.string a0_1) := (Go.Proofs.YtjgomlcdmpcoaaaDoorW.PrintWords.blk_cell BK111.out 1).trans rfl; have hcz26_2 : w25.cell? ⟨gb111, 2, none⟩ = some (.int .i64 a0_2) := (Go.Proofs.YtjgomlcdmpcoaaaDoorW.PrintWords.blk_cell BK111.out 2).trans rfl; have hcz26_3 : w25.cell? ⟨gb111, 3, none⟩ = some (.int .i64 a0_3) := (Go.Proofs.YtjgomlcdmpcoaaaDoorW.PrintWords.blk_cell BK111.out 3).trans rfl; have hcz26_4 : w25.cell? ⟨gb111, 4, none⟩ = some (.int .i64 a0_4) := (Go.Proofs.YtjgomlcdmpcoaaaDoorW.PrintWords.blk_cell BK111.out 4).trans rfl; have hcz26_5 : w25.cell? ⟨gb111, 5, none⟩ = some (.int .i64 a0_5) := (Go.Proofs.YtjgomlcdmpcoaaaDoorW.PrintWords.blk_cell BK111.out 5).trans rfl; have hcz26_6 : w25.cell? ⟨gb111, 6, none⟩ = some (.int .i64 a0_6) := (Go.Proofs.YtjgomlcdmpcoaaaDoorW.PrintWords.blk_cell BK111.out 6).trans rfl; have hcz26_7 : w25.cell? ⟨gb111, 7, none⟩ = some (.int .u64 a0_7) := (Go.Proofs.YtjgomlcdmpcoaaaDoorW.PrintWords.blk_cell BK111.out 7).trans rfl; have hcz26_8 : w25.cell? ⟨gb111, 8, none⟩ = some (.string a0_8) := (Go.Proofs.YtjgomlcdmpcoaaaDoorW.PrintWords.blk_cell BK111.out 8).trans rfl; have hfz26_0 := blk_frozen BK111.out 0; have hfz26_1 := blk_frozen BK111.out 1; have hfz26_2 := blk_frozen BK111.out 2; have hfz26_3 := blk_frozen BK111.out 3; have hfz26_4 := blk_frozen BK111.out 4; have hfz26_5 := blk_frozen BK111.out 5; have hfz26_6 := blk_frozen BK111.out 6; have hfz26_7 := blk_frozen BK111.out 7; have hfz26_8 := blk_frozen BK111.out 8) | ((with_reducible refine gate_callee (f := 33) rfl ?_); refine goesL_ (some 5) rfl rfl Tryd.func33 (by kernel_rfl) rfl #[.string a0_1] rfl (by (try simp only [List.map_toArray, List.map_cons, List.map_nil]); first | done | rfl | (simp only [List.length_drop, List.length_take]; rfl)) ?_; (with_reducible refine (desc_Name.calls k a0_1 true _ A2.out ?side1).mono ?_); (case side1 => exact GL.of_below HG.out (by repeat (first | (with_reducible first | exact HB.out | apply below_alloc | apply pw_below_drewN | apply below_drew1 | refine below_set ?_ GE111.out) | exact HB.out))); rintro e w27 ⟨rfl, hb⟩; refine ⟨_, rfl, ?_⟩; have n0_ := Aside0.mk (blk_below (g := gb111) (o := .cells #[.int .i64 a0_0, .string a0_1, .int .i64 a0_2, .int .i64 a0_3, .int .i64 a0_4, .int .i64 a0_5, .int .i64 a0_6, .int .u64 a0_7, .string a0_8] 75 (0, 0)) (by (with_reducible repeat (first | refine blk_drewN ?_ _ | refine blk_drew ?_ | refine blk_alloc ?_ _)); exact BK111.out) hb); have n1_ := Aside0.mk (below_step (by repeat (first | (with_reducible first | exact HB.out | apply below_alloc | apply pw_below_drewN | apply below_drew1 | refine below_set ?_ GE111.out) | exact HB.out)) hb); clear BK111; clear HB; have BK111 := n0_; have HB := n1_; clear n0_ n1_; (try clear hb); (try clear hb2); (try clear hk); (try clear hi); have hcz28_0 : w27.cell? ⟨gb111, 0, none⟩ = some (.int .i64 a0_0) := (Go.Proofs.YtjgomlcdmpcoaaaDoorW.PrintWords.blk_cell BK111.out 0).trans rfl; have hcz28_1 : w27.cell? ⟨gb111, 1, none⟩ = some (.string a0_1) := (Go.Proofs.YtjgomlcdmpcoaaaDoorW.PrintWords.blk_cell BK111.out 1).trans rfl; have hcz28_2 : w27.cell? ⟨gb111, 2, none⟩ = some (.int .i64 a0_2) := (Go.Proofs.YtjgomlcdmpcoaaaDoorW.PrintWords.blk_cell BK111.out 2).trans rfl; have hcz28_3 : w27.cell? ⟨gb111, 3, none⟩ = some (.int .i64 a0_3) := (Go.Proofs.YtjgomlcdmpcoaaaDoorW.PrintWords.blk_cell BK111.out 3).trans rfl; have hcz28_4 : w27.cell? ⟨gb111, 4, none⟩ = some (.int .i64 a0_4) := (Go.Proofs.YtjgomlcdmpcoaaaDoorW.PrintWords.blk_cell BK111.out 4).trans rfl; have hcz28_5 : w27.cell? ⟨gb111, 5, none⟩ = some (.int .i64 a0_5) := (Go.Proofs.YtjgomlcdmpcoaaaDoorW.PrintWords.blk_cell BK111.out 5).trans rfl; have hcz28_6 : w27.cell? ⟨gb111, 6, none⟩ = some (.int .i64 a0_6) := (Go.Proofs.YtjgomlcdmpcoaaaDoorW.PrintWords.blk_cell BK111.out 6).trans rfl; have hcz28_7 : w27.cell? ⟨gb111, 7, none⟩ = some (.int .u64 a0_7) := (Go.Proofs.YtjgomlcdmpcoaaaDoorW.PrintWords.blk_cell BK111.out 7).trans rfl; have hcz28_8 : w27.cell? ⟨gb111, 8, none⟩ = some (.string a0_8) := (Go.Proofs.YtjgomlcdmpcoaaaDoorW.PrintWords.blk_cell BK111.out 8).trans rfl; have hfz28_0 := blk_frozen BK111.out 0; have hfz28_1 := blk_frozen BK111.out 1; have hfz28_2 := blk_frozen BK111.out 2; have hfz28_3 := blk_frozen BK111.out 3; have hfz28_4 := blk_frozen BK111.out 4; have hfz28_5 := blk_frozen BK111.out 5; have hfz28_6 := blk_frozen BK111.out 6; have hfz28_7 := blk_frozen BK111.out 7; have hfz28_8 := blk_frozen BK111.out 8) | (go_at_call 162; (with_reducible refine (desc_state.calls a0_3 true _ A6.out).mono ?_); rintro e w' ⟨rfl, ⟨nd, rfl⟩⟩) | (go_at_call 162; (with_reducible refine (desc_state.calls a0_4 true _ A8.out).mono ?_); rintro e w' ⟨rfl, ⟨nd, rfl⟩⟩) | (go_at_call 144; (with_reducible refine (value_May.calls a0_5 a0_6 a0_7 a0_8 false _ A10.out).mono ?_); rintro e w29 ⟨rfl, hb⟩; have n0_ := Aside0.mk (blk_below (g := gb111) (o := .cells #[.int .i64 a0_0, .string a0_1, .int .i64 a0_2, .int .i64 a0_3, .int .i64 a0_4, .int .i64 a0_5, .int .i64 a0_6, .int .u64 a0_7, .string a0_8] 75 (0, 0)) (by (with_reducible repeat (first | refine blk_drewN ?_ _ | refine blk_drew ?_ | refine blk_alloc ?_ _)); exact BK111.out) hb); have n1_ := Aside0.mk (below_step (by repeat (first | (with_reducible first | exact HB.out | apply below_alloc | apply pw_below_drewN | apply below_drew1 | refine below_set ?_ GE111.out) | exact HB.out)) hb); clear BK111; clear HB; have BK111 := n0_; have HB := n1_; clear n0_ n1_; (try clear hb); (try clear hb2); (try clear hk); (try clear hi)))
       go_ret; exact ⟨by first | rfl | (simp [errW_none, errW_some] <;> rfl) | (simp [*, errW_none, errW_some] <;> rfl), by repeat (first | (with_reducible first | exact HB.out | apply below_alloc | apply pw_below_drewN | apply below_drew1 | refine below_set ?_ GE111.out) | exact HB.out)⟩
     ·replace c9 := Bool.eq_false_iff.mpr c9
      subst c9; have H1 : (some false) = some r := by rw [if_neg (show ¬ (false = true) by decide)] at H; exact H
      clear H; have H := H1; clear H1; obtain rfl := Option.some.inj H; go_enter Tryd.func124, Tryd.ntmps124
      go_wp2_with (first | ((with_reducible refine gate_dst (N := 1) rfl ?_); refine box_event ?hg (N := 1) ?hd (cs := #[.int .i64 a0_0, .string a0_1, .int .i64 a0_2, .int .i64 a0_3, .int .i64 a0_4, .int .i64 a0_5, .int .i64 a0_6, .int .u64 a0_7, .string a0_8]) (t := 75) ?hr ?_; (case hd => rfl); (case hg => rfl); (case hr => first | (go_simp; done) | (go_simp; rfl)); intro gb111 hg w30 hbox hb; have n0_ := Aside0.mk (below_step (by repeat (first | (with_reducible first | exact HB.out | apply below_alloc | apply pw_below_drewN | apply below_drew1) | exact HB.out)) hb); have n1_ := Aside0.mk (hbox); have n2_ := Aside0.mk ((by rw [hg]; exact (below_size (by repeat (first | (with_reducible first | exact HB.out | apply below_alloc | apply pw_below_drewN | apply below_drew1) | exact HB.out))) : w.heap.size ≤ gb111)); have n3_ := Aside0.mk ((by rw [hg]; exact (below_size (by repeat (first | (with_reducible first | exact HB.out | apply below_alloc | apply pw_below_drewN | apply below_drew1) | exact HB.out))) : w.heap.size ≤ gb111)); clear HB; have HB := n0_; have BK111 := n1_; have GW111 := n2_; have GE111 := n3_; clear n0_ n1_ n2_ n3_; clear hb hbox hg; have hcz31_0 : w30.cell? ⟨gb111, 0, none⟩ = some (.int .i64 a0_0) := (Go.Proofs.YtjgomlcdmpcoaaaDoorW.PrintWords.blk_cell BK111.out 0).trans rfl; have hcz31_1 : w30.cell? ⟨gb111, 1, none⟩ = some (.string a0_1) := (Go.Proofs.YtjgomlcdmpcoaaaDoorW.PrintWords.blk_cell BK111.out 1).trans rfl; have hcz31_2 : w30.cell? ⟨gb111, 2, none⟩ = some (.int .i64 a0_2) := (Go.Proofs.YtjgomlcdmpcoaaaDoorW.PrintWords.blk_cell BK111.out 2).trans rfl; have hcz31_3 : w30.cell? ⟨gb111, 3, none⟩ = some (.int .i64 a0_3) := (Go.Proofs.YtjgomlcdmpcoaaaDoorW.PrintWords.blk_cell BK111.out 3).trans rfl; have hcz31_4 : w30.cell? ⟨gb111, 4, none⟩ = some (.int .i64 a0_4) := (Go.Proofs.YtjgomlcdmpcoaaaDoorW.PrintWords.blk_cell BK111.out 4).trans rfl; have hcz31_5 : w30.cell? ⟨gb111, 5, none⟩ = some (.int .i64 a0_5) := (Go.Proofs.YtjgomlcdmpcoaaaDoorW.PrintWords.blk_cell BK111.out 5).trans rfl; have hcz31_6 : w30.cell? ⟨gb111, 6, none⟩ = some (.int .i64 a0_6) := (Go.Proofs.YtjgomlcdmpcoaaaDoorW.PrintWords.blk_cell BK111.out 6).trans rfl; have hcz31_7 : w30.cell? ⟨gb111, 7, none⟩ = some (.int .u64 a0_7) := (Go.Proofs.YtjgomlcdmpcoaaaDoorW.PrintWords.blk_cell BK111.out 7).trans rfl; have hcz31_8 : w30.cell? ⟨gb111, 8, none⟩ = some (.string a0_8) := (Go.Proofs.YtjgomlcdmpcoaaaDoorW.PrintWords.blk_cell BK111.out 8).trans rfl; have hfz31_0 := blk_frozen BK111.out 0; have hfz31_1 := blk_frozen BK111.out 1; have hfz31_2 := blk_frozen BK111.out 2; have hfz31_3 := blk_frozen BK111.out 3; have hfz31_4 := blk_frozen BK111.out 4; have hfz31_5 := blk_frozen BK111.out 5; have hfz31_6 := blk_frozen BK111.out 6; have hfz31_7 := blk_frozen BK111.out 7; have hfz31_8 := blk_frozen BK111.out 8) | ((with_reducible refine gate_callee (f := 33) rfl ?_); refine goesL_ (some 5) rfl rfl Tryd.func33 (by kernel_rfl) rfl #[.string a0_1] rfl (by (try simp only [List.map_toArray, List.map_cons, List.map_nil]); first | done | rfl | (simp only [List.length_drop, List.length_take]; rfl)) ?_; (with_reducible refine (desc_Name.calls k a0_1 true _ A2.out ?side1).mono ?_); (case side1 => exact GL.of_below HG.out (by repeat (first | (with_reducible first | exact HB.out | apply below_alloc | apply pw_below_drewN | apply below_drew1 | refine below_set ?_ GE111.out) | exact HB.out))); rintro e w32 ⟨rfl, hb⟩; refine ⟨_, rfl, ?_⟩; have n0_ := Aside0.mk (blk_below (g := gb111) (o := .cells #[.int .i64 a0_0, .string a0_1, .int .i64 a0_2, .int .i64 a0_3, .int .i64 a0_4, .int .i64 a0_5, .int .i64 a0_6, .int .u64 a0_7, .string a0_8] 75 (0, 0)) (by (with_reducible repeat (first | refine blk_drewN ?_ _ | refine blk_drew ?_ | refine blk_alloc ?_ _)); exact BK111.out) hb); have n1_ := Aside0.mk (below_step (by repeat (first | (with_reducible first | exact HB.out | apply below_alloc | apply pw_below_drewN | apply below_drew1 | refine below_set ?_ GE111.out) | exact HB.out)) hb); clear BK111; clear HB; have BK111 := n0_; have HB := n1_; clear n0_ n1_; (try clear hb); (try clear hb2); (try clear hk); (try clear hi); have hcz33_0 : w32.cell? ⟨gb111, 0, none⟩ = some (.int .i64 a0_0) := (Go.Proofs.YtjgomlcdmpcoaaaDoorW.PrintWords.blk_cell BK111.out 0).trans rfl; have hcz33_1 : w32.cell? ⟨gb111, 1, none⟩ = some (.string a0_1) := (Go.Proofs.YtjgomlcdmpcoaaaDoorW.PrintWords.blk_cell BK111.out 1).trans rfl; have hcz33_2 : w32.cell? ⟨gb111, 2, none⟩ = some (.int .i64 a0_2) := (Go.Proofs.YtjgomlcdmpcoaaaDoorW.PrintWords.blk_cell BK111.out 2).trans rfl; have hcz33_3 : w32.cell? ⟨gb111, 3, none⟩ = some (.int .i64 a0_3) := (Go.Proofs.YtjgomlcdmpcoaaaDoorW.PrintWords.blk_cell BK111.out 3).trans rfl; have hcz33_4 : w32.cell? ⟨gb111, 4, none⟩ = some (.int .i64 a0_4) := (Go.Proofs.YtjgomlcdmpcoaaaDoorW.PrintWords.blk_cell BK111.out 4).trans rfl; have hcz33_5 : w32.cell? ⟨gb111, 5, none⟩ = some (.int .i64 a0_5) := (Go.Proofs.YtjgomlcdmpcoaaaDoorW.PrintWords.blk_cell BK111.out 5).trans rfl; have hcz33_6 : w32.cell? ⟨gb111, 6, none⟩ = some (.int .i64 a0_6) := (Go.Proofs.YtjgomlcdmpcoaaaDoorW.PrintWords.blk_cell BK111.out 6).trans rfl; have hcz33_7 : w32.cell? ⟨gb111, 7, none⟩ = some (.int .u64 a0_7) := (Go.Proofs.YtjgomlcdmpcoaaaDoorW.PrintWords.blk_cell BK111.out 7).trans rfl; have hcz33_8 : w32.cell? ⟨gb111, 8, none⟩ = some (.string a0_8) := (Go.Proofs.YtjgomlcdmpcoaaaDoorW.PrintWords.blk_cell BK111.out 8).trans rfl; have hfz33_0 := blk_frozen BK111.out 0; have hfz33_1 := blk_frozen BK111.out 1; have hfz33_2 := blk_frozen BK111.out 2; have hfz33_3 := blk_frozen BK111.out 3; have hfz33_4 := blk_frozen BK111.out 4; have hfz33_5 := blk_frozen BK111.out 5; have hfz33_6 := blk_frozen BK111.out 6; have hfz33_7 := blk_frozen BK111.out 7; have hfz33_8 := blk_frozen BK111.out 8) | (go_at_call 162; (with_reducible refine (desc_state.calls a0_3 true _ A6.out).mono ?_); rintro e w' ⟨rfl, ⟨nd, rfl⟩⟩) | (go_at_call 162; (with_reducible refine (desc_state.calls a0_4 false _ A8.out).mono ?_); rintro e w' ⟨rfl, ⟨nd, rfl⟩⟩))
      go_ret; exact ⟨by first | rfl | (simp [errW_none, errW_some] <;> rfl) | (simp [*, errW_none, errW_some] <;> rfl), by repeat (first | (with_reducible first | exact HB.out | apply below_alloc | apply pw_below_drewN | apply below_drew1 | refine below_set ?_ GE111.out) | exact HB.out)⟩
    ·replace c7 := Bool.eq_false_iff.mpr c7
     subst c7; have H1 : (some false) = some r := by rw [if_neg (show ¬ (false = true) by decide)] at H; exact H
     clear H; have H := H1; clear H1; obtain rfl := Option.some.inj H; go_enter Tryd.func124, Tryd.ntmps124
     go_wp2_with (first | ((with_reducible refine gate_dst (N := 1) rfl ?_); refine box_event ?hg (N := 1) ?hd (cs := #[.int .i64 a0_0, .string a0_1, .int .i64 a0_2, .int .i64 a0_3, .int .i64 a0_4, .int .i64 a0_5, .int .i64 a0_6, .int .u64 a0_7, .string a0_8]) (t := 75) ?hr ?_; (case hd => rfl); (case hg => rfl); (case hr => first | (go_simp; done) | (go_simp; rfl)); intro gb111 hg w34 hbox hb; have n0_ := Aside0.mk (below_step (by repeat (first | (with_reducible first | exact HB.out | apply below_alloc | apply pw_below_drewN | apply below_drew1) | exact HB.out)) hb); have n1_ := Aside0.mk (hbox); have n2_ := Aside0.mk ((by rw [hg]; exact (below_size (by repeat (first | (with_reducible first | exact HB.out | apply below_alloc | apply pw_below_drewN | apply below_drew1) | exact HB.out))) : w.heap.size ≤ gb111)); have n3_ := Aside0.mk ((by rw [hg]; exact (below_size (by repeat (first | (with_reducible first | exact HB.out | apply below_alloc | apply pw_below_drewN | apply below_drew1) | exact HB.out))) : w.heap.size ≤ gb111)); clear HB; have HB := n0_; have BK111 := n1_; have GW111 := n2_; have GE111 := n3_; clear n0_ n1_ n2_ n3_; clear hb hbox hg; have hcz35_0 : w34.cell? ⟨gb111, 0, none⟩ = some (.int .i64 a0_0) := (Go.Proofs.YtjgomlcdmpcoaaaDoorW.PrintWords.blk_cell BK111.out 0).trans rfl; have hcz35_1 : w34.cell? ⟨gb111, 1, none⟩ = some (.string a0_1) := (Go.Proofs.YtjgomlcdmpcoaaaDoorW.PrintWords.blk_cell BK111.out 1).trans rfl; have hcz35_2 : w34.cell? ⟨gb111, 2, none⟩ = some (.int .i64 a0_2) := (Go.Proofs.YtjgomlcdmpcoaaaDoorW.PrintWords.blk_cell BK111.out 2).trans rfl; have hcz35_3 : w34.cell? ⟨gb111, 3, none⟩ = some (.int .i64 a0_3) := (Go.Proofs.YtjgomlcdmpcoaaaDoorW.PrintWords.blk_cell BK111.out 3).trans rfl; have hcz35_4 : w34.cell? ⟨gb111, 4, none⟩ = some (.int .i64 a0_4) := (Go.Proofs.YtjgomlcdmpcoaaaDoorW.PrintWords.blk_cell BK111.out 4).trans rfl; have hcz35_5 : w34.cell? ⟨gb111, 5, none⟩ = some (.int .i64 a0_5) := (Go.Proofs.YtjgomlcdmpcoaaaDoorW.PrintWords.blk_cell BK111.out 5).trans rfl; have hcz35_6 : w34.cell? ⟨gb111, 6, none⟩ = some (.int .i64 a0_6) := (Go.Proofs.YtjgomlcdmpcoaaaDoorW.PrintWords.blk_cell BK111.out 6).trans rfl; have hcz35_7 : w34.cell? ⟨gb111, 7, none⟩ = some (.int .u64 a0_7) := (Go.Proofs.YtjgomlcdmpcoaaaDoorW.PrintWords.blk_cell BK111.out 7).trans rfl; have hcz35_8 : w34.cell? ⟨gb111, 8, none⟩ = some (.string a0_8) := (Go.Proofs.YtjgomlcdmpcoaaaDoorW.PrintWords.blk_cell BK111.out 8).trans rfl; have hfz35_0 := blk_frozen BK111.out 0; have hfz35_1 := blk_frozen BK111.out 1; have hfz35_2 := blk_frozen BK111.out 2; have hfz35_3 := blk_frozen BK111.out 3; have hfz35_4 := blk_frozen BK111.out 4; have hfz35_5 := blk_frozen BK111.out 5; have hfz35_6 := blk_frozen BK111.out 6; have hfz35_7 := blk_frozen BK111.out 7; have hfz35_8 := blk_frozen BK111.out 8) | ((with_reducible refine gate_callee (f := 33) rfl ?_); refine goesL_ (some 5) rfl rfl Tryd.func33 (by kernel_rfl) rfl #[.string a0_1] rfl (by (try simp only [List.map_toArray, List.map_cons, List.map_nil]); first | done | rfl | (simp only [List.length_drop, List.length_take]; rfl)) ?_; (with_reducible refine (desc_Name.calls k a0_1 true _ A2.out ?side1).mono ?_); (case side1 => exact GL.of_below HG.out (by repeat (first | (with_reducible first | exact HB.out | apply below_alloc | apply pw_below_drewN | apply below_drew1 | refine below_set ?_ GE111.out) | exact HB.out))); rintro e w36 ⟨rfl, hb⟩; refine ⟨_, rfl, ?_⟩; have n0_ := Aside0.mk (blk_below (g := gb111) (o := .cells #[.int .i64 a0_0, .string a0_1, .int .i64 a0_2, .int .i64 a0_3, .int .i64 a0_4, .int .i64 a0_5, .int .i64 a0_6, .int .u64 a0_7, .string a0_8] 75 (0, 0)) (by (with_reducible repeat (first | refine blk_drewN ?_ _ | refine blk_drew ?_ | refine blk_alloc ?_ _)); exact BK111.out) hb); have n1_ := Aside0.mk (below_step (by repeat (first | (with_reducible first | exact HB.out | apply below_alloc | apply pw_below_drewN | apply below_drew1 | refine below_set ?_ GE111.out) | exact HB.out)) hb); clear BK111; clear HB; have BK111 := n0_; have HB := n1_; clear n0_ n1_; (try clear hb); (try clear hb2); (try clear hk); (try clear hi); have hcz37_0 : w36.cell? ⟨gb111, 0, none⟩ = some (.int .i64 a0_0) := (Go.Proofs.YtjgomlcdmpcoaaaDoorW.PrintWords.blk_cell BK111.out 0).trans rfl; have hcz37_1 : w36.cell? ⟨gb111, 1, none⟩ = some (.string a0_1) := (Go.Proofs.YtjgomlcdmpcoaaaDoorW.PrintWords.blk_cell BK111.out 1).trans rfl; have hcz37_2 : w36.cell? ⟨gb111, 2, none⟩ = some (.int .i64 a0_2) := (Go.Proofs.YtjgomlcdmpcoaaaDoorW.PrintWords.blk_cell BK111.out 2).trans rfl; have hcz37_3 : w36.cell? ⟨gb111, 3, none⟩ = some (.int .i64 a0_3) := (Go.Proofs.YtjgomlcdmpcoaaaDoorW.PrintWords.blk_cell BK111.out 3).trans rfl; have hcz37_4 : w36.cell? ⟨gb111, 4, none⟩ = some (.int .i64 a0_4) := (Go.Proofs.YtjgomlcdmpcoaaaDoorW.PrintWords.blk_cell BK111.out 4).trans rfl; have hcz37_5 : w36.cell? ⟨gb111, 5, none⟩ = some (.int .i64 a0_5) := (Go.Proofs.YtjgomlcdmpcoaaaDoorW.PrintWords.blk_cell BK111.out 5).trans rfl; have hcz37_6 : w36.cell? ⟨gb111, 6, none⟩ = some (.int .i64 a0_6) := (Go.Proofs.YtjgomlcdmpcoaaaDoorW.PrintWords.blk_cell BK111.out 6).trans rfl; have hcz37_7 : w36.cell? ⟨gb111, 7, none⟩ = some (.int .u64 a0_7) := (Go.Proofs.YtjgomlcdmpcoaaaDoorW.PrintWords.blk_cell BK111.out 7).trans rfl; have hcz37_8 : w36.cell? ⟨gb111, 8, none⟩ = some (.string a0_8) := (Go.Proofs.YtjgomlcdmpcoaaaDoorW.PrintWords.blk_cell BK111.out 8).trans rfl; have hfz37_0 := blk_frozen BK111.out 0; have hfz37_1 := blk_frozen BK111.out 1; have hfz37_2 := blk_frozen BK111.out 2; have hfz37_3 := blk_frozen BK111.out 3; have hfz37_4 := blk_frozen BK111.out 4; have hfz37_5 := blk_frozen BK111.out 5; have hfz37_6 := blk_frozen BK111.out 6; have hfz37_7 := blk_frozen BK111.out 7; have hfz37_8 := blk_frozen BK111.out 8) | (go_at_call 162; (with_reducible refine (desc_state.calls a0_3 false _ A6.out).mono ?_); rintro e w' ⟨rfl, ⟨nd, rfl⟩⟩))
     go_ret; exact ⟨by first | rfl | (simp [errW_none, errW_some] <;> rfl) | (simp [*, errW_none, errW_some] <;> rfl), by repeat (first | (with_reducible first | exact HB.out | apply below_alloc | apply pw_below_drewN | apply below_drew1 | refine below_set ?_ GE111.out) | exact HB.out)⟩
   ·rw [if_neg c5] at H
    have c5b0 : decide (a0_2 ≤ 5) = false := decide_eq_false c5
    clear c5; obtain rfl := Option.some.inj H; go_enter Tryd.func124, Tryd.ntmps124
    go_wp2_with (first | ((with_reducible refine gate_dst (N := 1) rfl ?_); refine box_event ?hg (N := 1) ?hd (cs := #[.int .i64 a0_0, .string a0_1, .int .i64 a0_2, .int .i64 a0_3, .int .i64 a0_4, .int .i64 a0_5, .int .i64 a0_6, .int .u64 a0_7, .string a0_8]) (t := 75) ?hr ?_; (case hd => rfl); (case hg => rfl); (case hr => first | (go_simp; done) | (go_simp; rfl)); intro gb111 hg w38 hbox hb; have n0_ := Aside0.mk (below_step (by repeat (first | (with_reducible first | exact HB.out | apply below_alloc | apply pw_below_drewN | apply below_drew1) | exact HB.out)) hb); have n1_ := Aside0.mk (hbox); have n2_ := Aside0.mk ((by rw [hg]; exact (below_size (by repeat (first | (with_reducible first | exact HB.out | apply below_alloc | apply pw_below_drewN | apply below_drew1) | exact HB.out))) : w.heap.size ≤ gb111)); have n3_ := Aside0.mk ((by rw [hg]; exact (below_size (by repeat (first | (with_reducible first | exact HB.out | apply below_alloc | apply pw_below_drewN | apply below_drew1) | exact HB.out))) : w.heap.size ≤ gb111)); clear HB; have HB := n0_; have BK111 := n1_; have GW111 := n2_; have GE111 := n3_; clear n0_ n1_ n2_ n3_; clear hb hbox hg; have hcz39_0 : w38.cell? ⟨gb111, 0, none⟩ = some (.int .i64 a0_0) := (Go.Proofs.YtjgomlcdmpcoaaaDoorW.PrintWords.blk_cell BK111.out 0).trans rfl; have hcz39_1 : w38.cell? ⟨gb111, 1, none⟩ = some (.string a0_1) := (Go.Proofs.YtjgomlcdmpcoaaaDoorW.PrintWords.blk_cell BK111.out 1).trans rfl; have hcz39_2 : w38.cell? ⟨gb111, 2, none⟩ = some (.int .i64 a0_2) := (Go.Proofs.YtjgomlcdmpcoaaaDoorW.PrintWords.blk_cell BK111.out 2).trans rfl; have hcz39_3 : w38.cell? ⟨gb111, 3, none⟩ = some (.int .i64 a0_3) := (Go.Proofs.YtjgomlcdmpcoaaaDoorW.PrintWords.blk_cell BK111.out 3).trans rfl; have hcz39_4 : w38.cell? ⟨gb111, 4, none⟩ = some (.int .i64 a0_4) := (Go.Proofs.YtjgomlcdmpcoaaaDoorW.PrintWords.blk_cell BK111.out 4).trans rfl; have hcz39_5 : w38.cell? ⟨gb111, 5, none⟩ = some (.int .i64 a0_5) := (Go.Proofs.YtjgomlcdmpcoaaaDoorW.PrintWords.blk_cell BK111.out 5).trans rfl; have hcz39_6 : w38.cell? ⟨gb111, 6, none⟩ = some (.int .i64 a0_6) := (Go.Proofs.YtjgomlcdmpcoaaaDoorW.PrintWords.blk_cell BK111.out 6).trans rfl; have hcz39_7 : w38.cell? ⟨gb111, 7, none⟩ = some (.int .u64 a0_7) := (Go.Proofs.YtjgomlcdmpcoaaaDoorW.PrintWords.blk_cell BK111.out 7).trans rfl; have hcz39_8 : w38.cell? ⟨gb111, 8, none⟩ = some (.string a0_8) := (Go.Proofs.YtjgomlcdmpcoaaaDoorW.PrintWords.blk_cell BK111.out 8).trans rfl; have hfz39_0 := blk_frozen BK111.out 0; have hfz39_1 := blk_frozen BK111.out 1; have hfz39_2 := blk_frozen BK111.out 2; have hfz39_3 := blk_frozen BK111.out 3; have hfz39_4 := blk_frozen BK111.out 4; have hfz39_5 := blk_frozen BK111.out 5; have hfz39_6 := blk_frozen BK111.out 6; have hfz39_7 := blk_frozen BK111.out 7; have hfz39_8 := blk_frozen BK111.out 8) | ((with_reducible refine gate_callee (f := 33) rfl ?_); refine goesL_ (some 5) rfl rfl Tryd.func33 (by kernel_rfl) rfl #[.string a0_1] rfl (by (try simp only [List.map_toArray, List.map_cons, List.map_nil]); first | done | rfl | (simp only [List.length_drop, List.length_take]; rfl)) ?_; (with_reducible refine (desc_Name.calls k a0_1 true _ A2.out ?side1).mono ?_); (case side1 => exact GL.of_below HG.out (by repeat (first | (with_reducible first | exact HB.out | apply below_alloc | apply pw_below_drewN | apply below_drew1 | refine below_set ?_ GE111.out) | exact HB.out))); rintro e w40 ⟨rfl, hb⟩; refine ⟨_, rfl, ?_⟩; have n0_ := Aside0.mk (blk_below (g := gb111) (o := .cells #[.int .i64 a0_0, .string a0_1, .int .i64 a0_2, .int .i64 a0_3, .int .i64 a0_4, .int .i64 a0_5, .int .i64 a0_6, .int .u64 a0_7, .string a0_8] 75 (0, 0)) (by (with_reducible repeat (first | refine blk_drewN ?_ _ | refine blk_drew ?_ | refine blk_alloc ?_ _)); exact BK111.out) hb); have n1_ := Aside0.mk (below_step (by repeat (first | (with_reducible first | exact HB.out | apply below_alloc | apply pw_below_drewN | apply below_drew1 | refine below_set ?_ GE111.out) | exact HB.out)) hb); clear BK111; clear HB; have BK111 := n0_; have HB := n1_; clear n0_ n1_; (try clear hb); (try clear hb2); (try clear hk); (try clear hi); have hcz41_0 : w40.cell? ⟨gb111, 0, none⟩ = some (.int .i64 a0_0) := (Go.Proofs.YtjgomlcdmpcoaaaDoorW.PrintWords.blk_cell BK111.out 0).trans rfl; have hcz41_1 : w40.cell? ⟨gb111, 1, none⟩ = some (.string a0_1) := (Go.Proofs.YtjgomlcdmpcoaaaDoorW.PrintWords.blk_cell BK111.out 1).trans rfl; have hcz41_2 : w40.cell? ⟨gb111, 2, none⟩ = some (.int .i64 a0_2) := (Go.Proofs.YtjgomlcdmpcoaaaDoorW.PrintWords.blk_cell BK111.out 2).trans rfl; have hcz41_3 : w40.cell? ⟨gb111, 3, none⟩ = some (.int .i64 a0_3) := (Go.Proofs.YtjgomlcdmpcoaaaDoorW.PrintWords.blk_cell BK111.out 3).trans rfl; have hcz41_4 : w40.cell? ⟨gb111, 4, none⟩ = some (.int .i64 a0_4) := (Go.Proofs.YtjgomlcdmpcoaaaDoorW.PrintWords.blk_cell BK111.out 4).trans rfl; have hcz41_5 : w40.cell? ⟨gb111, 5, none⟩ = some (.int .i64 a0_5) := (Go.Proofs.YtjgomlcdmpcoaaaDoorW.PrintWords.blk_cell BK111.out 5).trans rfl; have hcz41_6 : w40.cell? ⟨gb111, 6, none⟩ = some (.int .i64 a0_6) := (Go.Proofs.YtjgomlcdmpcoaaaDoorW.PrintWords.blk_cell BK111.out 6).trans rfl; have hcz41_7 : w40.cell? ⟨gb111, 7, none⟩ = some (.int .u64 a0_7) := (Go.Proofs.YtjgomlcdmpcoaaaDoorW.PrintWords.blk_cell BK111.out 7).trans rfl; have hcz41_8 : w40.cell? ⟨gb111, 8, none⟩ = some (.string a0_8) := (Go.Proofs.YtjgomlcdmpcoaaaDoorW.PrintWords.blk_cell BK111.out 8).trans rfl; have hfz41_0 := blk_frozen BK111.out 0; have hfz41_1 := blk_frozen BK111.out 1; have hfz41_2 := blk_frozen BK111.out 2; have hfz41_3 := blk_frozen BK111.out 3; have hfz41_4 := blk_frozen BK111.out 4; have hfz41_5 := blk_frozen BK111.out 5; have hfz41_6 := blk_frozen BK111.out 6; have hfz41_7 := blk_frozen BK111.out 7; have hfz41_8 := blk_frozen BK111.out 8))
    go_ret; exact ⟨by first | rfl | (simp [errW_none, errW_some] <;> rfl) | (simp [*, errW_none, errW_some] <;> rfl), by repeat (first | (with_reducible first | exact HB.out | apply below_alloc | apply pw_below_drewN | apply below_drew1 | refine below_set ?_ GE111.out) | exact HB.out)⟩
  ·rw [if_neg c4] at H
   have c4b0 : decide (1 ≤ a0_2) = false := decide_eq_false c4
   clear c4; obtain rfl := Option.some.inj H; go_enter Tryd.func124, Tryd.ntmps124
   go_wp2_with (first | ((with_reducible refine gate_dst (N := 1) rfl ?_); refine box_event ?hg (N := 1) ?hd (cs := #[.int .i64 a0_0, .string a0_1, .int .i64 a0_2, .int .i64 a0_3, .int .i64 a0_4, .int .i64 a0_5, .int .i64 a0_6, .int .u64 a0_7, .string a0_8]) (t := 75) ?hr ?_; (case hd => rfl); (case hg => rfl); (case hr => first | (go_simp; done) | (go_simp; rfl)); intro gb111 hg w42 hbox hb; have n0_ := Aside0.mk (below_step (by repeat (first | (with_reducible first | exact HB.out | apply below_alloc | apply pw_below_drewN | apply below_drew1) | exact HB.out)) hb); have n1_ := Aside0.mk (hbox); have n2_ := Aside0.mk ((by rw [hg]; exact (below_size (by repeat (first | (with_reducible first | exact HB.out | apply below_alloc | apply pw_below_drewN | apply below_drew1) | exact HB.out))) : w.heap.size ≤ gb111)); have n3_ := Aside0.mk ((by rw [hg]; exact (below_size (by repeat (first | (with_reducible first | exact HB.out | apply below_alloc | apply pw_below_drewN | apply below_drew1) | exact HB.out))) : w.heap.size ≤ gb111)); clear HB; have HB := n0_; have BK111 := n1_; have GW111 := n2_; have GE111 := n3_; clear n0_ n1_ n2_ n3_; clear hb hbox hg; have hcz43_0 : w42.cell? ⟨gb111, 0, none⟩ = some (.int .i64 a0_0) := (Go.Proofs.YtjgomlcdmpcoaaaDoorW.PrintWords.blk_cell BK111.out 0).trans rfl; have hcz43_1 : w42.cell? ⟨gb111, 1, none⟩ = some (.string a0_1) := (Go.Proofs.YtjgomlcdmpcoaaaDoorW.PrintWords.blk_cell BK111.out 1).trans rfl; have hcz43_2 : w42.cell? ⟨gb111, 2, none⟩ = some (.int .i64 a0_2) := (Go.Proofs.YtjgomlcdmpcoaaaDoorW.PrintWords.blk_cell BK111.out 2).trans rfl; have hcz43_3 : w42.cell? ⟨gb111, 3, none⟩ = some (.int .i64 a0_3) := (Go.Proofs.YtjgomlcdmpcoaaaDoorW.PrintWords.blk_cell BK111.out 3).trans rfl; have hcz43_4 : w42.cell? ⟨gb111, 4, none⟩ = some (.int .i64 a0_4) := (Go.Proofs.YtjgomlcdmpcoaaaDoorW.PrintWords.blk_cell BK111.out 4).trans rfl; have hcz43_5 : w42.cell? ⟨gb111, 5, none⟩ = some (.int .i64 a0_5) := (Go.Proofs.YtjgomlcdmpcoaaaDoorW.PrintWords.blk_cell BK111.out 5).trans rfl; have hcz43_6 : w42.cell? ⟨gb111, 6, none⟩ = some (.int .i64 a0_6) := (Go.Proofs.YtjgomlcdmpcoaaaDoorW.PrintWords.blk_cell BK111.out 6).trans rfl; have hcz43_7 : w42.cell? ⟨gb111, 7, none⟩ = some (.int .u64 a0_7) := (Go.Proofs.YtjgomlcdmpcoaaaDoorW.PrintWords.blk_cell BK111.out 7).trans rfl; have hcz43_8 : w42.cell? ⟨gb111, 8, none⟩ = some (.string a0_8) := (Go.Proofs.YtjgomlcdmpcoaaaDoorW.PrintWords.blk_cell BK111.out 8).trans rfl; have hfz43_0 := blk_frozen BK111.out 0; have hfz43_1 := blk_frozen BK111.out 1; have hfz43_2 := blk_frozen BK111.out 2; have hfz43_3 := blk_frozen BK111.out 3; have hfz43_4 := blk_frozen BK111.out 4; have hfz43_5 := blk_frozen BK111.out 5; have hfz43_6 := blk_frozen BK111.out 6; have hfz43_7 := blk_frozen BK111.out 7; have hfz43_8 := blk_frozen BK111.out 8) | ((with_reducible refine gate_callee (f := 33) rfl ?_); refine goesL_ (some 5) rfl rfl Tryd.func33 (by kernel_rfl) rfl #[.string a0_1] rfl (by (try simp only [List.map_toArray, List.map_cons, List.map_nil]); first | done | rfl | (simp only [List.length_drop, List.length_take]; rfl)) ?_; (with_reducible refine (desc_Name.calls k a0_1 true _ A2.out ?side1).mono ?_); (case side1 => exact GL.of_below HG.out (by repeat (first | (with_reducible first | exact HB.out | apply below_alloc | apply pw_below_drewN | apply below_drew1 | refine below_set ?_ GE111.out) | exact HB.out))); rintro e w44 ⟨rfl, hb⟩; refine ⟨_, rfl, ?_⟩; have n0_ := Aside0.mk (blk_below (g := gb111) (o := .cells #[.int .i64 a0_0, .string a0_1, .int .i64 a0_2, .int .i64 a0_3, .int .i64 a0_4, .int .i64 a0_5, .int .i64 a0_6, .int .u64 a0_7, .string a0_8] 75 (0, 0)) (by (with_reducible repeat (first | refine blk_drewN ?_ _ | refine blk_drew ?_ | refine blk_alloc ?_ _)); exact BK111.out) hb); have n1_ := Aside0.mk (below_step (by repeat (first | (with_reducible first | exact HB.out | apply below_alloc | apply pw_below_drewN | apply below_drew1 | refine below_set ?_ GE111.out) | exact HB.out)) hb); clear BK111; clear HB; have BK111 := n0_; have HB := n1_; clear n0_ n1_; (try clear hb); (try clear hb2); (try clear hk); (try clear hi); have hcz45_0 : w44.cell? ⟨gb111, 0, none⟩ = some (.int .i64 a0_0) := (Go.Proofs.YtjgomlcdmpcoaaaDoorW.PrintWords.blk_cell BK111.out 0).trans rfl; have hcz45_1 : w44.cell? ⟨gb111, 1, none⟩ = some (.string a0_1) := (Go.Proofs.YtjgomlcdmpcoaaaDoorW.PrintWords.blk_cell BK111.out 1).trans rfl; have hcz45_2 : w44.cell? ⟨gb111, 2, none⟩ = some (.int .i64 a0_2) := (Go.Proofs.YtjgomlcdmpcoaaaDoorW.PrintWords.blk_cell BK111.out 2).trans rfl; have hcz45_3 : w44.cell? ⟨gb111, 3, none⟩ = some (.int .i64 a0_3) := (Go.Proofs.YtjgomlcdmpcoaaaDoorW.PrintWords.blk_cell BK111.out 3).trans rfl; have hcz45_4 : w44.cell? ⟨gb111, 4, none⟩ = some (.int .i64 a0_4) := (Go.Proofs.YtjgomlcdmpcoaaaDoorW.PrintWords.blk_cell BK111.out 4).trans rfl; have hcz45_5 : w44.cell? ⟨gb111, 5, none⟩ = some (.int .i64 a0_5) := (Go.Proofs.YtjgomlcdmpcoaaaDoorW.PrintWords.blk_cell BK111.out 5).trans rfl; have hcz45_6 : w44.cell? ⟨gb111, 6, none⟩ = some (.int .i64 a0_6) := (Go.Proofs.YtjgomlcdmpcoaaaDoorW.PrintWords.blk_cell BK111.out 6).trans rfl; have hcz45_7 : w44.cell? ⟨gb111, 7, none⟩ = some (.int .u64 a0_7) := (Go.Proofs.YtjgomlcdmpcoaaaDoorW.PrintWords.blk_cell BK111.out 7).trans rfl; have hcz45_8 : w44.cell? ⟨gb111, 8, none⟩ = some (.string a0_8) := (Go.Proofs.YtjgomlcdmpcoaaaDoorW.PrintWords.blk_cell BK111.out 8).trans rfl; have hfz45_0 := blk_frozen BK111.out 0; have hfz45_1 := blk_frozen BK111.out 1; have hfz45_2 := blk_frozen BK111.out 2; have hfz45_3 := blk_frozen BK111.out 3; have hfz45_4 := blk_frozen BK111.out 4; have hfz45_5 := blk_frozen BK111.out 5; have hfz45_6 := blk_frozen BK111.out 6; have hfz45_7 := blk_frozen BK111.out 7; have hfz45_8 := blk_frozen BK111.out 8))
   go_ret; exact ⟨by first | rfl | (simp [errW_none, errW_some] <;> rfl) | (simp [*, errW_none, errW_some] <;> rfl), by repeat (first | (with_reducible first | exact HB.out | apply below_alloc | apply pw_below_drewN | apply below_drew1 | refine below_set ?_ GE111.out) | exact HB.out)⟩
 ·replace c3 := Bool.eq_false_iff.mpr c3
  subst c3; have H1 : (some false) = some r := by rw [if_neg (show ¬ (false = true) by decide)] at H; exact H
  clear H; have H := H1; clear H1; obtain rfl := Option.some.inj H; go_enter Tryd.func124, Tryd.ntmps124
  go_wp2_with (first | ((with_reducible refine gate_dst (N := 1) rfl ?_); refine box_event ?hg (N := 1) ?hd (cs := #[.int .i64 a0_0, .string a0_1, .int .i64 a0_2, .int .i64 a0_3, .int .i64 a0_4, .int .i64 a0_5, .int .i64 a0_6, .int .u64 a0_7, .string a0_8]) (t := 75) ?hr ?_; (case hd => rfl); (case hg => rfl); (case hr => first | (go_simp; done) | (go_simp; rfl)); intro gb111 hg w46 hbox hb; have n0_ := Aside0.mk (below_step (by repeat (first | (with_reducible first | exact HB.out | apply below_alloc | apply pw_below_drewN | apply below_drew1) | exact HB.out)) hb); have n1_ := Aside0.mk (hbox); have n2_ := Aside0.mk ((by rw [hg]; exact (below_size (by repeat (first | (with_reducible first | exact HB.out | apply below_alloc | apply pw_below_drewN | apply below_drew1) | exact HB.out))) : w.heap.size ≤ gb111)); have n3_ := Aside0.mk ((by rw [hg]; exact (below_size (by repeat (first | (with_reducible first | exact HB.out | apply below_alloc | apply pw_below_drewN | apply below_drew1) | exact HB.out))) : w.heap.size ≤ gb111)); clear HB; have HB := n0_; have BK111 := n1_; have GW111 := n2_; have GE111 := n3_; clear n0_ n1_ n2_ n3_; clear hb hbox hg; have hcz47_0 : w46.cell? ⟨gb111, 0, none⟩ = some (.int .i64 a0_0) := (Go.Proofs.YtjgomlcdmpcoaaaDoorW.PrintWords.blk_cell BK111.out 0).trans rfl; have hcz47_1 : w46.cell? ⟨gb111, 1, none⟩ = some (.string a0_1) := (Go.Proofs.YtjgomlcdmpcoaaaDoorW.PrintWords.blk_cell BK111.out 1).trans rfl; have hcz47_2 : w46.cell? ⟨gb111, 2, none⟩ = some (.int .i64 a0_2) := (Go.Proofs.YtjgomlcdmpcoaaaDoorW.PrintWords.blk_cell BK111.out 2).trans rfl; have hcz47_3 : w46.cell? ⟨gb111, 3, none⟩ = some (.int .i64 a0_3) := (Go.Proofs.YtjgomlcdmpcoaaaDoorW.PrintWords.blk_cell BK111.out 3).trans rfl; have hcz47_4 : w46.cell? ⟨gb111, 4, none⟩ = some (.int .i64 a0_4) := (Go.Proofs.YtjgomlcdmpcoaaaDoorW.PrintWords.blk_cell BK111.out 4).trans rfl; have hcz47_5 : w46.cell? ⟨gb111, 5, none⟩ = some (.int .i64 a0_5) := (Go.Proofs.YtjgomlcdmpcoaaaDoorW.PrintWords.blk_cell BK111.out 5).trans rfl; have hcz47_6 : w46.cell? ⟨gb111, 6, none⟩ = some (.int .i64 a0_6) := (Go.Proofs.YtjgomlcdmpcoaaaDoorW.PrintWords.blk_cell BK111.out 6).trans rfl; have hcz47_7 : w46.cell? ⟨gb111, 7, none⟩ = some (.int .u64 a0_7) := (Go.Proofs.YtjgomlcdmpcoaaaDoorW.PrintWords.blk_cell BK111.out 7).trans rfl; have hcz47_8 : w46.cell? ⟨gb111, 8, none⟩ = some (.string a0_8) := (Go.Proofs.YtjgomlcdmpcoaaaDoorW.PrintWords.blk_cell BK111.out 8).trans rfl; have hfz47_0 := blk_frozen BK111.out 0; have hfz47_1 := blk_frozen BK111.out 1; have hfz47_2 := blk_frozen BK111.out 2; have hfz47_3 := blk_frozen BK111.out 3; have hfz47_4 := blk_frozen BK111.out 4; have hfz47_5 := blk_frozen BK111.out 5; have hfz47_6 := blk_frozen BK111.out 6; have hfz47_7 := blk_frozen BK111.out 7; have hfz47_8 := blk_frozen BK111.out 8) | ((with_reducible refine gate_callee (f := 33) rfl ?_); refine goesL_ (some 5) rfl rfl Tryd.func33 (by kernel_rfl) rfl #[.string a0_1] rfl (by (try simp only [List.map_toArray, List.map_cons, List.map_nil]); first | done | rfl | (simp only [List.length_drop, List.length_take]; rfl)) ?_; (with_reducible refine (desc_Name.calls k a0_1 false _ A2.out ?side1).mono ?_); (case side1 => exact GL.of_below HG.out (by repeat (first | (with_reducible first | exact HB.out | apply below_alloc | apply pw_below_drewN | apply below_drew1 | refine below_set ?_ GE111.out) | exact HB.out))); rintro e w48 ⟨rfl, hb⟩; refine ⟨_, rfl, ?_⟩; have n0_ := Aside0.mk (blk_below (g := gb111) (o := .cells #[.int .i64 a0_0, .string a0_1, .int .i64 a0_2, .int .i64 a0_3, .int .i64 a0_4, .int .i64 a0_5, .int .i64 a0_6, .int .u64 a0_7, .string a0_8] 75 (0, 0)) (by (with_reducible repeat (first | refine blk_drewN ?_ _ | refine blk_drew ?_ | refine blk_alloc ?_ _)); exact BK111.out) hb); have n1_ := Aside0.mk (below_step (by repeat (first | (with_reducible first | exact HB.out | apply below_alloc | apply pw_below_drewN | apply below_drew1 | refine below_set ?_ GE111.out) | exact HB.out)) hb); clear BK111; clear HB; have BK111 := n0_; have HB := n1_; clear n0_ n1_; (try clear hb); (try clear hb2); (try clear hk); (try clear hi)))
  go_ret; exact ⟨by first | rfl | (simp [errW_none, errW_some] <;> rfl) | (simp [*, errW_none, errW_some] <;> rfl), by repeat (first | (with_reducible first | exact HB.out | apply below_alloc | apply pw_below_drewN | apply below_drew1 | refine below_set ?_ GE111.out) | exact HB.out)⟩
end Go.Proofs.YtjgomlcdmpcoaaaDoor.D



namespace Go.Proofs.YtjgomlcdmpcoaaaDoor.H
open Go.RowKit Go.Proofs.YtjgomlcdmpcoaaaDoorW.PrintWords Go.Proofs.YtjgomlcdmpcoaaaDoorW.PrintLast Go.Proofs.YtjgomlcdmpcoaaaDoorW.PrintMore
open Go.Proofs.YtjgomlcdmpcoaaaDoor.D Go.Proofs.YtjgomlcdmpcoaaaDoor
set_option linter.unusedVariables false
def valB (v : S73) : Bool := if v.f0 = 3 then canonI v.f2 == v.f2 && (v.f1 == 0 && (v.f3.toList == ([] : List UInt8))) else mayB v.f0 v.f1 v.f2 v.f3
def columnB (c : S75) : Bool := nameB c.f1 && (decide (1 ≤ c.f2) && (decide (c.f2 ≤ 5) && (stateB c.f3 && (stateB c.f4 && (valB c.f5 && (c.f5.f0 == 0 || c.f5.f0 == c.f2))))))
def ValWf (v : S73) : Prop := 0 ≤ v.f2 ∧ v.f2 < 18446744073709551616
theorem desc_state (n : Int) : desc_state.f n = some (stateB n) := by
  unfold desc_state.f stateB
  by_cases h : 0 ≤ n
  · rw [if_pos h, decide_eq_true h, Bool.true_and]
  · rw [if_neg h, decide_eq_false h, Bool.false_and]
theorem val_may (v : S73) (h : ValWf v) : value_May.f v.f0 v.f1 v.f2 v.f3 = some (valB v) := by
  unfold value_May.f valB flo_Canon.f
  rw [if_pos h.1, if_pos h.2]
  split <;> rfl
theorem desc_column (c : S75) (h : ValWf c.f5) (k : Nat) (hk : 100 < k) : desc_column.f k c.f0 c.f1 c.f2 c.f3 c.f4 c.f5.f0 c.f5.f1 c.f5.f2 c.f5.f3 = some (columnB c) := by
  unfold desc_column.f columnB
  rw [desc_name _ k hk, Option.bind_some, desc_state, desc_state, val_may _ h]
  simp only [Option.bind_some]
  cases nameB c.f1
  · rfl
  by_cases h1 : 1 ≤ c.f2
  · by_cases h2 : c.f2 ≤ 5
    · rw [if_pos rfl, if_pos h1, if_pos h2, decide_eq_true h1, decide_eq_true h2]
      cases stateB c.f3
      · rfl
      cases stateB c.f4
      · rfl
      cases valB c.f5
      · rfl
      by_cases h3 : c.f5.f0 = 0
      · simp [h3]
      · have : (c.f5.f0 == 0) = false := beq_eq_false_iff_ne.mpr h3
        rw [if_pos rfl, if_pos rfl, if_pos rfl, if_neg h3, this]
        rfl
    · rw [if_pos rfl, if_pos h1, if_neg h2, decide_eq_false h2]
      simp
  · rw [if_pos rfl, if_neg h1, decide_eq_false h1]
    rfl
theorem column_calls' (c : S75) (h : ValWf c.f5) (w : World) (hG : GL w) : Calls Tryd.prog 124 #[.agg #[.int .i64 c.f0, .string c.f1, .int .i64 c.f2, .int .i64 c.f3, .int .i64 c.f4, .int .i64 c.f5.f0, .int .i64 c.f5.f1, .int .u64 c.f5.f2, .string c.f5.f3]] w
    fun e w' => e = .returned (.bool (columnB c)) ∧ Below w.heap.size w w' := desc_column.calls 101 _ _ _ _ _ _ _ _ _ _ w (desc_column c h 101 (by decide)) hG
end Go.Proofs.YtjgomlcdmpcoaaaDoor.H
namespace Go.Proofs.YtjgomlcdmpcoaaaDoor.H
open Go.RowKit Go.Proofs.YtjgomlcdmpcoaaaDoorW.PrintWords Go.Proofs.YtjgomlcdmpcoaaaDoorW.PrintLast Go.Proofs.YtjgomlcdmpcoaaaDoorW.PrintMore
open Go.Maps
set_option linter.unusedVariables false
theorem zero3 (w : World) : (zeroValue 3).run Tryd.prog w = .ok (.int .i64 0) w := by kernel_rfl
def CntM {κ : Type} [DecidableEq κ] (k : TypeId) (lit : κ → Lit) (w : World) (B n : Nat) (l : List κ) : Prop :=
  ∃ D : DataW Unit, w.ownsMap Tryd.prog k (plainElem Tryd.prog 3) B n D ∧ ∀ x, D.atKey (lit x) (.lit (.int .i64 0)) = .lit (.int .i64 (l.count x))
section
variable {κ : Type} [DecidableEq κ] {k : TypeId} {lit : κ → Lit} {w w' : World} {B n : Nat} {l : List κ}
theorem CntM.new (k : TypeId) (lit : κ → Lit) (w : World) : CntM k lit (w.alloc (.map #[] 0)) w.heap.size 0 ([] : List κ) :=
  ⟨_, World.ownsMap_made w Tryd.prog k _, fun x => rfl⟩
theorem CntM.kept (h : CntM k lit w B n l) {row : Option Nat} (hg : w.grownBy w' row) (hne : some B ≠ row) : CntM k lit w' B n l := by
  obtain ⟨D, h1, h2⟩ := h
  exact ⟨D, h1.kept hg hne, h2⟩
theorem CntM.below (h : CntM k lit w B n l) (hb : Below w.heap.size w w') : CntM k lit w' B n l := h.kept (grown_of_below hb none) (by simp)
theorem CntM.snoc {x : κ} (h : CntM k lit w B (l.length + 1) (l ++ [x])) : CntM k lit w B (l ++ [x]).length (l ++ [x]) := by
  rw [List.length_append]
  exact h
theorem CntM.lt (h : CntM k lit w B n l) : B < w.heap.size := by
  obtain ⟨D, h1, _⟩ := h
  exact h1.lt
set_option maxRecDepth 100000 in
theorem CntM.look (h : CntM k lit w B n l) (K : Keyed Tryd.prog k) {t : TypeId} (ht : Tryd.prog.underlying t = some (.map k 3)) {key : Value} {x : κ} (hkey : keyOf Tryd.prog k key = some (lit x)) :
    (Instr.lookup t (.map (some B)) key false).run Tryd.prog w = .ok (.int .i64 (l.count x)) w := by
  obtain ⟨D, h1, h2⟩ := h
  obtain ⟨c, hrun, hat, _⟩ := h1.lookup_int K ht Tryd.underlying3 (zero3 _) hkey
  rw [h2] at hat
  have e : ∀ a b : Int, (DataW.lit (.int .i64 a) : DataW Unit) = .lit (.int .i64 b) → a = b := fun a b q => by
    injection q with q
    injection q with _ q
  rw [hrun, e _ _ hat]
theorem CntM.look0 (h : CntM k lit w B n l) (K : Keyed Tryd.prog k) {t : TypeId} (ht : Tryd.prog.underlying t = some (.map k 3)) {key : Value} {x : κ} (hkey : keyOf Tryd.prog k key = some (lit x)) {c : Int} (hc : (l.count x : Int) = c) :
    (Instr.lookup t (.map (some B)) key false).run Tryd.prog w = .ok (.int .i64 c) w := by rw [← hc]; exact h.look K ht hkey
theorem count_snoc (l : List κ) (x y : κ) : (l ++ [x]).count y = l.count y + if x = y then 1 else 0 := by
  rw [List.count_append, List.count_singleton]
  by_cases h : x = y <;> simp [h]
theorem wpList_count {ops : Array Oper} {rest : List Oper} {o : Oper} {a : Act} {Q : Exit → Act → World → Prop}
    (hg : o.guard = none) (m x v : Operand) (t : TypeId) (hop : o.op = Op.mapUpdate t m x v) (K : Keyed Tryd.prog k) (ht : Tryd.prog.underlying t = some (.map k 3)) (hm : a.eval m = .map (some B)) (h : CntM k lit w B n l) (hn : n < 1000) (hl : l.length ≤ 1000)
    (key : Value) (y : κ) (hx : a.eval x = key) (hkey : keyOf Tryd.prog k key = some (lit y)) (hinj : ∀ z, lit y = lit z → y = z) (hk : WideAt.IsKeyLit (lit y)) (c : Int) (hc : (l.count y : Int) + 1 = c) (hv : a.eval v = .int .i64 c)
    (hK : ∀ w', CntM k lit w' B (n + 1) (l ++ [y]) → w.grownBy w' (some B) → wpList Tryd.prog ops Q rest (a.put o.dst undef) w') :
    wpList Tryd.prog ops Q (o :: rest) a w := by
  obtain ⟨D, h1, h2⟩ := h
  subst hc
  have hc := List.count_le_length (a := y) (l := l)
  refine wpList_mapUpdate_own w hg m x v t hop k 3 K ht _ B n D hm h1 (by unfold maxLen; omega) key _ (lit y) hx hv hkey _ [] (plainElem_int Tryd.underlying3 (WalkArith.wf_i64 (by omega))) (fun w' hown hgrow => hK w' ⟨_, hown, fun z => ?_⟩ hgrow)
  rw [count_snoc]
  by_cases e : y = z
  · subst e
    rw [atKey_put_same (h1.tidy K).isMap hk, if_pos rfl]
    rfl
  · rw [atKey_put_other (fun q => e (hinj z q.symm)), h2, if_neg e, Nat.add_zero]
end
def litI (n : Int) : Lit := .int .i64 n
def litS (s : List UInt8) : Lit := .string s
theorem lawI : Keyed Tryd.prog 3 := int_keyed Tryd.underlying3
theorem lawS : Keyed Tryd.prog 9 := string_keyed Tryd.underlying9
theorem keyI {n : Int} (h0 : -9223372036854775808 ≤ n) (h1 : n < 9223372036854775808) : keyOf Tryd.prog 3 (.int .i64 n) = some (litI n) := keyOf_int_mk Tryd.underlying3 (WalkArith.wf_i64 (by omega))
theorem keyS {s : ByteArray} (h : s.size ≤ maxLen) : keyOf Tryd.prog 9 (.string s) = some (litS s.data.toList) := Go.WideMaps.keyOf_string_mk Tryd.underlying9 h
theorem injI (y : Int) : ∀ z, litI y = litI z → y = z := fun z h => by unfold litI at h; injection h
theorem injS (y : List UInt8) : ∀ z, litS y = litS z → y = z := fun z h => by unfold litS at h; injection h
theorem isI (y : Int) : WideAt.IsKeyLit (litI y) := by unfold litI; trivial
theorem isS (y : List UInt8) : WideAt.IsKeyLit (litS y) := by unfold litS; trivial
theorem count_zero {κ : Type} [DecidableEq κ] {l : List κ} {x : κ} (h : x ∉ l) : l.count x = 0 := List.count_eq_zero.2 h
theorem count_mem {κ : Type} [DecidableEq κ] {l : List κ} {x : κ} (h : x ∈ l) : 0 < l.count x ∧ l.count x ≤ l.length := ⟨List.count_pos_iff.2 h, List.count_le_length⟩
theorem count_none {κ : Type} [DecidableEq κ] [B : BEq κ] [LawfulBEq κ] {l : List κ} {x : κ} (h : @List.contains κ B l x = false) : ((@List.count κ instBEqOfDecidableEq x l : Nat) : Int) = 0 := by
  have hm : x ∉ l := by simpa using h
  have := count_zero hm
  omega
theorem count_some {κ : Type} [DecidableEq κ] [B : BEq κ] [LawfulBEq κ] {l : List κ} {x : κ} (h : @List.contains κ B l x = true) : ∃ c : Int, ((@List.count κ instBEqOfDecidableEq x l : Nat) : Int) = c ∧ 1 ≤ c ∧ c ≤ l.length := by
  have hm : x ∈ l := by simpa using h
  have := count_mem hm
  exact ⟨_, rfl, by omega, by omega⟩
theorem count_one {κ : Type} [DecidableEq κ] {l : List κ} {x : κ} {c : Int} (h : ((@List.count κ instBEqOfDecidableEq x l : Nat) : Int) = c) : ((@List.count κ instBEqOfDecidableEq x (l ++ [x]) : Nat) : Int) = c + 1 := by
  rw [count_snoc, if_pos rfl]
  omega
def fitsB (next : Int) (ids : List Int) (id : Int) : Bool := decide (1 ≤ id) && (decide (id < next) && !ids.contains id)
set_option maxRecDepth 100000 in
set_option maxHeartbeats 4000000 in
theorem fits_calls (id next : Int) (x0 x1 x2 x3 : Value) (BT BI M : Nat) (ids : List Int) (w : World) (hi0 : -9223372036854775808 ≤ id) (hi1 : id < 9223372036854775808)
    (hT : w.heap[BT]? = some (.cells #[x0, x1, x2, x3, .int .i64 next] 70 (0, 0))) (hI : w.heap[BI]? = some (.cells #[.map (some M)] 158 (0, 0))) (hM : CntM 3 litI w M ids.length ids) (hl : ids.length < 100) :
    Calls Tryd.prog 123 #[.int .i64 id, .pointer (some ⟨BI, 0, none⟩), .pointer (some ⟨BT, 0, none⟩)] w
      fun e w' => e = .returned (.bool (fitsB next ids id)) ∧ CntM 3 litI w' M (ids ++ [id]).length (ids ++ [id]) ∧ w.grownBy w' (some M) := by
  have hk := keyI hi0 hi1
  have hcl := List.count_le_length (a := id) (l := ids)
  have k4 : w.cell? ⟨BT, 4, none⟩ = some (.int .i64 next) := by simp [World.cell?, hT]
  have kI := cell_of_one hI
  have hneT : some BT ≠ some M := fun e => by
    injection e with e
    subst e
    obtain ⟨D, ⟨es, cl, hb, _⟩, _⟩ := hM
    rw [hT] at hb
    cases hb
  have hneI : some BI ≠ some M := fun e => by
    injection e with e
    subst e
    obtain ⟨D, ⟨es, cl, hb, _⟩, _⟩ := hM
    rw [hI] at hb
    cases hb
  have lT := lt_of_block hT
  have lI := lt_of_block hI
  have hF : fitsB next ids id = (decide (1 ≤ id) && (decide (id < next) && !ids.contains id)) := rfl
  generalize fitsB next ids id = R at hF ⊢
  have HT := Aside0.mk hT
  have HI := Aside0.mk hI
  have HM := Aside0.mk hM
  have HK := Lib.hid hk
  have HNT := Lib.hid hneT
  have HNI := Lib.hid hneI
  clear hT hI hM hk hneT hneI
  cases hc : ids.contains id with
  | false =>
    have e0 := count_none hc
    have e1 : _ = (1 : Int) := count_one e0
    rw [hc] at hF
    have hrun := HM.out.look0 lawI Tryd.underlying158 HK.out e0
    have E0 := Lib.hid e0
    have E1 := Lib.hid e1
    clear e0 e1 hc
    by_cases h1 : 1 ≤ id
    · have b1 := decide_eq_true h1
      by_cases h2 : id < next
      · have b2 := decide_eq_true h2
        rw [b1, b2] at hF
        have HF := Lib.hid hF
        clear hF
        go_enter Tryd.func123, Tryd.ntmps123
        go_wp2_with (at_mapUpdate; refine wpList_count rfl _ _ _ 158 rfl lawI Tryd.underlying158 rfl HM.out (by omega) (by omega) _ id rfl HK.out (injI id) (isI id) _ (by rw [E0.out] <;> rfl) rfl ?_; intro w1 hm1 hg1; have k4' := (hg1.cell_far ⟨BT, 4, none⟩ lT HNT.out).trans k4; have kI' := (hg1.cell_far ⟨BI, 0, none⟩ lI HNI.out).trans kI; have hrun1 := hm1.look0 lawI Tryd.underlying158 HK.out E1.out; clear hrun; have HM1 := Aside0.mk hm1; have HG1 := Aside0.mk hg1; clear hm1 hg1)
        go_ret
        exact ⟨by rw [HF.out]; rfl, by first | exact HM1.out | (rw [List.length_append]; exact HM1.out), HG1.out⟩
      · have b2 := decide_eq_false h2
        rw [b1, b2] at hF
        have HF := Lib.hid hF
        clear hF
        go_enter Tryd.func123, Tryd.ntmps123
        go_wp2_with (at_mapUpdate; refine wpList_count rfl _ _ _ 158 rfl lawI Tryd.underlying158 rfl HM.out (by omega) (by omega) _ id rfl HK.out (injI id) (isI id) _ (by rw [E0.out] <;> rfl) rfl ?_; intro w1 hm1 hg1; have k4' := (hg1.cell_far ⟨BT, 4, none⟩ lT HNT.out).trans k4; have kI' := (hg1.cell_far ⟨BI, 0, none⟩ lI HNI.out).trans kI; have hrun1 := hm1.look0 lawI Tryd.underlying158 HK.out E1.out; clear hrun; have HM1 := Aside0.mk hm1; have HG1 := Aside0.mk hg1; clear hm1 hg1)
        go_ret
        exact ⟨by rw [HF.out]; rfl, by first | exact HM1.out | (rw [List.length_append]; exact HM1.out), HG1.out⟩
    · have b1 := decide_eq_false h1
      rw [b1] at hF
      have HF := Lib.hid hF
      clear hF
      go_enter Tryd.func123, Tryd.ntmps123
      go_wp2_with (at_mapUpdate; refine wpList_count rfl _ _ _ 158 rfl lawI Tryd.underlying158 rfl HM.out (by omega) (by omega) _ id rfl HK.out (injI id) (isI id) _ (by rw [E0.out] <;> rfl) rfl ?_; intro w1 hm1 hg1; have k4' := (hg1.cell_far ⟨BT, 4, none⟩ lT HNT.out).trans k4; have kI' := (hg1.cell_far ⟨BI, 0, none⟩ lI HNI.out).trans kI; have hrun1 := hm1.look0 lawI Tryd.underlying158 HK.out E1.out; clear hrun; have HM1 := Aside0.mk hm1; have HG1 := Aside0.mk hg1; clear hm1 hg1)
      go_ret
      exact ⟨by rw [HF.out]; rfl, by first | exact HM1.out | (rw [List.length_append]; exact HM1.out), HG1.out⟩
  | true =>
    obtain ⟨c, e0, hc1, hc2'⟩ := count_some hc
    have hc2 : c ≤ 100 := by omega
    have hc3 : ¬ c + 1 = 1 := by omega
    have hc4 : (c + 1 == 1) = false := beq_eq_false_iff_ne.mpr hc3
    have e1 := count_one e0
    rw [hc] at hF
    have hrun := HM.out.look0 lawI Tryd.underlying158 HK.out e0
    have E0 := Lib.hid e0
    have E1 := Lib.hid e1
    clear e0 e1 hc hcl hc3 hc2'
    by_cases h1 : 1 ≤ id
    · have b1 := decide_eq_true h1
      by_cases h2 : id < next
      · have b2 := decide_eq_true h2
        rw [b1, b2] at hF
        have HF := Lib.hid hF
        clear hF
        go_enter Tryd.func123, Tryd.ntmps123
        go_wp2_with (at_mapUpdate; refine wpList_count rfl _ _ _ 158 rfl lawI Tryd.underlying158 rfl HM.out (by omega) (by omega) _ id rfl HK.out (injI id) (isI id) _ (by rw [E0.out] <;> rfl) rfl ?_; intro w1 hm1 hg1; have k4' := (hg1.cell_far ⟨BT, 4, none⟩ lT HNT.out).trans k4; have kI' := (hg1.cell_far ⟨BI, 0, none⟩ lI HNI.out).trans kI; have hrun1 := hm1.look0 lawI Tryd.underlying158 HK.out E1.out; clear hrun; have HM1 := Aside0.mk hm1; have HG1 := Aside0.mk hg1; clear hm1 hg1)
        go_ret
        exact ⟨by rw [HF.out]; rfl, by first | exact HM1.out | (rw [List.length_append]; exact HM1.out), HG1.out⟩
      · have b2 := decide_eq_false h2
        rw [b1, b2] at hF
        have HF := Lib.hid hF
        clear hF
        go_enter Tryd.func123, Tryd.ntmps123
        go_wp2_with (at_mapUpdate; refine wpList_count rfl _ _ _ 158 rfl lawI Tryd.underlying158 rfl HM.out (by omega) (by omega) _ id rfl HK.out (injI id) (isI id) _ (by rw [E0.out] <;> rfl) rfl ?_; intro w1 hm1 hg1; have k4' := (hg1.cell_far ⟨BT, 4, none⟩ lT HNT.out).trans k4; have kI' := (hg1.cell_far ⟨BI, 0, none⟩ lI HNI.out).trans kI; have hrun1 := hm1.look0 lawI Tryd.underlying158 HK.out E1.out; clear hrun; have HM1 := Aside0.mk hm1; have HG1 := Aside0.mk hg1; clear hm1 hg1)
        go_ret
        exact ⟨by rw [HF.out]; rfl, by first | exact HM1.out | (rw [List.length_append]; exact HM1.out), HG1.out⟩
    · have b1 := decide_eq_false h1
      rw [b1] at hF
      have HF := Lib.hid hF
      clear hF
      go_enter Tryd.func123, Tryd.ntmps123
      go_wp2_with (at_mapUpdate; refine wpList_count rfl _ _ _ 158 rfl lawI Tryd.underlying158 rfl HM.out (by omega) (by omega) _ id rfl HK.out (injI id) (isI id) _ (by rw [E0.out] <;> rfl) rfl ?_; intro w1 hm1 hg1; have k4' := (hg1.cell_far ⟨BT, 4, none⟩ lT HNT.out).trans k4; have kI' := (hg1.cell_far ⟨BI, 0, none⟩ lI HNI.out).trans kI; have hrun1 := hm1.look0 lawI Tryd.underlying158 HK.out E1.out; clear hrun; have HM1 := Aside0.mk hm1; have HG1 := Aside0.mk hg1; clear hm1 hg1)
      go_ret
      exact ⟨by rw [HF.out]; rfl, by first | exact HM1.out | (rw [List.length_append]; exact HM1.out), HG1.out⟩
end Go.Proofs.YtjgomlcdmpcoaaaDoor.H
