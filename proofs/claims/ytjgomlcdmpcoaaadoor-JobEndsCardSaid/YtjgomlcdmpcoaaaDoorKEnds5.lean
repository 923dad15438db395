/- Own texts of this session, packed by its program wip/pp/pack.py: lemmas and walks of functions. -/
import Derived.Laws.BitsAllLaws
import Derived.Maps.OwnSet
import Derived.Lib.Hide
import Derived.OneCell
import Derived.Test.YtjgomlcdmpcoaaaDoorKEnds1
import Derived.Test.YtjgomlcdmpcoaaaDoorKEnds2
import Derived.Test.YtjgomlcdmpcoaaaDoorKEnds3
import Derived.Test.YtjgomlcdmpcoaaaDoorKEnds4
namespace Go.Proofs.YtjgomlcdmpcoaaaDoor.D
open Go.RowKit Go.Proofs.YtjgomlcdmpcoaaaDoorW.PrintWords Go.Proofs.YtjgomlcdmpcoaaaDoorW.PrintLast Go.Proofs.YtjgomlcdmpcoaaaDoorW.PrintMore
attribute [local go_sem] max2_int min2_int max_two min_two max_three min_three max_four min_four
set_option linter.unusedVariables false
set_option linter.unusedSimpArgs false
def falseworkref6_column.f (k : Nat) (a0_0 : Int) (a0_1 : ByteArray) (a0_2 : Int) (a0_3 : Int) (a0_4 : Int) (a0_5 : Int) (a0_6 : Int) (a0_7 : Int) (a0_8 : ByteArray) : Option (Bool) := (falseworkref6_Name.f k a0_1).bind fun t138 => (if t138 = true then (if a0_2 ≥ 1 then (if a0_2 ≤ 5 then (if a0_3 ≥ 0 then (if a0_3 ≤ 4 then (if a0_4 ≥ 0 then (if a0_4 ≤ 4 then ((falseworkref2_May.f a0_5 a0_6 a0_7 a0_8).bind fun t139 => (if t139 = true then (if a0_5 = 0 then (some true) else (some (a0_5 == a0_2))) else (some false))) else (some false)) else (some false)) else (some false)) else (some false)) else (some false)) else (some false)) else (some false))
theorem falseworkref6_column.mono : ∀ a0 a1 a2 a3 a4 a5 a6 a7 a8 k, LeO (falseworkref6_column.f k a0 a1 a2 a3 a4 a5 a6 a7 a8) (falseworkref6_column.f (k + 1) a0 a1 a2 a3 a4 a5 a6 a7 a8) := by
 intro a0 a1 a2 a3 a4 a5 a6 a7 a8 k
 unfold falseworkref6_column.f
 repeat' first
   | (with_reducible exact falseworkref6_Name.mono _ _)
   | (with_reducible exact LeO.refl _)
   | (with_reducible exact LeO.none _)
   | (with_reducible refine LeO.ite ?_ ?_)
   | (with_reducible refine LeO.bind ?_ (fun _ => ?_))
   | exact falseworkref6_Name.mono _ _
   | exact LeO.none _
   | refine LeO.ite ?_ ?_
   | refine LeO.bind ?_ (fun _ => ?_)
set_option maxHeartbeats 8000000 in
set_option maxRecDepth 100000 in
theorem falseworkref6_column.calls (k : Nat) (a0_0 : Int) (a0_1 : ByteArray) (a0_2 : Int) (a0_3 : Int) (a0_4 : Int) (a0_5 : Int) (a0_6 : Int) (a0_7 : Int) (a0_8 : ByteArray) (r : Bool) (w : World) (h : falseworkref6_column.f k a0_0 a0_1 a0_2 a0_3 a0_4 a0_5 a0_6 a0_7 a0_8 = some r) :
  Calls Tryd.prog 126 #[.agg #[.int .i64 a0_0, .string a0_1, .int .i64 a0_2, .int .i64 a0_3, .int .i64 a0_4, .int .i64 a0_5, .int .i64 a0_6, .int .u64 a0_7, .string a0_8]] w fun e w' => e = .returned (.bool r) ∧ Below w.heap.size w w' := by
 have hu75 := Tryd.underlying75
 have hu73 := Tryd.underlying73
 have HB := Aside0.mk (Below.refl w.heap.size w)
 have H : ((falseworkref6_Name.f k a0_1).bind fun t138 => (if t138 = true then (if a0_2 ≥ 1 then (if a0_2 ≤ 5 then (if a0_3 ≥ 0 then (if a0_3 ≤ 4 then (if a0_4 ≥ 0 then (if a0_4 ≤ 4 then ((falseworkref2_May.f a0_5 a0_6 a0_7 a0_8).bind fun t139 => (if t139 = true then (if a0_5 = 0 then (some true) else (some (a0_5 == a0_2))) else (some false))) else (some false)) else (some false)) else (some false)) else (some false)) else (some false)) else (some false)) else (some false))) = some r := h
 clear h; replace H := Option.bind_eq_some_iff.mp H; obtain ⟨t138, A20, H⟩ := H
 replace H : (if t138 = true then (if a0_2 ≥ 1 then (if a0_2 ≤ 5 then (if a0_3 ≥ 0 then (if a0_3 ≤ 4 then (if a0_4 ≥ 0 then (if a0_4 ≤ 4 then ((falseworkref2_May.f a0_5 a0_6 a0_7 a0_8).bind fun t139 => (if t139 = true then (if a0_5 = 0 then (some true) else (some (a0_5 == a0_2))) else (some false))) else (some false)) else (some false)) else (some false)) else (some false)) else (some false)) else (some false)) else (some false)) = some r := H
 have A2 := Aside0.mk A20; clear A20; by_cases c3 : t138 = true
 ·subst c3
  have H1 : (if a0_2 ≥ 1 then (if a0_2 ≤ 5 then (if a0_3 ≥ 0 then (if a0_3 ≤ 4 then (if a0_4 ≥ 0 then (if a0_4 ≤ 4 then ((falseworkref2_May.f a0_5 a0_6 a0_7 a0_8).bind fun t139 => (if t139 = true then (if a0_5 = 0 then (some true) else (some (a0_5 == a0_2))) else (some false))) else (some false)) else (some false)) else (some false)) else (some false)) else (some false)) else (some false)) = some r := by rw [if_pos rfl] at H; exact H
  clear H; have H := H1; clear H1; by_cases c4 : a0_2 ≥ 1
  ·rw [if_pos c4] at H
   have c4b0 : decide (1 ≤ a0_2) = true := decide_eq_true c4
   clear c4; by_cases c5 : a0_2 ≤ 5
   ·rw [if_pos c5] at H
    have c5b0 : decide (a0_2 ≤ 5) = true := decide_eq_true c5
    clear c5; by_cases c6 : a0_3 ≥ 0
    ·rw [if_pos c6] at H
     have c6b0 : decide (0 ≤ a0_3) = true := decide_eq_true c6
     clear c6; by_cases c7 : a0_3 ≤ 4
     ·rw [if_pos c7] at H
      have c7b0 : decide (a0_3 ≤ 4) = true := decide_eq_true c7
      clear c7; by_cases c8 : a0_4 ≥ 0
      ·rw [if_pos c8] at H
       have c8b0 : decide (0 ≤ a0_4) = true := decide_eq_true c8
       clear c8; by_cases c9 : a0_4 ≤ 4
       ·rw [if_pos c9] at H
        have c9b0 : decide (a0_4 ≤ 4) = true := decide_eq_true c9
        clear c9; replace H := Option.bind_eq_some_iff.mp H; obtain ⟨t139, A100, H⟩ := H
        replace H : (if t139 = true then (if a0_5 = 0 then (some true) else (some (a0_5 == a0_2))) else (some false)) = some r := H
        have A10 := Aside0.mk A100; clear A100; by_cases c11 : t139 = true
        ·subst c11
         have H1 : (if a0_5 = 0 then (some true) else (some (a0_5 == a0_2))) = some r := by rw [if_pos rfl] at H; exact H
         clear H; have H := H1; clear H1; by_cases c12 : a0_5 = 0
         ·rw [if_pos c12] at H
          have c12b0 : (a0_5 == 0) = true := beq_iff_eq.mpr c12
          have c12b1 : (a0_5 != 0) = false := bne_eq_false_iff_eq.mpr c12
          clear c12; obtain rfl := Option.some.inj H; go_enter Tryd.func126, Tryd.ntmps126
          go_wp2_with (first | ((with_reducible refine gate_dst (N := 1) rfl ?_); refine box_event ?hg (N := 1) ?hd (cs := #[.int .i64 a0_0, .string a0_1, .int .i64 a0_2, .int .i64 a0_3, .int .i64 a0_4, .int .i64 a0_5, .int .i64 a0_6, .int .u64 a0_7, .string a0_8]) (t := 75) ?hr ?_; (case hd => rfl); (case hg => rfl); (case hr => first | (go_simp; done) | (go_simp; rfl)); intro gb137 hg w13 hbox hb; have n0_ := Aside0.mk (below_step (by repeat (first | (with_reducible first | exact HB.out | apply below_alloc | apply pw_below_drewN | apply below_drew1) | exact HB.out)) hb); have n1_ := Aside0.mk (hbox); have n2_ := Aside0.mk ((by rw [hg]; exact (below_size (by repeat (first | (with_reducible first | exact HB.out | apply below_alloc | apply pw_below_drewN | apply below_drew1) | exact HB.out))) : w.heap.size ≤ gb137)); have n3_ := Aside0.mk ((by rw [hg]; exact (below_size (by repeat (first | (with_reducible first | exact HB.out | apply below_alloc | apply pw_below_drewN | apply below_drew1) | exact HB.out))) : w.heap.size ≤ gb137)); clear HB; have HB := n0_; have BK137 := n1_; have GW137 := n2_; have GE137 := n3_; clear n0_ n1_ n2_ n3_; clear hb hbox hg; have hcz14_0 : w13.cell? ⟨gb137, 0, none⟩ = some (.int .i64 a0_0) := (Go.Proofs.YtjgomlcdmpcoaaaDoorW.PrintWords.blk_cell BK137.out 0).trans rfl; have hcz14_1 : w13.cell? ⟨gb137, 1, none⟩ = some (.string a0_1) := (Go.Proofs.YtjgomlcdmpcoaaaDoorW.PrintWords.blk_cell BK137.out 1).trans rfl; have hcz14_2 : w13.cell? ⟨gb137, 2, none⟩ = some (.int .i64 a0_2) := (Go.Proofs.YtjgomlcdmpcoaaaDoorW.PrintWords.blk_cell BK137.out 2).trans rfl; have hcz14_3 : w13.cell? ⟨gb137, 3, none⟩ = some (.int .i64 a0_3) := (Go.Proofs.YtjgomlcdmpcoaaaDoorW.PrintWords.blk_cell BK137.out 3).trans rfl; have hcz14_4 : w13.cell? ⟨gb137, 4, none⟩ = some (.int .i64 a0_4) := (Go.Proofs.YtjgomlcdmpcoaaaDoorW.PrintWords.blk_cell BK137.out 4).trans rfl; have hcz14_5 : w13.cell? ⟨gb137, 5, none⟩ = some (.int .i64 a0_5) := (Go.Proofs.YtjgomlcdmpcoaaaDoorW.PrintWords.blk_cell BK137.out 5).trans rfl; have hcz14_6 : w13.cell? ⟨gb137, 6, none⟩ = some (.int .i64 a0_6) := (Go.Proofs.YtjgomlcdmpcoaaaDoorW.PrintWords.blk_cell BK137.out 6).trans rfl; have hcz14_7 : w13.cell? ⟨gb137, 7, none⟩ = some (.int .u64 a0_7) := (Go.Proofs.YtjgomlcdmpcoaaaDoorW.PrintWords.blk_cell BK137.out 7).trans rfl; have hcz14_8 : w13.cell? ⟨gb137, 8, none⟩ = some (.string a0_8) := (Go.Proofs.YtjgomlcdmpcoaaaDoorW.PrintWords.blk_cell BK137.out 8).trans rfl; have hfz14_0 := blk_frozen BK137.out 0; have hfz14_1 := blk_frozen BK137.out 1; have hfz14_2 := blk_frozen BK137.out 2; have hfz14_3 := blk_frozen BK137.out 3; have hfz14_4 := blk_frozen BK137.out 4; have hfz14_5 := blk_frozen BK137.out 5; have hfz14_6 := blk_frozen BK137.out 6; have hfz14_7 := blk_frozen BK137.out 7; have hfz14_8 := blk_frozen BK137.out 8) | ((with_reducible refine gate_callee (f := 34) rfl ?_); refine goesL_ (some 5) rfl rfl Tryd.func34 (by kernel_rfl) rfl #[.string a0_1] rfl (by (try simp only [List.map_toArray, List.map_cons, List.map_nil]); first | done | rfl | (simp only [List.length_drop, List.length_take]; rfl)) ?_; (with_reducible refine (falseworkref6_Name.calls k a0_1 true _ A2.out).mono ?_); rintro e w' ⟨rfl, ⟨nd, rfl⟩⟩; refine ⟨_, rfl, ?_⟩) | (go_at_call 118; (with_reducible refine (falseworkref2_May.calls a0_5 a0_6 a0_7 a0_8 true _ A10.out).mono ?_); rintro e w15 ⟨rfl, hb⟩; have n0_ := Aside0.mk (blk_below (g := gb137) (o := .cells #[.int .i64 a0_0, .string a0_1, .int .i64 a0_2, .int .i64 a0_3, .int .i64 a0_4, .int .i64 a0_5, .int .i64 a0_6, .int .u64 a0_7, .string a0_8] 75 (0, 0)) (by (with_reducible repeat (first | refine blk_drewN ?_ _ | refine blk_drew ?_ | refine blk_alloc ?_ _)); exact BK137.out) hb); have n1_ := Aside0.mk (below_step (by repeat (first | (with_reducible first | exact HB.out | apply below_alloc | apply pw_below_drewN | apply below_drew1 | refine below_set ?_ GE137.out) | exact HB.out)) hb); clear BK137; clear HB; have BK137 := n0_; have HB := n1_; clear n0_ n1_; (try clear hb); (try clear hb2); (try clear hk); (try clear hi); have hcz16_0 : w15.cell? ⟨gb137, 0, none⟩ = some (.int .i64 a0_0) := (Go.Proofs.YtjgomlcdmpcoaaaDoorW.PrintWords.blk_cell BK137.out 0).trans rfl; have hcz16_1 : w15.cell? ⟨gb137, 1, none⟩ = some (.string a0_1) := (Go.Proofs.YtjgomlcdmpcoaaaDoorW.PrintWords.blk_cell BK137.out 1).trans rfl; have hcz16_2 : w15.cell? ⟨gb137, 2, none⟩ = some (.int .i64 a0_2) := (Go.Proofs.YtjgomlcdmpcoaaaDoorW.PrintWords.blk_cell BK137.out 2).trans rfl; have hcz16_3 : w15.cell? ⟨gb137, 3, none⟩ = some (.int .i64 a0_3) := (Go.Proofs.YtjgomlcdmpcoaaaDoorW.PrintWords.blk_cell BK137.out 3).trans rfl; have hcz16_4 : w15.cell? ⟨gb137, 4, none⟩ = some (.int .i64 a0_4) := (Go.Proofs.YtjgomlcdmpcoaaaDoorW.PrintWords.blk_cell BK137.out 4).trans rfl; have hcz16_5 : w15.cell? ⟨gb137, 5, none⟩ = some (.int .i64 a0_5) := (Go.Proofs.YtjgomlcdmpcoaaaDoorW.PrintWords.blk_cell BK137.out 5).trans rfl; have hcz16_6 : w15.cell? ⟨gb137, 6, none⟩ = some (.int .i64 a0_6) := (Go.Proofs.YtjgomlcdmpcoaaaDoorW.PrintWords.blk_cell BK137.out 6).trans rfl; have hcz16_7 : w15.cell? ⟨gb137, 7, none⟩ = some (.int .u64 a0_7) := (Go.Proofs.YtjgomlcdmpcoaaaDoorW.PrintWords.blk_cell BK137.out 7).trans rfl; have hcz16_8 : w15.cell? ⟨gb137, 8, none⟩ = some (.string a0_8) := (Go.Proofs.YtjgomlcdmpcoaaaDoorW.PrintWords.blk_cell BK137.out 8).trans rfl; have hfz16_0 := blk_frozen BK137.out 0; have hfz16_1 := blk_frozen BK137.out 1; have hfz16_2 := blk_frozen BK137.out 2; have hfz16_3 := blk_frozen BK137.out 3; have hfz16_4 := blk_frozen BK137.out 4; have hfz16_5 := blk_frozen BK137.out 5; have hfz16_6 := blk_frozen BK137.out 6; have hfz16_7 := blk_frozen BK137.out 7; have hfz16_8 := blk_frozen BK137.out 8))
          go_ret; exact ⟨by first | rfl | (simp [errW_none, errW_some] <;> rfl) | (simp [*, errW_none, errW_some] <;> rfl), by repeat (first | (with_reducible first | exact HB.out | apply below_alloc | apply pw_below_drewN | apply below_drew1 | refine below_set ?_ GE137.out) | exact HB.out)⟩
         ·rw [if_neg c12] at H
          have c12b0 : (a0_5 == 0) = false := beq_eq_false_iff_ne.mpr c12
          have c12b1 : (a0_5 != 0) = true := bne_iff_ne.mpr c12
          obtain rfl := Option.some.inj H; go_enter Tryd.func126, Tryd.ntmps126
          go_wp2_with (first | ((with_reducible refine gate_dst (N := 1) rfl ?_); refine box_event ?hg (N := 1) ?hd (cs := #[.int .i64 a0_0, .string a0_1, .int .i64 a0_2, .int .i64 a0_3, .int .i64 a0_4, .int .i64 a0_5, .int .i64 a0_6, .int .u64 a0_7, .string a0_8]) (t := 75) ?hr ?_; (case hd => rfl); (case hg => rfl); (case hr => first | (go_simp; done) | (go_simp; rfl)); intro gb137 hg w17 hbox hb; have n0_ := Aside0.mk (below_step (by repeat (first | (with_reducible first | exact HB.out | apply below_alloc | apply pw_below_drewN | apply below_drew1) | exact HB.out)) hb); have n1_ := Aside0.mk (hbox); have n2_ := Aside0.mk ((by rw [hg]; exact (below_size (by repeat (first | (with_reducible first | exact HB.out | apply below_alloc | apply pw_below_drewN | apply below_drew1) | exact HB.out))) : w.heap.size ≤ gb137)); have n3_ := Aside0.mk ((by rw [hg]; exact (below_size (by repeat (first | (with_reducible first | exact HB.out | apply below_alloc | apply pw_below_drewN | apply below_drew1) | exact HB.out))) : w.heap.size ≤ gb137)); clear HB; have HB := n0_; have BK137 := n1_; have GW137 := n2_; have GE137 := n3_; clear n0_ n1_ n2_ n3_; clear hb hbox hg; have hcz18_0 : w17.cell? ⟨gb137, 0, none⟩ = some (.int .i64 a0_0) := (Go.Proofs.YtjgomlcdmpcoaaaDoorW.PrintWords.blk_cell BK137.out 0).trans rfl; have hcz18_1 : w17.cell? ⟨gb137, 1, none⟩ = some (.string a0_1) := (Go.Proofs.YtjgomlcdmpcoaaaDoorW.PrintWords.blk_cell BK137.out 1).trans rfl; have hcz18_2 : w17.cell? ⟨gb137, 2, none⟩ = some (.int .i64 a0_2) := (Go.Proofs.YtjgomlcdmpcoaaaDoorW.PrintWords.blk_cell BK137.out 2).trans rfl; have hcz18_3 : w17.cell? ⟨gb137, 3, none⟩ = some (.int .i64 a0_3) := (Go.Proofs.YtjgomlcdmpcoaaaDoorW.PrintWords.blk_cell BK137.out 3).trans rfl; have hcz18_4 : w17.cell? ⟨gb137, 4, none⟩ = some (.int .i64 a0_4) := (Go.Proofs.YtjgomlcdmpcoaaaDoorW.PrintWords.blk_cell BK137.out 4).trans rfl; have hcz18_5 : w17.cell? ⟨gb137, 5, none⟩ = some (.int .i64 a0_5) := (Go.Proofs.YtjgomlcdmpcoaaaDoorW.PrintWords.blk_cell BK137.out 5).trans rfl; have hcz18_6 : w17.cell? ⟨gb137, 6, none⟩ = some (.int .i64 a0_6) := (Go.Proofs.YtjgomlcdmpcoaaaDoorW.PrintWords.blk_cell BK137.out 6).trans rfl; have hcz18_7 : w17.cell? ⟨gb137, 7, none⟩ = some (.int .u64 a0_7) := (Go.Proofs.YtjgomlcdmpcoaaaDoorW.PrintWords.blk_cell BK137.out 7).trans rfl; have hcz18_8 : w17.cell? ⟨gb137, 8, none⟩ = some (.string a0_8) := (Go.Proofs.YtjgomlcdmpcoaaaDoorW.PrintWords.blk_cell BK137.out 8).trans rfl; have hfz18_0 := blk_frozen BK137.out 0; have hfz18_1 := blk_frozen BK137.out 1; have hfz18_2 := blk_frozen BK137.out 2; have hfz18_3 := blk_frozen BK137.out 3; have hfz18_4 := blk_frozen BK137.out 4; have hfz18_5 := blk_frozen BK137.out 5; have hfz18_6 := blk_frozen BK137.out 6; have hfz18_7 := blk_frozen BK137.out 7; have hfz18_8 := blk_frozen BK137.out 8) | ((with_reducible refine gate_callee (f := 34) rfl ?_); refine goesL_ (some 5) rfl rfl Tryd.func34 (by kernel_rfl) rfl #[.string a0_1] rfl (by (try simp only [List.map_toArray, List.map_cons, List.map_nil]); first | done | rfl | (simp only [List.length_drop, List.length_take]; rfl)) ?_; (with_reducible refine (falseworkref6_Name.calls k a0_1 true _ A2.out).mono ?_); rintro e w' ⟨rfl, ⟨nd, rfl⟩⟩; refine ⟨_, rfl, ?_⟩) | (go_at_call 118; (with_reducible refine (falseworkref2_May.calls a0_5 a0_6 a0_7 a0_8 true _ A10.out).mono ?_); rintro e w19 ⟨rfl, hb⟩; have n0_ := Aside0.mk (blk_below (g := gb137) (o := .cells #[.int .i64 a0_0, .string a0_1, .int .i64 a0_2, .int .i64 a0_3, .int .i64 a0_4, .int .i64 a0_5, .int .i64 a0_6, .int .u64 a0_7, .string a0_8] 75 (0, 0)) (by (with_reducible repeat (first | refine blk_drewN ?_ _ | refine blk_drew ?_ | refine blk_alloc ?_ _)); exact BK137.out) hb); have n1_ := Aside0.mk (below_step (by repeat (first | (with_reducible first | exact HB.out | apply below_alloc | apply pw_below_drewN | apply below_drew1 | refine below_set ?_ GE137.out) | exact HB.out)) hb); clear BK137; clear HB; have BK137 := n0_; have HB := n1_; clear n0_ n1_; (try clear hb); (try clear hb2); (try clear hk); (try clear hi); have hcz20_0 : w19.cell? ⟨gb137, 0, none⟩ = some (.int .i64 a0_0) := (Go.Proofs.YtjgomlcdmpcoaaaDoorW.PrintWords.blk_cell BK137.out 0).trans rfl; have hcz20_1 : w19.cell? ⟨gb137, 1, none⟩ = some (.string a0_1) := (Go.Proofs.YtjgomlcdmpcoaaaDoorW.PrintWords.blk_cell BK137.out 1).trans rfl; have hcz20_2 : w19.cell? ⟨gb137, 2, none⟩ = some (.int .i64 a0_2) := (Go.Proofs.YtjgomlcdmpcoaaaDoorW.PrintWords.blk_cell BK137.out 2).trans rfl; have hcz20_3 : w19.cell? ⟨gb137, 3, none⟩ = some (.int .i64 a0_3) := (Go.Proofs.YtjgomlcdmpcoaaaDoorW.PrintWords.blk_cell BK137.out 3).trans rfl; have hcz20_4 : w19.cell? ⟨gb137, 4, none⟩ = some (.int .i64 a0_4) := (Go.Proofs.YtjgomlcdmpcoaaaDoorW.PrintWords.blk_cell BK137.out 4).trans rfl; have hcz20_5 : w19.cell? ⟨gb137, 5, none⟩ = some (.int .i64 a0_5) := (Go.Proofs.YtjgomlcdmpcoaaaDoorW.PrintWords.blk_cell BK137.out 5).trans rfl; have hcz20_6 : w19.cell? ⟨gb137, 6, none⟩ = some (.int .i64 a0_6) := (Go.Proofs.YtjgomlcdmpcoaaaDoorW.PrintWords.blk_cell BK137.out 6).trans rfl; have hcz20_7 : w19.cell? ⟨gb137, 7, none⟩ = some (.int .u64 a0_7) := (Go.Proofs.YtjgomlcdmpcoaaaDoorW.PrintWords.blk_cell BK137.out 7).trans rfl; have hcz20_8 : w19.cell? ⟨gb137, 8, none⟩ = some (.string a0_8) := (Go.Proofs.YtjgomlcdmpcoaaaDoorW.PrintWords.blk_cell BK137.out 8).trans rfl; have hfz20_0 := blk_frozen BK137.out 0; have hfz20_1 := blk_frozen BK137.out 1; have hfz20_2 := blk_frozen BK137.out 2; have hfz20_3 := blk_frozen BK137.out 3; have hfz20_4 := blk_frozen BK137.out 4; have hfz20_5 := blk_frozen BK137.out 5; have hfz20_6 := blk_frozen BK137.out 6; have hfz20_7 := blk_frozen BK137.out 7; have hfz20_8 := blk_frozen BK137.out 8))
          go_ret; exact ⟨by first | rfl | (simp [errW_none, errW_some] <;> rfl) | (simp [*, errW_none, errW_some] <;> rfl), by repeat (first | (with_reducible first | exact HB.out | apply below_alloc | apply pw_below_drewN | apply below_drew1 | refine below_set ?_ GE137.out) | exact HB.out)⟩
        ·replace c11 := Bool.eq_false_iff.mpr c11
         subst c11; have H1 : (some false) = some r := by rw [if_neg (show ¬ (false = true) by decide)] at H; exact H
         clear H; have H := H1; clear H1; obtain rfl := Option.some.inj H; go_enter Tryd.func126, Tryd.ntmps126
         go_wp2_with (first | ((with_reducible refine gate_dst (N := 1) rfl ?_); refine box_event ?hg (N := 1) ?hd (cs := #[.int .i64 a0_0, .string a0_1, .int .i64 a0_2, .int .i64 a0_3, .int .i64 a0_4, .int .i64 a0_5, .int .i64 a0_6, .int .u64 a0_7, .string a0_8]) (t := 75) ?hr ?_; (case hd => rfl); (case hg => rfl); (case hr => first | (go_simp; done) | (go_simp; rfl)); intro gb137 hg w21 hbox hb; have n0_ := Aside0.mk (below_step (by repeat (first | (with_reducible first | exact HB.out | apply below_alloc | apply pw_below_drewN | apply below_drew1) | exact HB.out)) hb); have n1_ := Aside0.mk (hbox); have n2_ := Aside0.mk ((by rw [hg]; exact (below_size (by repeat (first | (with_reducible first | exact HB.out | apply below_alloc | apply pw_below_drewN | apply below_drew1) | exact HB.out))) : w.heap.size ≤ gb137)); have n3_ := Aside0.mk ((by rw [hg]; exact (below_size (by repeat (first | (with_reducible first | exact HB.out | apply below_alloc | apply pw_below_drewN | apply below_drew1) | exact HB.out))) : w.heap.size ≤ gb137)); clear HB; have HB := n0_; have BK137 := n1_; have GW137 := n2_; have GE137 := n3_; clear n0_ n1_ n2_ n3_; clear hb hbox hg; have hcz22_0 : w21.cell? ⟨gb137, 0, none⟩ = some (.int .i64 a0_0) := (Go.Proofs.YtjgomlcdmpcoaaaDoorW.PrintWords.blk_cell BK137.out 0).trans rfl; have hcz22_1 : w21.cell? ⟨gb137, 1, none⟩ = some (.string a0_1) := (Go.Proofs.YtjgomlcdmpcoaaaDoorW.PrintWords.blk_cell BK137.out 1).trans rfl; have hcz22_2 : w21.cell? ⟨gb137, 2, none⟩ = some (.int .i64 a0_2) := (Go.Proofs.YtjgomlcdmpcoaaaDoorW.PrintWords.blk_cell BK137.out 2).trans rfl; have hcz22_3 : w21.cell? ⟨gb137, 3, none⟩ = some (.int .i64 a0_3) := (Go.Proofs.YtjgomlcdmpcoaaaDoorW.PrintWords.blk_cell BK137.out 3).trans rfl; have hcz22_4 : w21.cell? ⟨gb137, 4, none⟩ = some (.int .i64 a0_4) := (Go.Proofs.YtjgomlcdmpcoaaaDoorW.PrintWords.blk_cell BK137.out 4).trans rfl; have hcz22_5 : w21.cell? ⟨gb137, 5, none⟩ = some (.int .i64 a0_5) := (Go.Proofs.YtjgomlcdmpcoaaaDoorW.PrintWords.blk_cell BK137.out 5).trans rfl; have hcz22_6 : w21.cell? ⟨gb137, 6, none⟩ = some (.int .i64 a0_6) := (Go.Proofs.YtjgomlcdmpcoaaaDoorW.PrintWords.blk_cell BK137.out 6).trans rfl; have hcz22_7 : w21.cell? ⟨gb137, 7, none⟩ = some (.int .u64 a0_7) := (Go.Proofs.YtjgomlcdmpcoaaaDoorW.PrintWords.blk_cell BK137.out 7).trans rfl; have hcz22_8 : w21.cell? ⟨gb137, 8, none⟩ = some (.string a0_8) := (Go.Proofs.YtjgomlcdmpcoaaaDoorW.PrintWords.blk_cell BK137.out 8).trans rfl; have hfz22_0 := blk_frozen BK137.out 0; have hfz22_1 := blk_frozen BK137.out 1; have hfz22_2 := blk_frozen BK137.out 2; have hfz22_3 := blk_frozen BK137.out 3; have hfz22_4 := blk_frozen BK137.out 4; have hfz22_5 := blk_frozen BK137.out 5; have hfz22_6 := blk_frozen BK137.out 6; have hfz22_7 := blk_frozen BK137.out 7; have hfz22_8 := blk_frozen BK137.out 8) | ((with_reducible refine gate_callee (f := 34) rfl ?_); refine goesL_ (some 5) rfl rfl Tryd.func34 (by kernel_rfl) rfl #[.string a0_1] rfl (by (try simp only [List.map_toArray, List.map_cons, List.map_nil]); first | done | rfl | (simp only [List.length_drop, List.length_take]; rfl)) ?_; (with_reducible refine (falseworkref6_Name.calls k a0_1 true _ A2.out).mono ?_); rintro e w' ⟨rfl, ⟨nd, rfl⟩⟩; refine ⟨_, rfl, ?_⟩) | (go_at_call 118; (with_reducible refine (falseworkref2_May.calls a0_5 a0_6 a0_7 a0_8 false _ A10.out).mono ?_); rintro e w23 ⟨rfl, hb⟩; have n0_ := Aside0.mk (blk_below (g := gb137) (o := .cells #[.int .i64 a0_0, .string a0_1, .int .i64 a0_2, .int .i64 a0_3, .int .i64 a0_4, .int .i64 a0_5, .int .i64 a0_6, .int .u64 a0_7, .string a0_8] 75 (0, 0)) (by (with_reducible repeat (first | refine blk_drewN ?_ _ | refine blk_drew ?_ | refine blk_alloc ?_ _)); exact BK137.out) hb); have n1_ := Aside0.mk (below_step (by repeat (first | (with_reducible first | exact HB.out | apply below_alloc | apply pw_below_drewN | apply below_drew1 | refine below_set ?_ GE137.out) | exact HB.out)) hb); clear BK137; clear HB; have BK137 := n0_; have HB := n1_; clear n0_ n1_; (try clear hb); (try clear hb2); (try clear hk); (try clear hi)))
         go_ret; exact ⟨by first | rfl | (simp [errW_none, errW_some] <;> rfl) | (simp [*, errW_none, errW_some] <;> rfl), by repeat (first | (with_reducible first | exact HB.out | apply below_alloc | apply pw_below_drewN | apply below_drew1 | refine below_set ?_ GE137.out) | exact HB.out)⟩
       ·rw [if_neg c9] at H
        have c9b0 : decide (a0_4 ≤ 4) = false := decide_eq_false c9
        clear c9; obtain rfl := Option.some.inj H; go_enter Tryd.func126, Tryd.ntmps126
        go_wp2_with (first | ((with_reducible refine gate_dst (N := 1) rfl ?_); refine box_event ?hg (N := 1) ?hd (cs := #[.int .i64 a0_0, .string a0_1, .int .i64 a0_2, .int .i64 a0_3, .int .i64 a0_4, .int .i64 a0_5, .int .i64 a0_6, .int .u64 a0_7, .string a0_8]) (t := 75) ?hr ?_; (case hd => rfl); (case hg => rfl); (case hr => first | (go_simp; done) | (go_simp; rfl)); intro gb137 hg w24 hbox hb; have n0_ := Aside0.mk (below_step (by repeat (first | (with_reducible first | exact HB.out | apply below_alloc | apply pw_below_drewN | apply below_drew1) | exact HB.out)) hb); have n1_ := Aside0.mk (hbox); have n2_ := Aside0.mk ((by rw [hg]; exact (below_size (by repeat (first | (with_reducible first | exact HB.out | apply below_alloc | apply pw_below_drewN | apply below_drew1) | exact HB.out))) : w.heap.size ≤ gb137)); have n3_ := Aside0.mk ((by rw [hg]; exact (below_size (by repeat (first | (with_reducible first | exact HB.out | apply below_alloc | apply pw_below_drewN | apply below_drew1) | exact HB.out))) : w.heap.size ≤ gb137)); clear HB; have HB := n0_; have BK137 := n1_; have GW137 := n2_; have GE137 := n3_; clear n0_ n1_ n2_ n3_; clear hb hbox hg; have hcz25_0 : w24.cell? ⟨gb137, 0, none⟩ = some (.int .i64 a0_0) := (Go.Proofs.YtjgomlcdmpcoaaaDoorW.PrintWords.blk_cell BK137.out 0).trans rfl; have hcz25_1 : w24.cell? ⟨gb137, 1, none⟩ = some (.string a0_1) := (Go.Proofs.YtjgomlcdmpcoaaaDoorW.PrintWords.blk_cell BK137.out 1).trans rfl; have hcz25_2 : w24.cell? ⟨gb137, 2, none⟩ = some (.int .i64 a0_2) := (Go.Proofs.YtjgomlcdmpcoaaaDoorW.PrintWords.blk_cell BK137.out 2).trans rfl; have hcz25_3 : w24.cell? ⟨gb137, 3, none⟩ = some (.int .i64 a0_3) := (Go.Proofs.YtjgomlcdmpcoaaaDoorW.PrintWords.blk_cell BK137.out 3).trans rfl; have hcz25_4 : w24.cell? ⟨gb137, 4, none⟩ = some (.int .i64 a0_4) := (Go.Proofs.YtjgomlcdmpcoaaaDoorW.PrintWords.blk_cell BK137.out 4).trans rfl; have hcz25_5 : w24.cell? ⟨gb137, 5, none⟩ = some (.int .i64 a0_5) := (Go.Proofs.YtjgomlcdmpcoaaaDoorW.PrintWords.blk_cell BK137.out 5).trans rfl; have hcz25_6 : w24.cell? ⟨gb137, 6, none⟩ = some (.int .i64 a0_6) := (Go.Proofs.YtjgomlcdmpcoaaaDoorW.PrintWords.blk_cell BK137.out 6).trans rfl; have hcz25_7 : w24.cell? ⟨gb137, 7, none⟩ = some (.int .u64 a0_7) := (Go.Proofs.YtjgomlcdmpcoaaaDoorW.PrintWords.blk_cell BK137.out 7).trans rfl; have hcz25_8 : w24.cell? ⟨gb137, 8, none⟩ = some (.string a0_8) := (Go.Proofs.YtjgomlcdmpcoaaaDoorW.PrintWords.blk_cell BK137.out 8).trans rfl; have hfz25_0 := blk_frozen BK137.out 0; have hfz25_1 := blk_frozen BK137.out 1; have hfz25_2 := blk_frozen BK137.out 2; have hfz25_3 := blk_frozen BK137.out 3; have hfz25_4 := blk_frozen BK137.out 4; have hfz25_5 := blk_frozen BK137.out 5; have hfz25_6 := blk_frozen BK137.out 6; have hfz25_7 := blk_frozen BK137.out 7; have hfz25_8 := blk_frozen BK137.out 8) | ((with_reducible refine gate_callee (f := 34) rfl ?_); refine goesL_ (some 5) rfl rfl Tryd.func34 (by kernel_rfl) rfl #[.string a0_1] rfl (by (try simp only [List.map_toArray, List.map_cons, List.map_nil]); first | done | rfl | (simp only [List.length_drop, List.length_take]; rfl)) ?_; (with_reducible refine (falseworkref6_Name.calls k a0_1 true _ A2.out).mono ?_); rintro e w' ⟨rfl, ⟨nd, rfl⟩⟩; refine ⟨_, rfl, ?_⟩))
        go_ret; exact ⟨by first | rfl | (simp [errW_none, errW_some] <;> rfl) | (simp [*, errW_none, errW_some] <;> rfl), by repeat (first | (with_reducible first | exact HB.out | apply below_alloc | apply pw_below_drewN | apply below_drew1 | refine below_set ?_ GE137.out) | exact HB.out)⟩
      ·rw [if_neg c8] at H
       have c8b0 : decide (0 ≤ a0_4) = false := decide_eq_false c8
       clear c8; obtain rfl := Option.some.inj H; go_enter Tryd.func126, Tryd.ntmps126
       go_wp2_with (first | ((with_reducible refine gate_dst (N := 1) rfl ?_); refine box_event ?hg (N := 1) ?hd (cs := #[.int .i64 a0_0, .string a0_1, .int .i64 a0_2, .int .i64 a0_3, .int .i64 a0_4, .int .i64 a0_5, .int .i64 a0_6, .int .u64 a0_7, .string a0_8]) (t := 75) ?hr ?_; (case hd => rfl); (case hg => rfl); (case hr => first | (go_simp; done) | (go_simp; rfl)); intro gb137 hg w26 hbox hb; have n0_ := Aside0.mk (below_step (by repeat (first | (with_reducible first | exact HB.out | apply below_alloc | apply pw_below_drewN | apply below_drew1) | exact HB.out)) hb); have n1_ := Aside0.mk (hbox); have n2_ := Aside0.mk ((by rw [hg]; exact (below_size (by repeat (first | (with_reducible first | exact HB.out | apply below_alloc | apply pw_below_drewN | apply below_drew1) | exact HB.out))) : w.heap.size ≤ gb137)); have n3_ := Aside0.mk ((by rw [hg]; exact (below_size (by repeat (first | (with_reducible first | exact HB.out | apply below_alloc | apply pw_below_drewN | apply below_drew1) | exact HB.out))) : w.heap.size ≤ gb137)); clear HB; have HB := n0_; have BK137 := n1_; have GW137 := n2_; have GE137 := n3_; clear n0_ n1_ n2_ n3_; clear hb hbox hg; have hcz27_0 : w26.cell? ⟨gb137, 0, none⟩ = some (.int .i64 a0_0) := (Go.Proofs.YtjgomlcdmpcoaaaDoorW.PrintWords.blk_cell BK137.out 0).trans rfl; have hcz27_1 : w26.cell? ⟨gb137, 1, none⟩ = some (.string a0_1) := (Go.Proofs.YtjgomlcdmpcoaaaDoorW.PrintWords.blk_cell BK137.out 1).trans rfl; have hcz27_2 : w26.cell? ⟨gb137, 2, none⟩ = some (.int .i64 a0_2) := (Go.Proofs.YtjgomlcdmpcoaaaDoorW.PrintWords.blk_cell BK137.out 2).trans rfl; have hcz27_3 : w26.cell? ⟨gb137, 3, none⟩ = some (.int .i64 a0_3) := (Go.Proofs.YtjgomlcdmpcoaaaDoorW.PrintWords.blk_cell BK137.out 3).trans rfl; have hcz27_4 : w26.cell? ⟨gb137, 4, none⟩ = some (.int .i64 a0_4) := (Go.Proofs.YtjgomlcdmpcoaaaDoorW.PrintWords.blk_cell BK137.out 4).trans rfl; have hcz27_5 : w26.cell? ⟨gb137, 5, none⟩ = some (.int .i64 a0_5) := (Go.Proofs.YtjgomlcdmpcoaaaDoorW.PrintWords.blk_cell BK137.out 5).trans rfl; have hcz27_6 : w26.cell? ⟨gb137, 6, none⟩ = some (.int .i64 a0_6) := (Go.Proofs.YtjgomlcdmpcoaaaDoorW.PrintWords.blk_cell BK137.out 6).trans rfl; have hcz27_7 : w26.cell? ⟨gb137, 7, none⟩ = some (.int .u64 a0_7) := (Go.Proofs.YtjgomlcdmpcoaaaDoorW.PrintWords.blk_cell BK137.out 7).trans rfl; have hcz27_8 : w26.cell? ⟨gb137, 8, none⟩ = some (.string a0_8) := (Go.Proofs.YtjgomlcdmpcoaaaDoorW.PrintWords.blk_cell BK137.out 8).trans rfl; have hfz27_0 := blk_frozen BK137.out 0; have hfz27_1 := blk_frozen BK137.out 1; have hfz27_2 := blk_frozen BK137.out 2; have hfz27_3 := blk_frozen BK137.out 3; have hfz27_4 := blk_frozen BK137.out 4; have hfz27_5 := blk_frozen BK137.out 5; have hfz27_6 := blk_frozen BK137.out 6; have hfz27_7 := blk_frozen BK137.out 7; have hfz27_8 := blk_frozen BK137.out 8) | ((with_reducible refine gate_callee (f := 34) rfl ?_); refine goesL_ (some 5) rfl rfl Tryd.func34 (by kernel_rfl) rfl #[.string a0_1] rfl (by (try simp only [List.map_toArray, List.map_cons, List.map_nil]); first | done | rfl | (simp only [List.length_drop, List.length_take]; rfl)) ?_; (with_reducible refine (falseworkref6_Name.calls k a0_1 true _ A2.out).mono ?_); rintro e w' ⟨rfl, ⟨nd, rfl⟩⟩; refine ⟨_, rfl, ?_⟩))
       go_ret; exact ⟨by first | rfl | (simp [errW_none, errW_some] <;> rfl) | (simp [*, errW_none, errW_some] <;> rfl), by repeat (first | (with_reducible first | exact HB.out | apply below_alloc | apply pw_below_drewN | apply below_drew1 | refine below_set ?_ GE137.out) | exact HB.out)⟩
     ·rw [if_neg c7] at H
      have c7b0 : decide (a0_3 ≤ 4) = false := decide_eq_false c7
      clear c7; obtain rfl := Option.some.inj H; go_enter Tryd.func126, Tryd.ntmps126
      go_wp2_with (first | ((with_reducible refine gate_dst (N := 1) rfl ?_); refine box_event ?hg (N := 1) ?hd (cs := #[.int .i64 a0_0, .string a0_1, .int .i64 a0_2, .int .i64 a0_3, .int .i64 a0_4, .int .i64 a0_5, .int .i64 a0_6, .int .u64 a0_7, .string a0_8]) (t := 75) ?hr ?_; (case hd => rfl); (case hg => rfl); (case hr => first | (go_simp; done) | (go_simp; rfl)); intro gb137 hg w28 hbox hb; have n0_ := Aside0.mk (below_step (by repeat (first | (with_reducible first | exact HB.out | apply below_alloc | apply pw_below_drewN | apply below_drew1) | exact HB.out)) hb); have n1_ := Aside0.mk (hbox); have n2_ := Aside0.mk ((by rw [hg]; exact (below_size (by repeat (first | (with_reducible first | exact HB.out | apply below_alloc | apply pw_below_drewN | apply below_drew1) | exact HB.out))) : w.heap.size ≤ gb137)); have n3_ := Aside0.mk ((by rw [hg]; exact (below_size (by repeat (first | (with_reducible first | exact HB.out | apply below_alloc | apply pw_below_drewN | apply below_drew1) | exact HB.out))) : w.heap.size ≤ gb137)); clear HB; have HB := n0_; have BK137 := n1_; have GW137 := n2_; have GE137 := n3_; clear n0_ n1_ n2_ n3_; clear hb hbox hg; have hcz29_0 : w28.cell? ⟨gb137, 0, none⟩ = some (.int .i64 a0_0) := (Go.Proofs.YtjgomlcdmpcoaaaDoorW.PrintWords.blk_cell BK137.out 0).trans rfl; have hcz29_1 : w28.cell? ⟨gb137, 1, none⟩ = some (.string a0_1) := (Go.Proofs.YtjgomlcdmpcoaaaDoorW.PrintWords.blk_cell BK137.out 1).trans rfl; have hcz29_2 : w28.cell? ⟨gb137, 2, none⟩ = some (.int .i64 a0_2) := (Go.Proofs.YtjgomlcdmpcoaaaDoorW.PrintWords.blk_cell BK137.out 2).trans rfl; have hcz29_3 : w28.cell? ⟨gb137, 3, none⟩ = some (.int .i64 a0_3) := (Go.Proofs.YtjgomlcdmpcoaaaDoorW.PrintWords.blk_cell BK137.out 3).trans rfl; have hcz29_4 : w28.cell? ⟨gb137, 4, none⟩ = some (.int .i64 a0_4) := (Go.Proofs.YtjgomlcdmpcoaaaDoorW.PrintWords.blk_cell BK137.out 4).trans rfl; have hcz29_5 : w28.cell? ⟨gb137, 5, none⟩ = some (.int .i64 a0_5) := (Go.Proofs.YtjgomlcdmpcoaaaDoorW.PrintWords.blk_cell BK137.out 5).trans rfl; have hcz29_6 : w28.cell? ⟨gb137, 6, none⟩ = some (.int .i64 a0_6) := (Go.Proofs.YtjgomlcdmpcoaaaDoorW.PrintWords.blk_cell BK137.out 6).trans rfl; have hcz29_7 : w28.cell? ⟨gb137, 7, none⟩ = some (.int .u64 a0_7) := (Go.Proofs.YtjgomlcdmpcoaaaDoorW.PrintWords.blk_cell BK137.out 7).trans rfl; have hcz29_8 : w28.cell? ⟨gb137, 8, none⟩ = some (.string a0_8) := (Go.Proofs.YtjgomlcdmpcoaaaDoorW.PrintWords.blk_cell BK137.out 8).trans rfl; have hfz29_0 := blk_frozen BK137.out 0; have hfz29_1 := blk_frozen BK137.out 1; have hfz29_2 := blk_frozen BK137.out 2; have hfz29_3 := blk_frozen BK137.out 3; have hfz29_4 := blk_frozen BK137.out 4; have hfz29_5 := blk_frozen BK137.out 5; have hfz29_6 := blk_frozen BK137.out 6; have hfz29_7 := blk_frozen BK137.out 7; have hfz29_8 := blk_frozen BK137.out 8) | ((with_reducible refine gate_callee (f := 34) rfl ?_); refine goesL_ (some 5) rfl rfl Tryd.func34 (by kernel_rfl) rfl #[.string a0_1] rfl (by (try simp only [List.map_toArray, List.map_cons, List.map_nil]); first | done | rfl | (simp only [List.length_drop, List.length_take]; rfl)) ?_; (with_reducible refine (falseworkref6_Name.calls k a0_1 true _ A2.out).mono ?_); rintro e w' ⟨rfl, ⟨nd, rfl⟩⟩; refine ⟨_, rfl, ?_⟩))
      go_ret; exact ⟨by first | rfl | (simp [errW_none, errW_some] <;> rfl) | (simp [*, errW_none, errW_some] <;> rfl), by repeat (first | (with_reducible first | exact HB.out | apply below_alloc | apply pw_below_drewN | apply below_drew1 | refine below_set ?_ GE137.out) | exact HB.out)⟩
    ·rw [if_neg c6] at H
     have c6b0 : decide (0 ≤ a0_3) = false := decide_eq_false c6
     clear c6; obtain rfl := Option.some.inj H; go_enter Tryd.func126, Tryd.ntmps126
     go_wp2_with (first | ((with_reducible refine gate_dst (N := 1) rfl ?_); refine box_event ?hg (N := 1) ?hd (cs := #[.int .i64 a0_0, .string a0_1, .int .i64 a0_2, .int .i64 a0_3, .int .i64 a0_4, .int .i64 a0_5, .int .i64 a0_6, .int .u64 a0_7, .string a0_8]) (t := 75) ?hr ?_; (case hd => rfl); (case hg => rfl); (case hr => first | (go_simp; done) | (go_simp; rfl)); intro gb137 hg w30 hbox hb; have n0_ := Aside0.mk (below_step (by repeat (first | (with_reducible first | exact HB.out | apply below_alloc | apply pw_below_drewN | apply below_drew1) | exact HB.out)) hb); have n1_ := Aside0.mk (hbox); have n2_ := Aside0.mk ((by rw [hg]; exact (below_size (by repeat (first | (with_reducible first | exact HB.out | apply below_alloc | apply pw_below_drewN | apply below_drew1) | exact HB.out))) : w.heap.size ≤ gb137)); have n3_ := Aside0.mk ((by rw [hg]; exact (below_size (by repeat (first | (with_reducible first | exact HB.out | apply below_alloc | apply pw_below_drewN | apply below_drew1) | exact HB.out))) : w.heap.size ≤ gb137)); clear HB; have HB := n0_; have BK137 := n1_; have GW137 := n2_; have GE137 := n3_; clear n0_ n1_ n2_ n3_; clear hb hbox hg; have hcz31_0 : w30.cell? ⟨gb137, 0, none⟩ = some (.int .i64 a0_0) := (Go.Proofs.YtjgomlcdmpcoaaaDoorW.PrintWords.blk_cell BK137.out 0).trans rfl; have hcz31_1 : w30.cell? ⟨gb137, 1, none⟩ = some (.string a0_1) := (Go.Proofs.YtjgomlcdmpcoaaaDoorW.PrintWords.blk_cell BK137.out 1).trans rfl; have hcz31_2 : w30.cell? ⟨gb137, 2, none⟩ = some (.int .i64 a0_2) := (Go.Proofs.YtjgomlcdmpcoaaaDoorW.PrintWords.blk_cell BK137.out 2).trans rfl; have hcz31_3 : w30.cell? ⟨gb137, 3, none⟩ = some (.int .i64 a0_3) := (Go.Proofs.YtjgomlcdmpcoaaaDoorW.PrintWords.blk_cell BK137.out 3).trans rfl; have hcz31_4 : w30.cell? ⟨gb137, 4, none⟩ = some (.int .i64 a0_4) := (Go.Proofs.YtjgomlcdmpcoaaaDoorW.PrintWords.blk_cell BK137.out 4).trans rfl; have hcz31_5 : w30.cell? ⟨gb137, 5, none⟩ = some (.int .i64 a0_5) := (Go.Proofs.YtjgomlcdmpcoaaaDoorW.PrintWords.blk_cell BK137.out 5).trans rfl; have hcz31_6 : w30.cell? ⟨gb137, 6, none⟩ = some (.int .i64 a0_6) := (Go.Proofs.YtjgomlcdmpcoaaaDoorW.PrintWords.blk_cell BK137.out 6).trans rfl; have hcz31_7 : w30.cell? ⟨gb137, 7, none⟩ = some (.int .u64 a0_7) := (Go.Proofs.YtjgomlcdmpcoaaaDoorW.PrintWords.blk_cell BK137.out 7).trans rfl; have hcz31_8 : w30.cell? ⟨gb137, 8, none⟩ = some (.string a0_8) := (Go.Proofs.YtjgomlcdmpcoaaaDoorW.PrintWords.blk_cell BK137.out 8).trans rfl; have hfz31_0 := blk_frozen BK137.out 0; have hfz31_1 := blk_frozen BK137.out 1; have hfz31_2 := blk_frozen BK137.out 2; have hfz31_3 := blk_frozen BK137.out 3; have hfz31_4 := blk_frozen BK137.out 4; have hfz31_5 := blk_frozen BK137.out 5; have hfz31_6 := blk_frozen BK137.out 6; have hfz31_7 := blk_frozen BK137.out 7; have hfz31_8 := blk_frozen BK137.out 8) | ((with_reducible refine gate_callee (f := 34) rfl ?_); refine goesL_ (some 5) rfl rfl Tryd.func34 (by kernel_rfl) rfl #[.string a0_1] rfl (by (try simp only [List.map_toArray, List.map_cons, List.map_nil]); first | done | rfl | (simp only [List.length_drop, List.length_take]; rfl)) ?_; (with_reducible refine (falseworkref6_Name.calls k a0_1 true _ A2.out).mono ?_); rintro e w' ⟨rfl, ⟨nd, rfl⟩⟩; refine ⟨_, rfl, ?_⟩))
     go_ret; exact ⟨by first | rfl | (simp [errW_none, errW_some] <;> rfl) | (simp [*, errW_none, errW_some] <;> rfl), by repeat (first | (with_reducible first | exact HB.out | apply below_alloc | apply pw_below_drewN | apply below_drew1 | refine below_set ?_ GE137.out) | exact HB.out)⟩
   ·rw [if_neg c5] at H
    have c5b0 : decide (a0_2 ≤ 5) = false := decide_eq_false c5
    clear c5; obtain rfl := Option.some.inj H; go_enter Tryd.func126, Tryd.ntmps126
    go_wp2_with (first | ((with_reducible refine gate_dst (N := 1) rfl ?_); refine box_event ?hg (N := 1) ?hd (cs := #[.int .i64 a0_0, .string a0_1, .int .i64 a0_2, .int .i64 a0_3, .int .i64 a0_4, .int .i64 a0_5, .int .i64 a0_6, .int .u64 a0_7, .string a0_8]) (t := 75) ?hr ?_; (case hd => rfl); (case hg => rfl); (case hr => first | (go_simp; done) | (go_simp; rfl)); intro gb137 hg w32 hbox hb; have n0_ := Aside0.mk (below_step (by repeat (first | (with_reducible first | exact HB.out | apply below_alloc | apply pw_below_drewN | apply below_drew1) | exact HB.out)) hb); have n1_ := Aside0.mk (hbox); have n2_ := Aside0.mk ((by rw [hg]; exact (below_size (by repeat (first | (with_reducible first | exact HB.out | apply below_alloc | apply pw_below_drewN | apply below_drew1) | exact HB.out))) : w.heap.size ≤ gb137)); have n3_ := Aside0.mk ((by rw [hg]; exact (below_size (by repeat (first | (with_reducible first | exact HB.out | apply below_alloc | apply pw_below_drewN | apply below_drew1) | exact HB.out))) : w.heap.size ≤ gb137)); clear HB; have HB := n0_; have BK137 := n1_; have GW137 := n2_; have GE137 := n3_; clear n0_ n1_ n2_ n3_; clear hb hbox hg; have hcz33_0 : w32.cell? ⟨gb137, 0, none⟩ = some (.int .i64 a0_0) := (Go.Proofs.YtjgomlcdmpcoaaaDoorW.PrintWords.blk_cell BK137.out 0).trans rfl; have hcz33_1 : w32.cell? ⟨gb137, 1, none⟩ = some (.string a0_1) := (Go.Proofs.YtjgomlcdmpcoaaaDoorW.PrintWords.blk_cell BK137.out 1).trans rfl; have hcz33_2 : w32.cell? ⟨gb137, 2, none⟩ = some (.int .i64 a0_2) := (Go.Proofs.YtjgomlcdmpcoaaaDoorW.PrintWords.blk_cell BK137.out 2).trans rfl; have hcz33_3 : w32.cell? ⟨gb137, 3, none⟩ = some (.int .i64 a0_3) := (Go.Proofs.YtjgomlcdmpcoaaaDoorW.PrintWords.blk_cell BK137.out 3).trans rfl; have hcz33_4 : w32.cell? ⟨gb137, 4, none⟩ = some (.int .i64 a0_4) := (Go.Proofs.YtjgomlcdmpcoaaaDoorW.PrintWords.blk_cell BK137.out 4).trans rfl; have hcz33_5 : w32.cell? ⟨gb137, 5, none⟩ = some (.int .i64 a0_5) := (Go.Proofs.YtjgomlcdmpcoaaaDoorW.PrintWords.blk_cell BK137.out 5).trans rfl; have hcz33_6 : w32.cell? ⟨gb137, 6, none⟩ = some (.int .i64 a0_6) := (Go.Proofs.YtjgomlcdmpcoaaaDoorW.PrintWords.blk_cell BK137.out 6).trans rfl; have hcz33_7 : w32.cell? ⟨gb137, 7, none⟩ = some (.int .u64 a0_7) := (Go.Proofs.YtjgomlcdmpcoaaaDoorW.PrintWords.blk_cell BK137.out 7).trans rfl; have hcz33_8 : w32.cell? ⟨gb137, 8, none⟩ = some (.string a0_8) := (Go.Proofs.YtjgomlcdmpcoaaaDoorW.PrintWords.blk_cell BK137.out 8).trans rfl; have hfz33_0 := blk_frozen BK137.out 0; have hfz33_1 := blk_frozen BK137.out 1; have hfz33_2 := blk_frozen BK137.out 2; have hfz33_3 := blk_frozen BK137.out 3; have hfz33_4 := blk_frozen BK137.out 4; have hfz33_5 := blk_frozen BK137.out 5; have hfz33_6 := blk_frozen BK137.out 6; have hfz33_7 := blk_frozen BK137.out 7; have hfz33_8 := blk_frozen BK137.out 8) | ((with_reducible refine gate_callee (f := 34) rfl ?_); refine goesL_ (some 5) rfl rfl Tryd.func34 (by kernel_rfl) rfl #[.string a0_1] rfl (by (try simp only [List.map_toArray, List.map_cons, List.map_nil]); first | done | rfl | (simp only [List.length_drop, List.length_take]; rfl)) ?_; (with_reducible refine (falseworkref6_Name.calls k a0_1 true _ A2.out).mono ?_); rintro e w' ⟨rfl, ⟨nd, rfl⟩⟩; refine ⟨_, rfl, ?_⟩))
    go_ret; exact ⟨by first | rfl | (simp [errW_none, errW_some] <;> rfl) | (simp [*, errW_none, errW_some] <;> rfl), by repeat (first | (with_reducible first | exact HB.out | apply below_alloc | apply pw_below_drewN | apply below_drew1 | refine below_set ?_ GE137.out) | exact HB.out)⟩
  ·rw [if_neg c4] at H
   have c4b0 : decide (1 ≤ a0_2) = false := decide_eq_false c4
   clear c4; obtain rfl := Option.some.inj H; go_enter Tryd.func126, Tryd.ntmps126
   go_wp2_with (first | ((with_reducible refine gate_dst (N := 1) rfl ?_); refine box_event ?hg (N := 1) ?hd (cs := #[.int .i64 a0_0, .string a0_1, .int .i64 a0_2, .int .i64 a0_3, .int .i64 a0_4, .int .i64 a0_5, .int .i64 a0_6, .int .u64 a0_7, .string a0_8]) (t := 75) ?hr ?_; (case hd => rfl); (case hg => rfl); (case hr => first | (go_simp; done) | (go_simp; rfl)); intro gb137 hg w34 hbox hb; have n0_ := Aside0.mk (below_step (by repeat (first | (with_reducible first | exact HB.out | apply below_alloc | apply pw_below_drewN | apply below_drew1) | exact HB.out)) hb); have n1_ := Aside0.mk (hbox); have n2_ := Aside0.mk ((by rw [hg]; exact (below_size (by repeat (first | (with_reducible first | exact HB.out | apply below_alloc | apply pw_below_drewN | apply below_drew1) | exact HB.out))) : w.heap.size ≤ gb137)); have n3_ := Aside0.mk ((by rw [hg]; exact (below_size (by repeat (first | (with_reducible first | exact HB.out | apply below_alloc | apply pw_below_drewN | apply below_drew1) | exact HB.out))) : w.heap.size ≤ gb137)); clear HB; have HB := n0_; have BK137 := n1_; have GW137 := n2_; have GE137 := n3_; clear n0_ n1_ n2_ n3_; clear hb hbox hg; have hcz35_0 : w34.cell? ⟨gb137, 0, none⟩ = some (.int .i64 a0_0) := (Go.Proofs.YtjgomlcdmpcoaaaDoorW.PrintWords.blk_cell BK137.out 0).trans rfl; have hcz35_1 : w34.cell? ⟨gb137, 1, none⟩ = some (.string a0_1) := (Go.Proofs.YtjgomlcdmpcoaaaDoorW.PrintWords.blk_cell BK137.out 1).trans rfl; have hcz35_2 : w34.cell? ⟨gb137, 2, none⟩ = some (.int .i64 a0_2) := (Go.Proofs.YtjgomlcdmpcoaaaDoorW.PrintWords.blk_cell BK137.out 2).trans rfl; have hcz35_3 : w34.cell? ⟨gb137, 3, none⟩ = some (.int .i64 a0_3) := (Go.Proofs.YtjgomlcdmpcoaaaDoorW.PrintWords.blk_cell BK137.out 3).trans rfl; have hcz35_4 : w34.cell? ⟨gb137, 4, none⟩ = some (.int .i64 a0_4) := (Go.Proofs.YtjgomlcdmpcoaaaDoorW.PrintWords.blk_cell BK137.out 4).trans rfl; have hcz35_5 : w34.cell? ⟨gb137, 5, none⟩ = some (.int .i64 a0_5) := (Go.Proofs.YtjgomlcdmpcoaaaDoorW.PrintWords.blk_cell BK137.out 5).trans rfl; have hcz35_6 : w34.cell? ⟨gb137, 6, none⟩ = some (.int .i64 a0_6) := (Go.Proofs.YtjgomlcdmpcoaaaDoorW.PrintWords.blk_cell BK137.out 6).trans rfl; have hcz35_7 : w34.cell? ⟨gb137, 7, none⟩ = some (.int .u64 a0_7) := (Go.Proofs.YtjgomlcdmpcoaaaDoorW.PrintWords.blk_cell BK137.out 7).trans rfl; have hcz35_8 : w34.cell? ⟨gb137, 8, none⟩ = some (.string a0_8) := (Go.Proofs.YtjgomlcdmpcoaaaDoorW.PrintWords.blk_cell BK137.out 8).trans rfl; have hfz35_0 := blk_frozen BK137.out 0; have hfz35_1 := blk_frozen BK137.out 1; have hfz35_2 := blk_frozen BK137.out 2; have hfz35_3 := blk_frozen BK137.out 3; have hfz35_4 := blk_frozen BK137.out 4; have hfz35_5 := blk_frozen BK137.out 5; have hfz35_6 := blk_frozen BK137.out 6; have hfz35_7 := blk_frozen BK137.out 7; have hfz35_8 := blk_frozen BK137.out 8) | ((with_reducible refine gate_callee (f := 34) rfl ?_); refine goesL_ (some 5) rfl rfl Tryd.func34 (by kernel_rfl) rfl #[.string a0_1] rfl (by (try simp only [List.map_toArray, List.map_cons, List.map_nil]); first | done | rfl | (simp only [List.length_drop, List.length_take]; rfl)) ?_; (with_reducible refine (falseworkref6_Name.calls k a0_1 true _ A2.out).mono ?_); rintro e w' ⟨rfl, ⟨nd, rfl⟩⟩; refine ⟨_, rfl, ?_⟩))
   go_ret; exact ⟨by first | rfl | (simp [errW_none, errW_some] <;> rfl) | (simp [*, errW_none, errW_some] <;> rfl), by repeat (first | (with_reducible first | exact HB.out | apply below_alloc | apply pw_below_drewN | apply below_drew1 | refine below_set ?_ GE137.out) | exact HB.out)⟩
 ·replace c3 := Bool.eq_false_iff.mpr c3
  subst c3; have H1 : (some false) = some r := by rw [if_neg (show ¬ (false = true) by decide)] at H; exact H
  clear H; have H := H1; clear H1; obtain rfl := Option.some.inj H; go_enter Tryd.func126, Tryd.ntmps126
  go_wp2_with (first | ((with_reducible refine gate_dst (N := 1) rfl ?_); refine box_event ?hg (N := 1) ?hd (cs := #[.int .i64 a0_0, .string a0_1, .int .i64 a0_2, .int .i64 a0_3, .int .i64 a0_4, .int .i64 a0_5, .int .i64 a0_6, .int .u64 a0_7, .string a0_8]) (t := 75) ?hr ?_; (case hd => rfl); (case hg => rfl); (case hr => first | (go_simp; done) | (go_simp; rfl)); intro gb137 hg w36 hbox hb; have n0_ := Aside0.mk (below_step (by repeat (first | (with_reducible first | exact HB.out | apply below_alloc | apply pw_below_drewN | apply below_drew1) | exact HB.out)) hb); have n1_ := Aside0.mk (hbox); have n2_ := Aside0.mk ((by rw [hg]; exact (below_size (by repeat (first | (with_reducible first | exact HB.out | apply below_alloc | apply pw_below_drewN | apply below_drew1) | exact HB.out))) : w.heap.size ≤ gb137)); have n3_ := Aside0.mk ((by rw [hg]; exact (below_size (by repeat (first | (with_reducible first | exact HB.out | apply below_alloc | apply pw_below_drewN | apply below_drew1) | exact HB.out))) : w.heap.size ≤ gb137)); clear HB; have HB := n0_; have BK137 := n1_; have GW137 := n2_; have GE137 := n3_; clear n0_ n1_ n2_ n3_; clear hb hbox hg; have hcz37_0 : w36.cell? ⟨gb137, 0, none⟩ = some (.int .i64 a0_0) := (Go.Proofs.YtjgomlcdmpcoaaaDoorW.PrintWords.blk_cell BK137.out 0).trans rfl; have hcz37_1 : w36.cell? ⟨gb137, 1, none⟩ = some (.string a0_1) := (Go.Proofs.YtjgomlcdmpcoaaaDoorW.PrintWords.blk_cell BK137.out 1).trans rfl; have hcz37_2 : w36.cell? ⟨gb137, 2, none⟩ = some (.int .i64 a0_2) := (Go.Proofs.YtjgomlcdmpcoaaaDoorW.PrintWords.blk_cell BK137.out 2).trans rfl; have hcz37_3 : w36.cell? ⟨gb137, 3, none⟩ = some (.int .i64 a0_3) := (Go.Proofs.YtjgomlcdmpcoaaaDoorW.PrintWords.blk_cell BK137.out 3).trans rfl; have hcz37_4 : w36.cell? ⟨gb137, 4, none⟩ = some (.int .i64 a0_4) := (Go.Proofs.YtjgomlcdmpcoaaaDoorW.PrintWords.blk_cell BK137.out 4).trans rfl; have hcz37_5 : w36.cell? ⟨gb137, 5, none⟩ = some (.int .i64 a0_5) := (Go.Proofs.YtjgomlcdmpcoaaaDoorW.PrintWords.blk_cell BK137.out 5).trans rfl; have hcz37_6 : w36.cell? ⟨gb137, 6, none⟩ = some (.int .i64 a0_6) := (Go.Proofs.YtjgomlcdmpcoaaaDoorW.PrintWords.blk_cell BK137.out 6).trans rfl; have hcz37_7 : w36.cell? ⟨gb137, 7, none⟩ = some (.int .u64 a0_7) := (Go.Proofs.YtjgomlcdmpcoaaaDoorW.PrintWords.blk_cell BK137.out 7).trans rfl; have hcz37_8 : w36.cell? ⟨gb137, 8, none⟩ = some (.string a0_8) := (Go.Proofs.YtjgomlcdmpcoaaaDoorW.PrintWords.blk_cell BK137.out 8).trans rfl; have hfz37_0 := blk_frozen BK137.out 0; have hfz37_1 := blk_frozen BK137.out 1; have hfz37_2 := blk_frozen BK137.out 2; have hfz37_3 := blk_frozen BK137.out 3; have hfz37_4 := blk_frozen BK137.out 4; have hfz37_5 := blk_frozen BK137.out 5; have hfz37_6 := blk_frozen BK137.out 6; have hfz37_7 := blk_frozen BK137.out 7; have hfz37_8 := blk_frozen BK137.out 8) | ((with_reducible refine gate_callee (f := 34) rfl ?_); refine goesL_ (some 5) rfl rfl Tryd.func34 (by kernel_rfl) rfl #[.string a0_1] rfl (by (try simp only [List.map_toArray, List.map_cons, List.map_nil]); first | done | rfl | (simp only [List.length_drop, List.length_take]; rfl)) ?_; (with_reducible refine (falseworkref6_Name.calls k a0_1 false _ A2.out).mono ?_); rintro e w' ⟨rfl, ⟨nd, rfl⟩⟩; refine ⟨_, rfl, ?_⟩))
  go_ret; exact ⟨by first | rfl | (simp [errW_none, errW_some] <;> rfl) | (simp [*, errW_none, errW_some] <;> rfl), by repeat (first | (with_reducible first | exact HB.out | apply below_alloc | apply pw_below_drewN | apply below_drew1 | refine below_set ?_ GE137.out) | exact HB.out)⟩
end Go.Proofs.YtjgomlcdmpcoaaaDoor.D
namespace Go.Proofs.YtjgomlcdmpcoaaaDoor.H
open Go.RowKit Go.Proofs.YtjgomlcdmpcoaaaDoorW.PrintWords Go.Proofs.YtjgomlcdmpcoaaaDoorW.PrintLast Go.Proofs.YtjgomlcdmpcoaaaDoorW.PrintMore
open Go.Proofs.YtjgomlcdmpcoaaaDoor.D Go.Proofs.YtjgomlcdmpcoaaaDoor
set_option linter.unusedVariables false
def valB (v : S73) : Bool := if v.f0 = 3 then canonI v.f2 == v.f2 && (v.f1 == 0 && (v.f3.toList == ([] : List UInt8))) else mayB v.f0 v.f1 v.f2 v.f3
def columnB (c : S75) : Bool := nameB c.f1 && (decide (1 ≤ c.f2) && (decide (c.f2 ≤ 5) && (stateB c.f3 && (stateB c.f4 && (valB c.f5 && (c.f5.f0 == 0 || c.f5.f0 == c.f2))))))
def ValWf (v : S73) : Prop := 0 ≤ v.f2 ∧ v.f2 < 18446744073709551616
theorem desc_state (n : Int) : desc_state.f n = some (stateB n) := by
  unfold desc_state.f stateB
  by_cases h : 0 ≤ n
  · rw [if_pos h, decide_eq_true h, Bool.true_and]
  · rw [if_neg h, decide_eq_false h, Bool.false_and]
theorem val_may (v : S73) (h : ValWf v) : value_May.f v.f0 v.f1 v.f2 v.f3 = some (valB v) := by
  unfold value_May.f valB flo_Canon.f
  rw [if_pos h.1, if_pos h.2]
  split <;> rfl
theorem desc_column (c : S75) (h : ValWf c.f5) (k : Nat) (hk : 100 < k) : desc_column.f k c.f0 c.f1 c.f2 c.f3 c.f4 c.f5.f0 c.f5.f1 c.f5.f2 c.f5.f3 = some (columnB c) := by
  unfold desc_column.f columnB
  rw [desc_name _ k hk, Option.bind_some, desc_state, desc_state, val_may _ h]
  simp only [Option.bind_some]
  cases nameB c.f1
  · rfl
  by_cases h1 : 1 ≤ c.f2
  · by_cases h2 : c.f2 ≤ 5
    · rw [if_pos rfl, if_pos h1, if_pos h2, decide_eq_true h1, decide_eq_true h2]
      cases stateB c.f3
      · rfl
      cases stateB c.f4
      · rfl
      cases valB c.f5
      · rfl
      by_cases h3 : c.f5.f0 = 0
      · simp [h3]
      · have : (c.f5.f0 == 0) = false := beq_eq_false_iff_ne.mpr h3
        rw [if_pos rfl, if_pos rfl, if_pos rfl, if_neg h3, this]
        rfl
    · rw [if_pos rfl, if_pos h1, if_neg h2, decide_eq_false h2]
      simp
  · rw [if_pos rfl, if_neg h1, decide_eq_false h1]
    rfl
theorem column_calls' (c : S75) (h : ValWf c.f5) (w : World) (hG : GL w) : Calls Tryd.prog 124 #[.agg #[.int .i64 c.f0, .string c.f1, .int .i64 c.f2, .int .i64 c.f3, .int .i64 c.f4, .int .i64 c.f5.f0, .int .i64 c.f5.f1, .int .u64 c.f5.f2, .string c.f5.f3]] w
    fun e w' => e = .returned (.bool (columnB c)) ∧ Below w.heap.size w w' := desc_column.calls 101 _ _ _ _ _ _ _ _ _ _ w (desc_column c h 101 (by decide)) hG
theorem ref_canon (f : Int) (h0 : 0 ≤ f) (h1 : f < 18446744073709551616) : falseworkref1_Canon.f f = some (canonI f) := by
  have hb : Go.bits .andNot .u64 f 9223372036854775808 = f % 9223372036854775808 := by
    rw [u64_andNot f 9223372036854775808 h0 h1 (by decide) (by decide)]
    have e : (18446744073709551615 - (9223372036854775808 : Int).toNat : Nat) = 2 ^ 63 - 1 := by decide
    rw [e, Nat.and_two_pow_sub_one_eq_mod]
    omega
  unfold falseworkref1_Canon.f canonI
  rw [hb]
  split
  · rfl
  · split <;> rfl
theorem ref_val (v : S73) (h : ValWf v) : falseworkref2_May.f v.f0 v.f1 v.f2 v.f3 = some (valB v) := by
  unfold falseworkref2_May.f valB mayB
  rw [ref_canon _ h.1 h.2]
  have d : decide ((v.f3.size : Int) ≤ 40) = decide (v.f3.size ≤ 40) := by rw [decide_eq_decide]; omega
  simp only [d, Option.bind_some]
  have he : ∀ (x y : Option Bool), (if v.f3.toList = ([] : List UInt8) then x else y) = if (v.f3.toList == ([] : List UInt8)) = true then x else y := fun x y => by
    by_cases h : v.f3.toList = [] <;> simp [h]
  simp only [he]
  obtain ⟨e, hE⟩ : ∃ e, (v.f3.toList == ([] : List UInt8)) = e := ⟨_, rfl⟩
  obtain ⟨z, hz⟩ : ∃ z, decide (v.f3.size ≤ 40) = z := ⟨_, rfl⟩
  rw [hE, hz]
  obtain ⟨k, hk⟩ : ∃ k, v.f0 = k := ⟨_, rfl⟩
  obtain ⟨n, hn⟩ : ∃ n, v.f1 = n := ⟨_, rfl⟩
  obtain ⟨f, hf⟩ : ∃ f, v.f2 = f := ⟨_, rfl⟩
  rw [hk, hn, hf]
  clear hE hz he d h hk hn hf v
  by_cases k0 : k = 0
  · subst k0; cases e <;> by_cases h1 : n = 0 <;> by_cases h2 : f = 0 <;> simp [h1, h2]
  by_cases k1 : k = 1
  · subst k1; cases e <;> by_cases h1 : n = 0 <;> by_cases h3 : n = 1 <;> by_cases h2 : f = 0 <;> simp [h1, h2, h3]
  by_cases k2 : k = 2
  · subst k2; cases e <;> by_cases h2 : f = 0 <;> simp [h2]
  by_cases k3 : k = 3
  · subst k3; cases e <;> by_cases h1 : n = 0 <;> simp [h1]
  by_cases k4 : k = 4
  · subst k4; cases z <;> by_cases h1 : n = 0 <;> by_cases h2 : f = 0 <;> simp [h1, h2]
  by_cases k5 : k = 5
  · subst k5; cases z <;> by_cases h1 : n = 0 <;> by_cases h2 : f = 0 <;> simp [h1, h2]
  simp [k0, k1, k2, k3, k4, k5]
theorem ref_column (c : S75) (h : ValWf c.f5) (k : Nat) (hk : 100 < k) : falseworkref6_column.f k c.f0 c.f1 c.f2 c.f3 c.f4 c.f5.f0 c.f5.f1 c.f5.f2 c.f5.f3 = some (columnB c) := by
  unfold falseworkref6_column.f columnB stateB
  rw [ref_name _ k hk, Option.bind_some, ref_val _ h]
  simp only [Option.bind_some]
  cases nameB c.f1
  · rfl
  cases valB c.f5 <;> by_cases h1 : 1 ≤ c.f2 <;> by_cases h2 : c.f2 ≤ 5 <;> by_cases h3 : 0 ≤ c.f3 <;> by_cases h4 : c.f3 ≤ 4 <;> by_cases h5 : 0 ≤ c.f4 <;> by_cases h6 : c.f4 ≤ 4 <;> by_cases h7 : c.f5.f0 = 0 <;> simp [h1, h2, h3, h4, h5, h6, h7]
end Go.Proofs.YtjgomlcdmpcoaaaDoor.H
namespace Go.Proofs.YtjgomlcdmpcoaaaDoor.H
open Go.RowKit Go.Proofs.YtjgomlcdmpcoaaaDoorW.PrintWords Go.Proofs.YtjgomlcdmpcoaaaDoorW.PrintLast Go.Proofs.YtjgomlcdmpcoaaaDoorW.PrintMore
open Go.Maps
set_option linter.unusedVariables false
theorem zero3 (w : World) : (zeroValue 3).run Tryd.prog w = .ok (.int .i64 0) w := by kernel_rfl
def CntM {κ : Type} [DecidableEq κ] (k : TypeId) (lit : κ → Lit) (w : World) (B n : Nat) (l : List κ) : Prop :=
  ∃ D : DataW Unit, w.ownsMap Tryd.prog k (plainElem Tryd.prog 3) B n D ∧ ∀ x, D.atKey (lit x) (.lit (.int .i64 0)) = .lit (.int .i64 (l.count x))
section
variable {κ : Type} [DecidableEq κ] {k : TypeId} {lit : κ → Lit} {w w' : World} {B n : Nat} {l : List κ}
theorem CntM.new (k : TypeId) (lit : κ → Lit) (w : World) : CntM k lit (w.alloc (.map #[] 0)) w.heap.size 0 ([] : List κ) :=
  ⟨_, World.ownsMap_made w Tryd.prog k _, fun x => rfl⟩
theorem CntM.kept (h : CntM k lit w B n l) {row : Option Nat} (hg : w.grownBy w' row) (hne : some B ≠ row) : CntM k lit w' B n l := by
  obtain ⟨D, h1, h2⟩ := h
  exact ⟨D, h1.kept hg hne, h2⟩
theorem CntM.below (h : CntM k lit w B n l) (hb : Below w.heap.size w w') : CntM k lit w' B n l := h.kept (grown_of_below hb none) (by simp)
theorem CntM.snoc {x : κ} (h : CntM k lit w B (l.length + 1) (l ++ [x])) : CntM k lit w B (l ++ [x]).length (l ++ [x]) := by
  rw [List.length_append]
  exact h
theorem CntM.lt (h : CntM k lit w B n l) : B < w.heap.size := by
  obtain ⟨D, h1, _⟩ := h
  exact h1.lt
set_option maxRecDepth 100000 in
theorem CntM.look (h : CntM k lit w B n l) (K : Keyed Tryd.prog k) {t : TypeId} (ht : Tryd.prog.underlying t = some (.map k 3)) {key : Value} {x : κ} (hkey : keyOf Tryd.prog k key = some (lit x)) :
    (Instr.lookup t (.map (some B)) key false).run Tryd.prog w = .ok (.int .i64 (l.count x)) w := by
  obtain ⟨D, h1, h2⟩ := h
  obtain ⟨c, hrun, hat, _⟩ := h1.lookup_int K ht Tryd.underlying3 (zero3 _) hkey
  rw [h2] at hat
  have e : ∀ a b : Int, (DataW.lit (.int .i64 a) : DataW Unit) = .lit (.int .i64 b) → a = b := fun a b q => by
    injection q with q
    injection q with _ q
  rw [hrun, e _ _ hat]
theorem CntM.look0 (h : CntM k lit w B n l) (K : Keyed Tryd.prog k) {t : TypeId} (ht : Tryd.prog.underlying t = some (.map k 3)) {key : Value} {x : κ} (hkey : keyOf Tryd.prog k key = some (lit x)) {c : Int} (hc : (l.count x : Int) = c) :
    (Instr.lookup t (.map (some B)) key false).run Tryd.prog w = .ok (.int .i64 c) w := by rw [← hc]; exact h.look K ht hkey
theorem count_snoc (l : List κ) (x y : κ) : (l ++ [x]).count y = l.count y + if x = y then 1 else 0 := by
  rw [List.count_append, List.count_singleton]
  by_cases h : x = y <;> simp [h]
theorem wpList_count {ops : Array Oper} {rest : List Oper} {o : Oper} {a : Act} {Q : Exit → Act → World → Prop}
    (hg : o.guard = none) (m x v : Operand) (t : TypeId) (hop : o.op = Op.mapUpdate t m x v) (K : Keyed Tryd.prog k) (ht : Tryd.prog.underlying t = some (.map k 3)) (hm : a.eval m = .map (some B)) (h : CntM k lit w B n l) (hn : n < 1000) (hl : l.length ≤ 1000)
    (key : Value) (y : κ) (hx : a.eval x = key) (hkey : keyOf Tryd.prog k key = some (lit y)) (hinj : ∀ z, lit y = lit z → y = z) (hk : WideAt.IsKeyLit (lit y)) (c : Int) (hc : (l.count y : Int) + 1 = c) (hv : a.eval v = .int .i64 c)
    (hK : ∀ w', CntM k lit w' B (n + 1) (l ++ [y]) → w.grownBy w' (some B) → wpList Tryd.prog ops Q rest (a.put o.dst undef) w') :
    wpList Tryd.prog ops Q (o :: rest) a w := by
  obtain ⟨D, h1, h2⟩ := h
  subst hc
  have hc := List.count_le_length (a := y) (l := l)
  refine wpList_mapUpdate_own w hg m x v t hop k 3 K ht _ B n D hm h1 (by unfold maxLen; omega) key _ (lit y) hx hv hkey _ [] (plainElem_int Tryd.underlying3 (WalkArith.wf_i64 (by omega))) (fun w' hown hgrow => hK w' ⟨_, hown, fun z => ?_⟩ hgrow)
  rw [count_snoc]
  by_cases e : y = z
  · subst e
    rw [atKey_put_same (h1.tidy K).isMap hk, if_pos rfl]
    rfl
  · rw [atKey_put_other (fun q => e (hinj z q.symm)), h2, if_neg e, Nat.add_zero]
end
def litI (n : Int) : Lit := .int .i64 n
def litS (s : List UInt8) : Lit := .string s
theorem lawI : Keyed Tryd.prog 3 := int_keyed Tryd.underlying3
theorem lawS : Keyed Tryd.prog 9 := string_keyed Tryd.underlying9
theorem keyI {n : Int} (h0 : -9223372036854775808 ≤ n) (h1 : n < 9223372036854775808) : keyOf Tryd.prog 3 (.int .i64 n) = some (litI n) := keyOf_int_mk Tryd.underlying3 (WalkArith.wf_i64 (by omega))
theorem keyS {s : ByteArray} (h : s.size ≤ maxLen) : keyOf Tryd.prog 9 (.string s) = some (litS s.data.toList) := Go.WideMaps.keyOf_string_mk Tryd.underlying9 h
theorem injI (y : Int) : ∀ z, litI y = litI z → y = z := fun z h => by unfold litI at h; injection h
theorem injS (y : List UInt8) : ∀ z, litS y = litS z → y = z := fun z h => by unfold litS at h; injection h
theorem isI (y : Int) : WideAt.IsKeyLit (litI y) := by unfold litI; trivial
theorem isS (y : List UInt8) : WideAt.IsKeyLit (litS y) := by unfold litS; trivial
theorem count_zero {κ : Type} [DecidableEq κ] {l : List κ} {x : κ} (h : x ∉ l) : l.count x = 0 := List.count_eq_zero.2 h
theorem count_mem {κ : Type} [DecidableEq κ] {l : List κ} {x : κ} (h : x ∈ l) : 0 < l.count x ∧ l.count x ≤ l.length := ⟨List.count_pos_iff.2 h, List.count_le_length⟩
theorem count_none {κ : Type} [DecidableEq κ] [B : BEq κ] [LawfulBEq κ] {l : List κ} {x : κ} (h : @List.contains κ B l x = false) : ((@List.count κ instBEqOfDecidableEq x l : Nat) : Int) = 0 := by
  have hm : x ∉ l := by simpa using h
  have := count_zero hm
  omega
theorem count_some {κ : Type} [DecidableEq κ] [B : BEq κ] [LawfulBEq κ] {l : List κ} {x : κ} (h : @List.contains κ B l x = true) : ∃ c : Int, ((@List.count κ instBEqOfDecidableEq x l : Nat) : Int) = c ∧ 1 ≤ c ∧ c ≤ l.length := by
  have hm : x ∈ l := by simpa using h
  have := count_mem hm
  exact ⟨_, rfl, by omega, by omega⟩
theorem count_one {κ : Type} [DecidableEq κ] {l : List κ} {x : κ} {c : Int} (h : ((@List.count κ instBEqOfDecidableEq x l : Nat) : Int) = c) : ((@List.count κ instBEqOfDecidableEq x (l ++ [x]) : Nat) : Int) = c + 1 := by
  rw [count_snoc, if_pos rfl]
  omega
def fitsB (next : Int) (ids : List Int) (id : Int) : Bool := decide (1 ≤ id) && (decide (id < next) && !ids.contains id)
set_option maxRecDepth 100000 in
set_option maxHeartbeats 4000000 in
theorem fits_calls (id next : Int) (x0 x1 x2 x3 : Value) (BT BI M : Nat) (ids : List Int) (w : World) (hi0 : -9223372036854775808 ≤ id) (hi1 : id < 9223372036854775808)
    (hT : w.heap[BT]? = some (.cells #[x0, x1, x2, x3, .int .i64 next] 70 (0, 0))) (hI : w.heap[BI]? = some (.cells #[.map (some M)] 158 (0, 0))) (hM : CntM 3 litI w M ids.length ids) (hl : ids.length < 100) :
    Calls Tryd.prog 123 #[.int .i64 id, .pointer (some ⟨BI, 0, none⟩), .pointer (some ⟨BT, 0, none⟩)] w
      fun e w' => e = .returned (.bool (fitsB next ids id)) ∧ CntM 3 litI w' M (ids ++ [id]).length (ids ++ [id]) ∧ w.grownBy w' (some M) := by
  have hk := keyI hi0 hi1
  have hcl := List.count_le_length (a := id) (l := ids)
  have k4 : w.cell? ⟨BT, 4, none⟩ = some (.int .i64 next) := by simp [World.cell?, hT]
  have kI := cell_of_one hI
  have hneT : some BT ≠ some M := fun e => by
    injection e with e
    subst e
    obtain ⟨D, ⟨es, cl, hb, _⟩, _⟩ := hM
    rw [hT] at hb
    cases hb
  have hneI : some BI ≠ some M := fun e => by
    injection e with e
    subst e
    obtain ⟨D, ⟨es, cl, hb, _⟩, _⟩ := hM
    rw [hI] at hb
    cases hb
  have lT := lt_of_block hT
  have lI := lt_of_block hI
  have hF : fitsB next ids id = (decide (1 ≤ id) && (decide (id < next) && !ids.contains id)) := rfl
  generalize fitsB next ids id = R at hF ⊢
  have HT := Aside0.mk hT
  have HI := Aside0.mk hI
  have HM := Aside0.mk hM
  have HK := Lib.hid hk
  have HNT := Lib.hid hneT
  have HNI := Lib.hid hneI
  clear hT hI hM hk hneT hneI
  cases hc : ids.contains id with
  | false =>
    have e0 := count_none hc
    have e1 : _ = (1 : Int) := count_one e0
    rw [hc] at hF
    have hrun := HM.out.look0 lawI Tryd.underlying158 HK.out e0
    have E0 := Lib.hid e0
    have E1 := Lib.hid e1
    clear e0 e1 hc
    by_cases h1 : 1 ≤ id
    · have b1 := decide_eq_true h1
      by_cases h2 : id < next
      · have b2 := decide_eq_true h2
        rw [b1, b2] at hF
        have HF := Lib.hid hF
        clear hF
        go_enter Tryd.func123, Tryd.ntmps123
        go_wp2_with (at_mapUpdate; refine wpList_count rfl _ _ _ 158 rfl lawI Tryd.underlying158 rfl HM.out (by omega) (by omega) _ id rfl HK.out (injI id) (isI id) _ (by rw [E0.out] <;> rfl) rfl ?_; intro w1 hm1 hg1; have k4' := (hg1.cell_far ⟨BT, 4, none⟩ lT HNT.out).trans k4; have kI' := (hg1.cell_far ⟨BI, 0, none⟩ lI HNI.out).trans kI; have hrun1 := hm1.look0 lawI Tryd.underlying158 HK.out E1.out; clear hrun; have HM1 := Aside0.mk hm1; have HG1 := Aside0.mk hg1; clear hm1 hg1)
        go_ret
        exact ⟨by rw [HF.out]; rfl, by first | exact HM1.out | (rw [List.length_append]; exact HM1.out), HG1.out⟩
      · have b2 := decide_eq_false h2
        rw [b1, b2] at hF
        have HF := Lib.hid hF
        clear hF
        go_enter Tryd.func123, Tryd.ntmps123
        go_wp2_with (at_mapUpdate; refine wpList_count rfl _ _ _ 158 rfl lawI Tryd.underlying158 rfl HM.out (by omega) (by omega) _ id rfl HK.out (injI id) (isI id) _ (by rw [E0.out] <;> rfl) rfl ?_; intro w1 hm1 hg1; have k4' := (hg1.cell_far ⟨BT, 4, none⟩ lT HNT.out).trans k4; have kI' := (hg1.cell_far ⟨BI, 0, none⟩ lI HNI.out).trans kI; have hrun1 := hm1.look0 lawI Tryd.underlying158 HK.out E1.out; clear hrun; have HM1 := Aside0.mk hm1; have HG1 := Aside0.mk hg1; clear hm1 hg1)
        go_ret
        exact ⟨by rw [HF.out]; rfl, by first | exact HM1.out | (rw [List.length_append]; exact HM1.out), HG1.out⟩
    · have b1 := decide_eq_false h1
      rw [b1] at hF
      have HF := Lib.hid hF
      clear hF
      go_enter Tryd.func123, Tryd.ntmps123
      go_wp2_with (at_mapUpdate; refine wpList_count rfl _ _ _ 158 rfl lawI Tryd.underlying158 rfl HM.out (by omega) (by omega) _ id rfl HK.out (injI id) (isI id) _ (by rw [E0.out] <;> rfl) rfl ?_; intro w1 hm1 hg1; have k4' := (hg1.cell_far ⟨BT, 4, none⟩ lT HNT.out).trans k4; have kI' := (hg1.cell_far ⟨BI, 0, none⟩ lI HNI.out).trans kI; have hrun1 := hm1.look0 lawI Tryd.underlying158 HK.out E1.out; clear hrun; have HM1 := Aside0.mk hm1; have HG1 := Aside0.mk hg1; clear hm1 hg1)
      go_ret
      exact ⟨by rw [HF.out]; rfl, by first | exact HM1.out | (rw [List.length_append]; exact HM1.out), HG1.out⟩
  | true =>
    obtain ⟨c, e0, hc1, hc2'⟩ := count_some hc
    have hc2 : c ≤ 100 := by omega
    have hc3 : ¬ c + 1 = 1 := by omega
    have hc4 : (c + 1 == 1) = false := beq_eq_false_iff_ne.mpr hc3
    have e1 := count_one e0
    rw [hc] at hF
    have hrun := HM.out.look0 lawI Tryd.underlying158 HK.out e0
    have E0 := Lib.hid e0
    have E1 := Lib.hid e1
    clear e0 e1 hc hcl hc3 hc2'
    by_cases h1 : 1 ≤ id
    · have b1 := decide_eq_true h1
      by_cases h2 : id < next
      · have b2 := decide_eq_true h2
        rw [b1, b2] at hF
        have HF := Lib.hid hF
        clear hF
        go_enter Tryd.func123, Tryd.ntmps123
        go_wp2_with (at_mapUpdate; refine wpList_count rfl _ _ _ 158 rfl lawI Tryd.underlying158 rfl HM.out (by omega) (by omega) _ id rfl HK.out (injI id) (isI id) _ (by rw [E0.out] <;> rfl) rfl ?_; intro w1 hm1 hg1; have k4' := (hg1.cell_far ⟨BT, 4, none⟩ lT HNT.out).trans k4; have kI' := (hg1.cell_far ⟨BI, 0, none⟩ lI HNI.out).trans kI; have hrun1 := hm1.look0 lawI Tryd.underlying158 HK.out E1.out; clear hrun; have HM1 := Aside0.mk hm1; have HG1 := Aside0.mk hg1; clear hm1 hg1)
        go_ret
        exact ⟨by rw [HF.out]; rfl, by first | exact HM1.out | (rw [List.length_append]; exact HM1.out), HG1.out⟩
      · have b2 := decide_eq_false h2
        rw [b1, b2] at hF
        have HF := Lib.hid hF
        clear hF
        go_enter Tryd.func123, Tryd.ntmps123
        go_wp2_with (at_mapUpdate; refine wpList_count rfl _ _ _ 158 rfl lawI Tryd.underlying158 rfl HM.out (by omega) (by omega) _ id rfl HK.out (injI id) (isI id) _ (by rw [E0.out] <;> rfl) rfl ?_; intro w1 hm1 hg1; have k4' := (hg1.cell_far ⟨BT, 4, none⟩ lT HNT.out).trans k4; have kI' := (hg1.cell_far ⟨BI, 0, none⟩ lI HNI.out).trans kI; have hrun1 := hm1.look0 lawI Tryd.underlying158 HK.out E1.out; clear hrun; have HM1 := Aside0.mk hm1; have HG1 := Aside0.mk hg1; clear hm1 hg1)
        go_ret
        exact ⟨by rw [HF.out]; rfl, by first | exact HM1.out | (rw [List.length_append]; exact HM1.out), HG1.out⟩
    · have b1 := decide_eq_false h1
      rw [b1] at hF
      have HF := Lib.hid hF
      clear hF
      go_enter Tryd.func123, Tryd.ntmps123
      go_wp2_with (at_mapUpdate; refine wpList_count rfl _ _ _ 158 rfl lawI Tryd.underlying158 rfl HM.out (by omega) (by omega) _ id rfl HK.out (injI id) (isI id) _ (by rw [E0.out] <;> rfl) rfl ?_; intro w1 hm1 hg1; have k4' := (hg1.cell_far ⟨BT, 4, none⟩ lT HNT.out).trans k4; have kI' := (hg1.cell_far ⟨BI, 0, none⟩ lI HNI.out).trans kI; have hrun1 := hm1.look0 lawI Tryd.underlying158 HK.out E1.out; clear hrun; have HM1 := Aside0.mk hm1; have HG1 := Aside0.mk hg1; clear hm1 hg1)
      go_ret
      exact ⟨by rw [HF.out]; rfl, by first | exact HM1.out | (rw [List.length_append]; exact HM1.out), HG1.out⟩
end Go.Proofs.YtjgomlcdmpcoaaaDoor.H
namespace Go.Proofs.YtjgomlcdmpcoaaaDoor.H
open Go.RowKit Go.Proofs.YtjgomlcdmpcoaaaDoorW.PrintWords Go.Proofs.YtjgomlcdmpcoaaaDoorW.PrintLast Go.Proofs.YtjgomlcdmpcoaaaDoorW.PrintMore
open Go.Proofs.YtjgomlcdmpcoaaaDoor.D Go.Proofs.YtjgomlcdmpcoaaaDoor
set_option linter.unusedVariables false
set_option linter.unusedSimpArgs false
abbrev nm (s : ByteArray) : List UInt8 := s.data.toList
def tcolsB (next : Int) : List Int → List (List UInt8) → List S75 → Bool
  | _, _, [] => true
  | ids, names, c :: r => fitsB next ids c.f0 && (!names.contains (nm c.f1) && (columnB c && tcolsB next (ids ++ [c.f0]) (names ++ [nm c.f1]) r))
def tindsB (t : S70) : List Int → List (List UInt8) → List S98 → Bool
  | _, _, [] => true
  | ids, names, x :: r => fitsB t.f4 ids x.f0 && (!names.contains (nm x.f1) && (indexB t x && tindsB t (ids ++ [x.f0]) (names ++ [nm x.f1]) r))
def keyB (t : S70) : Bool := match t.f2 with
  | [] => false
  | c :: _ => c.f3 == 4 && (c.f4 == 4 && c.f5.f0 == 0)
theorem keyB_of (t : S70) (h : 0 < t.f2.length) : keyB t = (t.f2[0].f3 == 4 && (t.f2[0].f4 == 4 && t.f2[0].f5.f0 == 0)) := by
  obtain ⟨f0, f1, f2, f3, f4⟩ := t
  cases f2 with
  | nil => exact absurd h (by simp)
  | cons c r => rfl
def tableB (t : S70) : Bool := decide (1 ≤ t.f4) && (decide (t.f4 ≤ 60000) && (decide (1 ≤ t.f2.length) && (decide (t.f2.length ≤ 8) && (decide (t.f3.length ≤ 4) && (nameB t.f1 && (tcolsB t.f4 [] [] t.f2 && (tindsB t (t.f2.map (·.f0)) [] t.f3 && keyB t)))))))
def ColWf (c : S75) : Prop := -9223372036854775808 ≤ c.f0 ∧ c.f0 < 9223372036854775808 ∧ c.f1.size ≤ maxLen ∧ ValWf c.f5
def IndWf (x : S98) : Prop := -9223372036854775808 ≤ x.f0 ∧ x.f0 < 9223372036854775808 ∧ x.f1.size ≤ maxLen
def TabWf (t : S70) : Prop := t.f1.size ≤ maxLen ∧ (∀ c ∈ t.f2, ColWf c) ∧ ∀ x ∈ t.f3, IndWf x
structure TSt (w wr : World) (H : Nat) (bx : Array Value) (ids : List Int) (cols inds : List (List UInt8)) : Prop where
  lt : w.heap.size < H
  below : Below w.heap.size w wr
  box : wr.heap[w.heap.size]? = some (.cells bx 70 (0, 0))
  idv : wr.heap[H + 1 + 1 + 1]? = some (.cells #[.map (some H)] 158 (0, 0))
  m0 : CntM 3 litI wr H ids.length ids
  m1 : CntM 9 litS wr (H + 1) cols.length cols
  m2 : CntM 9 litS wr (H + 1 + 1) inds.length inds
section
variable {w wr w' : World} {H : Nat} {bx : Array Value} {ids ids' : List Int} {cols cols' inds inds' : List (List UInt8)}
theorem TSt.size (h : TSt w wr H bx ids cols inds) : H + 1 + 1 + 1 < wr.heap.size := lt_of_block h.idv
theorem TSt.step (h : TSt w wr H bx ids cols inds) (hb : Below wr.heap.size wr w') : TSt w w' H bx ids cols inds :=
  ⟨h.lt, below_then h.below h.below.size hb, blk_below h.box hb, blk_below h.idv hb, h.m0.below hb, h.m1.below hb, h.m2.below hb⟩
theorem grown_base {b : Nat} (h : TSt w wr H bx ids cols inds) (hg : wr.grownBy w' (some b)) (hb : w.heap.size ≤ b) : Below w.heap.size w w' :=
  h.below.grown hg h.below.size (fun k e => by injection e with e; omega)
theorem TSt.up0 (h : TSt w wr H bx ids cols inds) (hm : CntM 3 litI w' H ids'.length ids') (hg : wr.grownBy w' (some H)) : TSt w w' H bx ids' cols inds :=
  ⟨h.lt, grown_base h hg (Nat.le_of_lt h.lt), (hg.block _ (lt_of_block h.box) (fun e => by have := h.lt; injection e with e; omega)).trans h.box, (hg.block _ (lt_of_block h.idv) (fun e => by injection e with e; omega)).trans h.idv, hm,
    h.m1.kept hg (fun e => by injection e with e; omega), h.m2.kept hg (fun e => by injection e with e; omega)⟩
theorem TSt.up1 (h : TSt w wr H bx ids cols inds) (hm : CntM 9 litS w' (H + 1) cols'.length cols') (hg : wr.grownBy w' (some (H + 1))) : TSt w w' H bx ids cols' inds :=
  ⟨h.lt, grown_base h hg (by have := h.lt; omega), (hg.block _ (lt_of_block h.box) (fun e => by have := h.lt; injection e with e; omega)).trans h.box, (hg.block _ (lt_of_block h.idv) (fun e => by injection e with e; omega)).trans h.idv,
    h.m0.kept hg (fun e => by injection e with e; omega), hm, h.m2.kept hg (fun e => by injection e with e; omega)⟩
theorem TSt.up2 (h : TSt w wr H bx ids cols inds) (hm : CntM 9 litS w' (H + 1 + 1) inds'.length inds') (hg : wr.grownBy w' (some (H + 1 + 1))) : TSt w w' H bx ids cols inds' :=
  ⟨h.lt, grown_base h hg (by have := h.lt; omega), (hg.block _ (lt_of_block h.box) (fun e => by have := h.lt; injection e with e; omega)).trans h.box, (hg.block _ (lt_of_block h.idv) (fun e => by injection e with e; omega)).trans h.idv,
    h.m0.kept hg (fun e => by injection e with e; omega), h.m1.kept hg (fun e => by injection e with e; omega), hm⟩
theorem TSt.new {w1 : World} (hb : Below w.heap.size w w1) (hbox : w1.heap[w.heap.size]? = some (.cells bx 70 (0, 0))) :
    TSt w ((((w1.alloc (.map #[] 0)).alloc (.map #[] 0)).alloc (.map #[] 0)).alloc (.cells #[.map (some w1.heap.size)] 158)) w1.heap.size bx [] [] [] := by
  have a1 := below_alloc (Below.refl _ w1) (.map #[] 0)
  have a2 := below_alloc (Below.refl _ (w1.alloc (.map #[] 0))) (.map #[] 0)
  have a3 := below_alloc (Below.refl _ ((w1.alloc (.map #[] 0)).alloc (.map #[] 0))) (.map #[] 0)
  have a4 := below_alloc (Below.refl _ (((w1.alloc (.map #[] 0)).alloc (.map #[] 0)).alloc (.map #[] 0))) (.cells #[.map (some w1.heap.size)] 158)
  have s1 : (w1.alloc (.map #[] 0)).heap.size = w1.heap.size + 1 := by simp
  have s2 : ((w1.alloc (.map #[] 0)).alloc (.map #[] 0)).heap.size = w1.heap.size + 1 + 1 := by simp
  have s3 : (((w1.alloc (.map #[] 0)).alloc (.map #[] 0)).alloc (.map #[] 0)).heap.size = w1.heap.size + 1 + 1 + 1 := by simp
  refine ⟨lt_of_block hbox, ?_, ?_, ?_, ?_, ?_, ?_⟩
  · exact below_then (below_then (below_then (below_then hb hb.size a1) (by rw [s1]; have := hb.size; omega) a2) (by rw [s2]; have := hb.size; omega) a3) (by rw [s3]; have := hb.size; omega) a4
  · exact blk_below (blk_below (blk_below (blk_below hbox a1) a2) a3) a4
  · have := heap_alloc_new (((w1.alloc (.map #[] 0)).alloc (.map #[] 0)).alloc (.map #[] 0)) (.cells #[.map (some w1.heap.size)] 158)
    rw [s3] at this
    exact this
  · exact (((CntM.new 3 litI w1).below a2).below a3).below a4
  · have := CntM.new 9 litS (w1.alloc (.map #[] 0))
    rw [s1] at this
    exact (this.below a3).below a4
  · have := CntM.new 9 litS ((w1.alloc (.map #[] 0)).alloc (.map #[] 0))
    rw [s2] at this
    exact this.below a4
end
set_option maxRecDepth 100000 in
set_option maxHeartbeats 16000000 in
theorem table_may (t : S70) (hwf : TabWf t) (A2 : Option Addr) (c2 : Nat) (A3 : Option Addr) (c3 : Nat) (w : World) (hG : GL w)
    (hc2 : t.f2.length ≤ c2) (g2 : k75.C w A2 t.f2.length t.f2) (hc3 : t.f3.length ≤ c3) (g3 : k98.C w A3 t.f3.length t.f3) :
    Calls Tryd.prog 74 #[.agg #[.int .i64 t.f0, .string t.f1, .slice A2 t.f2.length c2, .slice A3 t.f3.length c3, .int .i64 t.f4]] w fun e w' => e = .returned (.bool (tableB t)) ∧ Below w.heap.size w w' := by
  have HN := Lib.hid nameCalls
  have HG := Aside0.mk hG
  have HC := Aside0.mk g2
  have HX := Aside0.mk g3
  have HW := Aside0.mk hwf
  have hmm := @run_makeMap Tryd.prog
  have hmf : ∀ (fn : Fn) (first cap : Array Value) (w : World), (Instr.makeFunc fn first cap).run Tryd.prog w = .ok (.func fn first cap) w := fun _ _ _ _ => rfl
  have big2 := g2.2.1
  have big3 := g3.2.1
  have hI : tableB t = (decide (1 ≤ t.f4) && (decide (t.f4 ≤ 60000) && (decide (1 ≤ t.f2.length) && (decide (t.f2.length ≤ 8) && (decide (t.f3.length ≤ 4) && (nameB t.f1 && (tcolsB t.f4 [] [] t.f2 && (tindsB t (t.f2.map (·.f0)) [] t.f3 && keyB t)))))))) := rfl
  generalize tableB t = R at hI ⊢
  obtain ⟨nb, hb⟩ : ∃ nb, nameB t.f1 = nb := ⟨_, rfl⟩
  rw [hb] at hI
  have HNB := Lib.hid hb
  clear hb hG g2 g3 hwf
  have E1 : decide (t.f4 < 1) = !decide (1 ≤ t.f4) := by by_cases h : 1 ≤ t.f4 <;> simp [h] <;> omega
  have E2 : decide (60000 < t.f4) = !decide (t.f4 ≤ 60000) := by by_cases h : t.f4 ≤ 60000 <;> simp [h] <;> omega
  have E3 : decide ((t.f2.length : Int) < 1) = !decide (1 ≤ t.f2.length) := by by_cases h : 1 ≤ t.f2.length <;> simp [h] <;> omega
  have E4 : decide (8 < (t.f2.length : Int)) = !decide (t.f2.length ≤ 8) := by by_cases h : t.f2.length ≤ 8 <;> simp [h] <;> omega
  have E5 : decide (4 < (t.f3.length : Int)) = !decide (t.f3.length ≤ 4) := by by_cases h : t.f3.length ≤ 4 <;> simp [h] <;> omega
  cases q1 : decide (1 ≤ t.f4) with
  | false =>
    rw [q1] at E1 hI
    simp only [Bool.not_false, Bool.not_true] at E1
    have HI := Lib.hid hI
    clear hI q1 E2 E3 E4 E5
    go_enter Tryd.func74, Tryd.ntmps74
    go_wp2
    go_ret
    exact ⟨by rw [HI.out]; rfl, below_alloc (Below.refl _ _) _⟩
  | true =>
    rw [q1] at E1 hI
    cases q2 : decide (t.f4 ≤ 60000) with
    | false =>
      rw [q2] at E2 hI
      simp only [Bool.not_false, Bool.not_true] at E1 E2
      have HI := Lib.hid hI
      clear hI q1 q2 E3 E4 E5
      go_enter Tryd.func74, Tryd.ntmps74
      go_wp2
      go_ret
      exact ⟨by rw [HI.out]; rfl, below_alloc (Below.refl _ _) _⟩
    | true =>
      rw [q2] at E2 hI
      cases q3 : decide (1 ≤ t.f2.length) with
      | false =>
        rw [q3] at E3 hI
        simp only [Bool.not_false, Bool.not_true] at E1 E2 E3
        have HI := Lib.hid hI
        clear hI q1 q2 q3 E4 E5
        go_enter Tryd.func74, Tryd.ntmps74
        go_wp2
        go_ret
        exact ⟨by rw [HI.out]; rfl, below_alloc (Below.refl _ _) _⟩
      | true =>
        rw [q3] at E3 hI
        cases q4 : decide (t.f2.length ≤ 8) with
        | false =>
          rw [q4] at E4 hI
          simp only [Bool.not_false, Bool.not_true] at E1 E2 E3 E4
          have HI := Lib.hid hI
          clear hI q1 q2 q3 q4 E5
          go_enter Tryd.func74, Tryd.ntmps74
          go_wp2
          go_ret
          exact ⟨by rw [HI.out]; rfl, below_alloc (Below.refl _ _) _⟩
        | true =>
          rw [q4] at E4 hI
          cases q5 : decide (t.f3.length ≤ 4) with
          | false =>
            rw [q5] at E5 hI
            simp only [Bool.not_false, Bool.not_true] at E1 E2 E3 E4 E5
            have HI := Lib.hid hI
            clear hI q1 q2 q3 q4 q5
            go_enter Tryd.func74, Tryd.ntmps74
            go_wp2
            go_ret
            exact ⟨by rw [HI.out]; rfl, below_alloc (Below.refl _ _) _⟩
          | true =>
            rw [q5] at E5 hI
            simp only [Bool.not_false, Bool.not_true] at E1 E2 E3 E4 E5
            simp only [Bool.true_and] at hI
            have z3 := of_decide_eq_true q3
            have z4 := of_decide_eq_true q4
            have z5 := of_decide_eq_true q5
            clear q1 q2 q3 q4 q5
            cases nb with
            | false =>
              have HI := Lib.hid hI
              clear hI
              go_enter Tryd.func74, Tryd.ntmps74
              go_wp2_with (go_at_call 33; refine (HN.out _ _ (HG.out.of_below (by repeat (first | exact Below.refl _ _ | apply below_alloc)))).mono ?_; rintro e w1 ⟨rfl, hb1⟩; rw [HNB.out])
              go_ret
              exact ⟨by rw [HI.out]; rfl, below_then (below_alloc (Below.refl _ _) _) (by simp) hb1⟩
            | true =>
              rw [Bool.true_and] at hI
              have HI := Lib.hid hI
              clear hI
              go_enter Tryd.func74, Tryd.ntmps74
              go_wp2_with fail
              refine (HN.out _ _ (HG.out.of_below (by repeat (first | exact Below.refl _ _ | apply below_alloc)))).mono ?_
              rintro e w1 ⟨rfl, hb1⟩
              rw [HNB.out]
              have hbx := blk_below (heap_alloc_new w (.cells #[.int .i64 t.f0, .string t.f1, .slice A2 t.f2.length c2, .slice A3 t.f3.length c3, .int .i64 t.f4] 70)) hb1
              have hbw := below_then (below_alloc (Below.refl _ w) (.cells #[.int .i64 t.f0, .string t.f1, .slice A2 t.f2.length c2, .slice A3 t.f3.length c3, .int .i64 t.f4] 70)) (by simp) hb1
              have HT := Aside0.mk (TSt.new hbw hbx)
              have kb := (Go.Proofs.YtjgomlcdmpcoaaaDoorW.PrintWords.blk_cell HT.out.box 2).trans (rfl : _ = some (Value.slice A2 t.f2.length c2))
              have hsz : w.heap.size < w1.heap.size := lt_of_block hbx
              clear hb1 hbx hbw E1 E2 E3 E4 E5
              go_wp2_with fail
              go_loopg [8, 51] t.f2.length (fun gg _ u wr => ∃ kk : Nat, kk ≤ t.f2.length ∧ t.f2.length - kk ≤ gg ∧ u = .int .i64 kk ∧ Aside0 (TSt w wr w1.heap.size #[.int .i64 t.f0, .string t.f1, .slice A2 t.f2.length c2, .slice A3 t.f3.length c3, .int .i64 t.f4] ((t.f2.take kk).map fun c => c.f0) ((t.f2.take kk).map fun c => nm c.f1) []) ∧ Aside0 (tcolsB t.f4 [] [] t.f2 = tcolsB t.f4 ((t.f2.take kk).map fun c => c.f0) ((t.f2.take kk).map fun c => nm c.f1) (t.f2.drop kk)))
              case atStart => exact ⟨0, Nat.zero_le _, by omega, rfl, ⟨by first | exact HT.out | (simpa using HT.out)⟩, ⟨by simp⟩⟩
              case round =>
                obtain ⟨kk, hkk, hgg, rfl, HT', HCI'⟩ := hrel
                clear HT kb
                by_cases hlt : kk < t.f2.length
                · have hltz : (kk : Int) < (t.f2.length : Int) := by omega
                  have hszr : w1.heap.size + 1 + 1 + 1 < wr.heap.size := HT'.out.size
                  obtain ⟨ad, eA, h0, h1, h2, h3, h4, h5, h6, h7, h8⟩ := at_T75 (Kd.C_below HC.out HT'.out.below) (kk : Int) (by omega) (by omega)
                  have hx : rd_T75 t.f2 (kk : Int) = t.f2[kk] := by unfold rd_T75; simp [List.getD, hlt]
                  rw [hx] at h0 h1 h2 h3 h4 h5 h6 h7 h8
                  simp only [Int.toNat_natCast] at h0 h1 h2 h3 h4 h5 h6 h7 h8
                  cases eA
                  have hW := HW.out.2.1 _ (List.getElem_mem hlt)
                  have hd : t.f2.drop kk = t.f2[kk] :: t.f2.drop (kk + 1) := List.drop_eq_getElem_cons hlt
                  have htk : t.f2.take (kk + 1) = t.f2.take kk ++ [t.f2[kk]] := List.take_succ_eq_append_getElem hlt
                  rw [hd] at HCI'
                  generalize t.f2[kk] = c at h0 h1 h2 h3 h4 h5 h6 h7 h8 hW hd htk HCI'
                  have HWC := Lib.hid hW
                  obtain ⟨ids, hids⟩ : ∃ ids, ((t.f2.take kk).map fun c => c.f0) = ids := ⟨_, rfl⟩
                  obtain ⟨nsC, hns⟩ : ∃ l_, ((t.f2.take kk).map fun c => nm c.f1) = l_ := ⟨_, rfl⟩
                  have hTI := Lib.hid (show ((t.f2.take (kk + 1)).map fun c => c.f0) = ids ++ [c.f0] by rw [htk, ← hids]; simp)
                  have hTN := Lib.hid (show ((t.f2.take (kk + 1)).map fun c => nm c.f1) = nsC ++ [nm c.f1] by rw [htk, ← hns]; simp)
                  rw [hids, hns] at HT' HCI'
                  have hil : ids.length < 50 := by rw [← hids]; simp; omega
                  have hnl : nsC.length < 50 := by rw [← hns]; simp; omega
                  have hst : tcolsB t.f4 ids nsC (c :: t.f2.drop (kk + 1)) = (fitsB t.f4 ids c.f0 && (!nsC.contains (nm c.f1) && (columnB c && tcolsB t.f4 (ids ++ [c.f0]) (nsC ++ [nm c.f1]) (t.f2.drop (kk + 1))))) := rfl
                  have HCI := Lib.hid (HCI'.out.trans hst)
                  have HKS := Lib.hid (keyS hW.2.2.1)
                  have HTB := Aside0.mk (HT'.out.step (below_alloc (Below.refl _ wr) (.cells #[.int .i64 c.f0, .string c.f1, .int .i64 c.f2, .int .i64 c.f3, .int .i64 c.f4, .int .i64 c.f5.f0, .int .i64 c.f5.f1, .int .u64 c.f5.f2, .string c.f5.f3] 75)))
                  clear hx hW hd htk hids hns hst HCI' HT'
                  cases hf : fitsB t.f4 ids c.f0 with
                  | false =>
                    cases hq : nsC.contains (nm c.f1) with
                    | false =>
                      have e0 := count_none hq
                      have e1 : _ = (1 : Int) := count_one e0
                      have hrun := HTB.out.m1.look0 lawS Tryd.underlying108 HKS.out e0
                      have E0 := Lib.hid e0
                      have E1 := Lib.hid e1
                      have HQ := Lib.hid hq
                      have HF := Lib.hid hf
                      clear e0 e1 hq hf
                      go_wp2_with (first | (at_mapUpdate; refine wpList_count rfl _ _ _ 108 rfl lawS Tryd.underlying108 rfl HTB.out.m1 (by omega) (by omega) _ (nm c.f1) rfl HKS.out (injS _) (isS _) _ (by rw [E0.out] <;> rfl) rfl ?_; intro w2 hm2 hg2; have T2 := Aside0.mk (HTB.out.up1 hm2.snoc hg2); have B2_ := Aside0.mk ((hg2.block _ (by simp) (fun e => by injection e with e; have := hszr; omega)).trans (heap_alloc_new wr (.cells #[.int .i64 c.f0, .string c.f1, .int .i64 c.f2, .int .i64 c.f3, .int .i64 c.f4, .int .i64 c.f5.f0, .int .i64 c.f5.f1, .int .u64 c.f5.f2, .string c.f5.f3] 75))); have k0_ := (Go.Proofs.YtjgomlcdmpcoaaaDoorW.PrintWords.blk_cell B2_.out 0).trans (rfl : _ = some (Value.int .i64 c.f0)); clear hrun hm2 hg2) | (go_at_call 123; refine (fits_calls c.f0 t.f4 _ _ _ _ w.heap.size (w1.heap.size + 1 + 1 + 1) w1.heap.size ids w2 HWC.out.1 HWC.out.2.1 T2.out.box T2.out.idv T2.out.m0 (by omega)).mono ?_; rintro e w3 ⟨rfl, hm3, hg3⟩; rw [HF.out]; have T3 := Aside0.mk (T2.out.up0 hm3 hg3); have B3_ := Aside0.mk ((hg3.block _ (lt_of_block B2_.out) (fun e => by injection e with e; have := hszr; omega)).trans B2_.out); clear k0_; skip; clear hm3 hg3))
                      go_ret
                      exact ⟨by rw [HI.out, HCI.out, HF.out]; rfl, T3.out.below⟩
                    | true =>
                      obtain ⟨cq, e0, cq1, cq2'⟩ := count_some hq
                      have cq2 : cq ≤ 100 := by omega
                      have cq3 : 1 < cq + 1 := by omega
                      have e1 := count_one e0
                      clear cq2'
                      have hrun := HTB.out.m1.look0 lawS Tryd.underlying108 HKS.out e0
                      have E0 := Lib.hid e0
                      have E1 := Lib.hid e1
                      have HQ := Lib.hid hq
                      have HF := Lib.hid hf
                      clear e0 e1 hq hf
                      go_wp2_with (first | (at_mapUpdate; refine wpList_count rfl _ _ _ 108 rfl lawS Tryd.underlying108 rfl HTB.out.m1 (by omega) (by omega) _ (nm c.f1) rfl HKS.out (injS _) (isS _) _ (by rw [E0.out] <;> rfl) rfl ?_; intro w2 hm2 hg2; have T2 := Aside0.mk (HTB.out.up1 hm2.snoc hg2); have B2_ := Aside0.mk ((hg2.block _ (by simp) (fun e => by injection e with e; have := hszr; omega)).trans (heap_alloc_new wr (.cells #[.int .i64 c.f0, .string c.f1, .int .i64 c.f2, .int .i64 c.f3, .int .i64 c.f4, .int .i64 c.f5.f0, .int .i64 c.f5.f1, .int .u64 c.f5.f2, .string c.f5.f3] 75))); have k0_ := (Go.Proofs.YtjgomlcdmpcoaaaDoorW.PrintWords.blk_cell B2_.out 0).trans (rfl : _ = some (Value.int .i64 c.f0)); clear hrun hm2 hg2) | (go_at_call 123; refine (fits_calls c.f0 t.f4 _ _ _ _ w.heap.size (w1.heap.size + 1 + 1 + 1) w1.heap.size ids w2 HWC.out.1 HWC.out.2.1 T2.out.box T2.out.idv T2.out.m0 (by omega)).mono ?_; rintro e w3 ⟨rfl, hm3, hg3⟩; rw [HF.out]; have T3 := Aside0.mk (T2.out.up0 hm3 hg3); have B3_ := Aside0.mk ((hg3.block _ (lt_of_block B2_.out) (fun e => by injection e with e; have := hszr; omega)).trans B2_.out); clear k0_; skip; clear hm3 hg3))
                      go_ret
                      exact ⟨by rw [HI.out, HCI.out, HF.out]; rfl, T3.out.below⟩
                  | true =>
                    cases hq : nsC.contains (nm c.f1) with
                    | true =>
                      obtain ⟨cq, e0, cq1, cq2'⟩ := count_some hq
                      have cq2 : cq ≤ 100 := by omega
                      have cq3 : 1 < cq + 1 := by omega
                      have e1 := count_one e0
                      clear cq2'
                      have hrun := HTB.out.m1.look0 lawS Tryd.underlying108 HKS.out e0
                      have E0 := Lib.hid e0
                      have E1 := Lib.hid e1
                      have HQ := Lib.hid hq
                      have HF := Lib.hid hf
                      clear e0 e1 hq hf
                      go_wp2_with (first | (at_mapUpdate; refine wpList_count rfl _ _ _ 108 rfl lawS Tryd.underlying108 rfl HTB.out.m1 (by omega) (by omega) _ (nm c.f1) rfl HKS.out (injS _) (isS _) _ (by rw [E0.out] <;> rfl) rfl ?_; intro w2 hm2 hg2; have T2 := Aside0.mk (HTB.out.up1 hm2.snoc hg2); have B2_ := Aside0.mk ((hg2.block _ (by simp) (fun e => by injection e with e; have := hszr; omega)).trans (heap_alloc_new wr (.cells #[.int .i64 c.f0, .string c.f1, .int .i64 c.f2, .int .i64 c.f3, .int .i64 c.f4, .int .i64 c.f5.f0, .int .i64 c.f5.f1, .int .u64 c.f5.f2, .string c.f5.f3] 75))); have k0_ := (Go.Proofs.YtjgomlcdmpcoaaaDoorW.PrintWords.blk_cell B2_.out 0).trans (rfl : _ = some (Value.int .i64 c.f0)); clear hrun hm2 hg2) | (go_at_call 123; refine (fits_calls c.f0 t.f4 _ _ _ _ w.heap.size (w1.heap.size + 1 + 1 + 1) w1.heap.size ids w2 HWC.out.1 HWC.out.2.1 T2.out.box T2.out.idv T2.out.m0 (by omega)).mono ?_; rintro e w3 ⟨rfl, hm3, hg3⟩; rw [HF.out]; have T3 := Aside0.mk (T2.out.up0 hm3 hg3); have B3_ := Aside0.mk ((hg3.block _ (lt_of_block B2_.out) (fun e => by injection e with e; have := hszr; omega)).trans B2_.out); clear k0_; have k0_ := (Go.Proofs.YtjgomlcdmpcoaaaDoorW.PrintWords.blk_cell B3_.out 0).trans (rfl : _ = some (Value.int .i64 c.f0)); have k1_ := (Go.Proofs.YtjgomlcdmpcoaaaDoorW.PrintWords.blk_cell B3_.out 1).trans (rfl : _ = some (Value.string c.f1)); have k2_ := (Go.Proofs.YtjgomlcdmpcoaaaDoorW.PrintWords.blk_cell B3_.out 2).trans (rfl : _ = some (Value.int .i64 c.f2)); have k3_ := (Go.Proofs.YtjgomlcdmpcoaaaDoorW.PrintWords.blk_cell B3_.out 3).trans (rfl : _ = some (Value.int .i64 c.f3)); have k4_ := (Go.Proofs.YtjgomlcdmpcoaaaDoorW.PrintWords.blk_cell B3_.out 4).trans (rfl : _ = some (Value.int .i64 c.f4)); have k5_ := (Go.Proofs.YtjgomlcdmpcoaaaDoorW.PrintWords.blk_cell B3_.out 5).trans (rfl : _ = some (Value.int .i64 c.f5.f0)); have k6_ := (Go.Proofs.YtjgomlcdmpcoaaaDoorW.PrintWords.blk_cell B3_.out 6).trans (rfl : _ = some (Value.int .i64 c.f5.f1)); have k7_ := (Go.Proofs.YtjgomlcdmpcoaaaDoorW.PrintWords.blk_cell B3_.out 7).trans (rfl : _ = some (Value.int .u64 c.f5.f2)); have k8_ := (Go.Proofs.YtjgomlcdmpcoaaaDoorW.PrintWords.blk_cell B3_.out 8).trans (rfl : _ = some (Value.string c.f5.f3)); have hrun3 := T3.out.m1.look0 lawS Tryd.underlying108 HKS.out E1.out; clear hm3 hg3))
                      go_ret
                      exact ⟨by rw [HI.out, HCI.out, HF.out, HQ.out]; rfl, T3.out.below⟩
                    | false =>
                      cases hb : columnB c with
                      | false =>
                        have e0 := count_none hq
                        have e1 : _ = (1 : Int) := count_one e0
                        have hrun := HTB.out.m1.look0 lawS Tryd.underlying108 HKS.out e0
                        have E0 := Lib.hid e0
                        have E1 := Lib.hid e1
                        have HQ := Lib.hid hq
                        have HF := Lib.hid hf
                        have HB := Lib.hid hb
                        clear e0 e1 hq hf hb
                        go_wp2_with (first | (at_mapUpdate; refine wpList_count rfl _ _ _ 108 rfl lawS Tryd.underlying108 rfl HTB.out.m1 (by omega) (by omega) _ (nm c.f1) rfl HKS.out (injS _) (isS _) _ (by rw [E0.out] <;> rfl) rfl ?_; intro w2 hm2 hg2; have T2 := Aside0.mk (HTB.out.up1 hm2.snoc hg2); have B2_ := Aside0.mk ((hg2.block _ (by simp) (fun e => by injection e with e; have := hszr; omega)).trans (heap_alloc_new wr (.cells #[.int .i64 c.f0, .string c.f1, .int .i64 c.f2, .int .i64 c.f3, .int .i64 c.f4, .int .i64 c.f5.f0, .int .i64 c.f5.f1, .int .u64 c.f5.f2, .string c.f5.f3] 75))); have k0_ := (Go.Proofs.YtjgomlcdmpcoaaaDoorW.PrintWords.blk_cell B2_.out 0).trans (rfl : _ = some (Value.int .i64 c.f0)); clear hrun hm2 hg2) | (go_at_call 123; refine (fits_calls c.f0 t.f4 _ _ _ _ w.heap.size (w1.heap.size + 1 + 1 + 1) w1.heap.size ids w2 HWC.out.1 HWC.out.2.1 T2.out.box T2.out.idv T2.out.m0 (by omega)).mono ?_; rintro e w3 ⟨rfl, hm3, hg3⟩; rw [HF.out]; have T3 := Aside0.mk (T2.out.up0 hm3 hg3); have B3_ := Aside0.mk ((hg3.block _ (lt_of_block B2_.out) (fun e => by injection e with e; have := hszr; omega)).trans B2_.out); clear k0_; have k0_ := (Go.Proofs.YtjgomlcdmpcoaaaDoorW.PrintWords.blk_cell B3_.out 0).trans (rfl : _ = some (Value.int .i64 c.f0)); have k1_ := (Go.Proofs.YtjgomlcdmpcoaaaDoorW.PrintWords.blk_cell B3_.out 1).trans (rfl : _ = some (Value.string c.f1)); have k2_ := (Go.Proofs.YtjgomlcdmpcoaaaDoorW.PrintWords.blk_cell B3_.out 2).trans (rfl : _ = some (Value.int .i64 c.f2)); have k3_ := (Go.Proofs.YtjgomlcdmpcoaaaDoorW.PrintWords.blk_cell B3_.out 3).trans (rfl : _ = some (Value.int .i64 c.f3)); have k4_ := (Go.Proofs.YtjgomlcdmpcoaaaDoorW.PrintWords.blk_cell B3_.out 4).trans (rfl : _ = some (Value.int .i64 c.f4)); have k5_ := (Go.Proofs.YtjgomlcdmpcoaaaDoorW.PrintWords.blk_cell B3_.out 5).trans (rfl : _ = some (Value.int .i64 c.f5.f0)); have k6_ := (Go.Proofs.YtjgomlcdmpcoaaaDoorW.PrintWords.blk_cell B3_.out 6).trans (rfl : _ = some (Value.int .i64 c.f5.f1)); have k7_ := (Go.Proofs.YtjgomlcdmpcoaaaDoorW.PrintWords.blk_cell B3_.out 7).trans (rfl : _ = some (Value.int .u64 c.f5.f2)); have k8_ := (Go.Proofs.YtjgomlcdmpcoaaaDoorW.PrintWords.blk_cell B3_.out 8).trans (rfl : _ = some (Value.string c.f5.f3)); have hrun3 := T3.out.m1.look0 lawS Tryd.underlying108 HKS.out E1.out; clear hm3 hg3) | (go_at_call 124; refine (column_calls' c HWC.out.2.2.2 w3 (HG.out.of_below T3.out.below)).mono ?_; rintro e w4 ⟨rfl, hb4⟩; rw [HB.out]; have T4 := Aside0.mk (T3.out.step hb4); clear hb4))
                        go_ret
                        exact ⟨by rw [HI.out, HCI.out, HF.out, HQ.out, HB.out]; rfl, T4.out.below⟩
                      | true =>
                        have e0 := count_none hq
                        have e1 : _ = (1 : Int) := count_one e0
                        have hrun := HTB.out.m1.look0 lawS Tryd.underlying108 HKS.out e0
                        have E0 := Lib.hid e0
                        have E1 := Lib.hid e1
                        have HQ := Lib.hid hq
                        have HF := Lib.hid hf
                        have HB := Lib.hid hb
                        clear e0 e1 hq hf hb
                        go_wp2_with (first | (at_mapUpdate; refine wpList_count rfl _ _ _ 108 rfl lawS Tryd.underlying108 rfl HTB.out.m1 (by omega) (by omega) _ (nm c.f1) rfl HKS.out (injS _) (isS _) _ (by rw [E0.out] <;> rfl) rfl ?_; intro w2 hm2 hg2; have T2 := Aside0.mk (HTB.out.up1 hm2.snoc hg2); have B2_ := Aside0.mk ((hg2.block _ (by simp) (fun e => by injection e with e; have := hszr; omega)).trans (heap_alloc_new wr (.cells #[.int .i64 c.f0, .string c.f1, .int .i64 c.f2, .int .i64 c.f3, .int .i64 c.f4, .int .i64 c.f5.f0, .int .i64 c.f5.f1, .int .u64 c.f5.f2, .string c.f5.f3] 75))); have k0_ := (Go.Proofs.YtjgomlcdmpcoaaaDoorW.PrintWords.blk_cell B2_.out 0).trans (rfl : _ = some (Value.int .i64 c.f0)); clear hrun hm2 hg2) | (go_at_call 123; refine (fits_calls c.f0 t.f4 _ _ _ _ w.heap.size (w1.heap.size + 1 + 1 + 1) w1.heap.size ids w2 HWC.out.1 HWC.out.2.1 T2.out.box T2.out.idv T2.out.m0 (by omega)).mono ?_; rintro e w3 ⟨rfl, hm3, hg3⟩; rw [HF.out]; have T3 := Aside0.mk (T2.out.up0 hm3 hg3); have B3_ := Aside0.mk ((hg3.block _ (lt_of_block B2_.out) (fun e => by injection e with e; have := hszr; omega)).trans B2_.out); clear k0_; have k0_ := (Go.Proofs.YtjgomlcdmpcoaaaDoorW.PrintWords.blk_cell B3_.out 0).trans (rfl : _ = some (Value.int .i64 c.f0)); have k1_ := (Go.Proofs.YtjgomlcdmpcoaaaDoorW.PrintWords.blk_cell B3_.out 1).trans (rfl : _ = some (Value.string c.f1)); have k2_ := (Go.Proofs.YtjgomlcdmpcoaaaDoorW.PrintWords.blk_cell B3_.out 2).trans (rfl : _ = some (Value.int .i64 c.f2)); have k3_ := (Go.Proofs.YtjgomlcdmpcoaaaDoorW.PrintWords.blk_cell B3_.out 3).trans (rfl : _ = some (Value.int .i64 c.f3)); have k4_ := (Go.Proofs.YtjgomlcdmpcoaaaDoorW.PrintWords.blk_cell B3_.out 4).trans (rfl : _ = some (Value.int .i64 c.f4)); have k5_ := (Go.Proofs.YtjgomlcdmpcoaaaDoorW.PrintWords.blk_cell B3_.out 5).trans (rfl : _ = some (Value.int .i64 c.f5.f0)); have k6_ := (Go.Proofs.YtjgomlcdmpcoaaaDoorW.PrintWords.blk_cell B3_.out 6).trans (rfl : _ = some (Value.int .i64 c.f5.f1)); have k7_ := (Go.Proofs.YtjgomlcdmpcoaaaDoorW.PrintWords.blk_cell B3_.out 7).trans (rfl : _ = some (Value.int .u64 c.f5.f2)); have k8_ := (Go.Proofs.YtjgomlcdmpcoaaaDoorW.PrintWords.blk_cell B3_.out 8).trans (rfl : _ = some (Value.string c.f5.f3)); have hrun3 := T3.out.m1.look0 lawS Tryd.underlying108 HKS.out E1.out; clear hm3 hg3) | (go_at_call 124; refine (column_calls' c HWC.out.2.2.2 w3 (HG.out.of_below T3.out.below)).mono ?_; rintro e w4 ⟨rfl, hb4⟩; rw [HB.out]; have T4 := Aside0.mk (T3.out.step hb4); clear hb4))
                        go_roundg (t.f2.length - (kk + 1))
                        case measure => omega
                        case rel =>
                          refine ⟨kk + 1, by omega, by omega, by go_num, ⟨?_, ?_⟩⟩
                          · rw [hTI.out, hTN.out]; exact T4
                          · refine ⟨?_⟩
                            rw [HCI.out, HF.out, HQ.out, HB.out, hTI.out, hTN.out]; rfl
                · have hltz : ¬ (kk : Int) < (t.f2.length : Int) := by omega
                  have hkd : t.f2.drop kk = [] := List.drop_eq_nil_of_le (by omega)
                  have hkt : t.f2.take kk = t.f2 := List.take_of_length_le (by omega)
                  rw [hkd, hkt] at HCI'
                  rw [hkt] at HT'
                  have HT := HT'
                  clear HT' hkd hkt
                  have HC1 := Lib.hid (show tcolsB t.f4 [] [] t.f2 = true from HCI'.out)
                  clear HCI'
                  have kb2 := (Go.Proofs.YtjgomlcdmpcoaaaDoorW.PrintWords.blk_cell HT.out.box 3).trans (rfl : _ = some (Value.slice A3 t.f3.length c3))
                  obtain ⟨wo, hwo⟩ : ∃ wo : World, wo = wr := ⟨_, rfl⟩
                  subst hwo
                  go_wp2_with fail
                  go_loopg [10, 81] t.f3.length (fun gg _ u wr => ∃ kk : Nat, kk ≤ t.f3.length ∧ t.f3.length - kk ≤ gg ∧ u = .int .i64 kk ∧ Aside0 (TSt w wr w1.heap.size #[.int .i64 t.f0, .string t.f1, .slice A2 t.f2.length c2, .slice A3 t.f3.length c3, .int .i64 t.f4] (t.f2.map (fun c => c.f0) ++ (t.f3.take kk).map fun c => c.f0) (t.f2.map fun c => nm c.f1) ((t.f3.take kk).map fun c => nm c.f1)) ∧ Aside0 (tindsB t (t.f2.map (·.f0)) [] t.f3 = tindsB t (t.f2.map (fun c => c.f0) ++ (t.f3.take kk).map fun c => c.f0) ((t.f3.take kk).map fun c => nm c.f1) (t.f3.drop kk)))
                  case atStart => exact ⟨0, Nat.zero_le _, by omega, rfl, ⟨by first | exact HT.out | (simpa using HT.out)⟩, ⟨by simp⟩⟩
                  case round =>
                    obtain ⟨kk, hkk, hgg, rfl, HT', HCI'⟩ := hrel
                    clear HT kb2
                    by_cases hlt : kk < t.f3.length
                    · have hltz : (kk : Int) < (t.f3.length : Int) := by omega
                      have hszr : w1.heap.size + 1 + 1 + 1 < wr.heap.size := HT'.out.size
                      have hBW := HT'.out.below
                      obtain ⟨ad, B2, d2, eA, h0, h1, h2, h3, h4, hd2, hcols⟩ := at_T98 HX.out (kk : Int) (by omega) (by omega)
                      have hx : rd_T98 t.f3 (kk : Int) = t.f3[kk] := by unfold rd_T98; simp [List.getD, hlt]
                      rw [hx] at h0 h1 h2 h3 h4 hd2 hcols
                      simp only [Int.toNat_natCast] at h0 h1 h2 h3 h4
                      replace h0 := pw_cell_below hBW h0
                      replace h1 := pw_cell_below hBW h1
                      replace h2 := pw_cell_below hBW h2
                      replace h3 := pw_cell_below hBW h3
                      replace h4 := pw_cell_below hBW h4
                      cases eA
                      clear hBW
                      have hW := HW.out.2.2 _ (List.getElem_mem hlt)
                      have hd : t.f3.drop kk = t.f3[kk] :: t.f3.drop (kk + 1) := List.drop_eq_getElem_cons hlt
                      have htk : t.f3.take (kk + 1) = t.f3.take kk ++ [t.f3[kk]] := List.take_succ_eq_append_getElem hlt
                      rw [hd] at HCI'
                      generalize t.f3[kk] = c at h0 h1 h2 h3 h4 hd2 hcols hW hd htk HCI'
                      have HWC := Lib.hid hW
                      obtain ⟨ids, hids⟩ : ∃ ids, (t.f2.map (fun c => c.f0) ++ (t.f3.take kk).map fun c => c.f0) = ids := ⟨_, rfl⟩
                      obtain ⟨nsI, hns⟩ : ∃ l_, ((t.f3.take kk).map fun c => nm c.f1) = l_ := ⟨_, rfl⟩
                      have hTI := Lib.hid (show (t.f2.map (fun c => c.f0) ++ (t.f3.take (kk + 1)).map fun c => c.f0) = ids ++ [c.f0] by rw [htk, ← hids]; simp)
                      have hTN := Lib.hid (show ((t.f3.take (kk + 1)).map fun c => nm c.f1) = nsI ++ [nm c.f1] by rw [htk, ← hns]; simp)
                      rw [hids, hns] at HT' HCI'
                      have hil : ids.length < 50 := by rw [← hids]; simp; omega
                      have hnl : nsI.length < 50 := by rw [← hns]; simp; omega
                      have hst : tindsB t ids nsI (c :: t.f3.drop (kk + 1)) = (fitsB t.f4 ids c.f0 && (!nsI.contains (nm c.f1) && (indexB t c && tindsB t (ids ++ [c.f0]) (nsI ++ [nm c.f1]) (t.f3.drop (kk + 1))))) := rfl
                      have HCI := Lib.hid (HCI'.out.trans hst)
                      have HKS := Lib.hid (keyS hW.2.2)
                      have HTB := Aside0.mk (HT'.out.step (below_alloc (Below.refl _ wr) (.cells #[.int .i64 c.f0, .string c.f1, .slice B2 c.f2.length d2, .bool c.f3, .int .i64 c.f4] 98)))
                      have HI2 := Aside0.mk hcols
                      clear hcols
                      clear hx hW hd htk hids hns hst HCI' HT'
                      cases hf : fitsB t.f4 ids c.f0 with
                      | false =>
                        cases hq : nsI.contains (nm c.f1) with
                        | false =>
                          have e0 := count_none hq
                          have e1 : _ = (1 : Int) := count_one e0
                          have hrun := HTB.out.m2.look0 lawS Tryd.underlying108 HKS.out e0
                          have E0 := Lib.hid e0
                          have E1 := Lib.hid e1
                          have HQ := Lib.hid hq
                          have HF := Lib.hid hf
                          clear e0 e1 hq hf
                          go_wp2_with (first | (at_mapUpdate; refine wpList_count rfl _ _ _ 108 rfl lawS Tryd.underlying108 rfl HTB.out.m2 (by omega) (by omega) _ (nm c.f1) rfl HKS.out (injS _) (isS _) _ (by rw [E0.out] <;> rfl) rfl ?_; intro w2 hm2 hg2; have T2 := Aside0.mk (HTB.out.up2 hm2.snoc hg2); have B2_ := Aside0.mk ((hg2.block _ (by simp) (fun e => by injection e with e; have := hszr; omega)).trans (heap_alloc_new wr (.cells #[.int .i64 c.f0, .string c.f1, .slice B2 c.f2.length d2, .bool c.f3, .int .i64 c.f4] 98))); have k0_ := (Go.Proofs.YtjgomlcdmpcoaaaDoorW.PrintWords.blk_cell B2_.out 0).trans (rfl : _ = some (Value.int .i64 c.f0)); clear hrun hm2 hg2) | (go_at_call 123; refine (fits_calls c.f0 t.f4 _ _ _ _ w.heap.size (w1.heap.size + 1 + 1 + 1) w1.heap.size ids w2 HWC.out.1 HWC.out.2.1 T2.out.box T2.out.idv T2.out.m0 (by omega)).mono ?_; rintro e w3 ⟨rfl, hm3, hg3⟩; rw [HF.out]; have T3 := Aside0.mk (T2.out.up0 hm3 hg3); have B3_ := Aside0.mk ((hg3.block _ (lt_of_block B2_.out) (fun e => by injection e with e; have := hszr; omega)).trans B2_.out); clear k0_; skip; clear hm3 hg3))
                          go_ret
                          exact ⟨by rw [HI.out, HC1.out, Bool.true_and, HCI.out, HF.out]; rfl, T3.out.below⟩
                        | true =>
                          obtain ⟨cq, e0, cq1, cq2'⟩ := count_some hq
                          have cq2 : cq ≤ 100 := by omega
                          have cq3 : 1 < cq + 1 := by omega
                          have e1 := count_one e0
                          clear cq2'
                          have hrun := HTB.out.m2.look0 lawS Tryd.underlying108 HKS.out e0
                          have E0 := Lib.hid e0
                          have E1 := Lib.hid e1
                          have HQ := Lib.hid hq
                          have HF := Lib.hid hf
                          clear e0 e1 hq hf
                          go_wp2_with (first | (at_mapUpdate; refine wpList_count rfl _ _ _ 108 rfl lawS Tryd.underlying108 rfl HTB.out.m2 (by omega) (by omega) _ (nm c.f1) rfl HKS.out (injS _) (isS _) _ (by rw [E0.out] <;> rfl) rfl ?_; intro w2 hm2 hg2; have T2 := Aside0.mk (HTB.out.up2 hm2.snoc hg2); have B2_ := Aside0.mk ((hg2.block _ (by simp) (fun e => by injection e with e; have := hszr; omega)).trans (heap_alloc_new wr (.cells #[.int .i64 c.f0, .string c.f1, .slice B2 c.f2.length d2, .bool c.f3, .int .i64 c.f4] 98))); have k0_ := (Go.Proofs.YtjgomlcdmpcoaaaDoorW.PrintWords.blk_cell B2_.out 0).trans (rfl : _ = some (Value.int .i64 c.f0)); clear hrun hm2 hg2) | (go_at_call 123; refine (fits_calls c.f0 t.f4 _ _ _ _ w.heap.size (w1.heap.size + 1 + 1 + 1) w1.heap.size ids w2 HWC.out.1 HWC.out.2.1 T2.out.box T2.out.idv T2.out.m0 (by omega)).mono ?_; rintro e w3 ⟨rfl, hm3, hg3⟩; rw [HF.out]; have T3 := Aside0.mk (T2.out.up0 hm3 hg3); have B3_ := Aside0.mk ((hg3.block _ (lt_of_block B2_.out) (fun e => by injection e with e; have := hszr; omega)).trans B2_.out); clear k0_; skip; clear hm3 hg3))
                          go_ret
                          exact ⟨by rw [HI.out, HC1.out, Bool.true_and, HCI.out, HF.out]; rfl, T3.out.below⟩
                      | true =>
                        cases hq : nsI.contains (nm c.f1) with
                        | true =>
                          obtain ⟨cq, e0, cq1, cq2'⟩ := count_some hq
                          have cq2 : cq ≤ 100 := by omega
                          have cq3 : 1 < cq + 1 := by omega
                          have e1 := count_one e0
                          clear cq2'
                          have hrun := HTB.out.m2.look0 lawS Tryd.underlying108 HKS.out e0
                          have E0 := Lib.hid e0
                          have E1 := Lib.hid e1
                          have HQ := Lib.hid hq
                          have HF := Lib.hid hf
                          clear e0 e1 hq hf
                          go_wp2_with (first | (at_mapUpdate; refine wpList_count rfl _ _ _ 108 rfl lawS Tryd.underlying108 rfl HTB.out.m2 (by omega) (by omega) _ (nm c.f1) rfl HKS.out (injS _) (isS _) _ (by rw [E0.out] <;> rfl) rfl ?_; intro w2 hm2 hg2; have T2 := Aside0.mk (HTB.out.up2 hm2.snoc hg2); have B2_ := Aside0.mk ((hg2.block _ (by simp) (fun e => by injection e with e; have := hszr; omega)).trans (heap_alloc_new wr (.cells #[.int .i64 c.f0, .string c.f1, .slice B2 c.f2.length d2, .bool c.f3, .int .i64 c.f4] 98))); have k0_ := (Go.Proofs.YtjgomlcdmpcoaaaDoorW.PrintWords.blk_cell B2_.out 0).trans (rfl : _ = some (Value.int .i64 c.f0)); clear hrun hm2 hg2) | (go_at_call 123; refine (fits_calls c.f0 t.f4 _ _ _ _ w.heap.size (w1.heap.size + 1 + 1 + 1) w1.heap.size ids w2 HWC.out.1 HWC.out.2.1 T2.out.box T2.out.idv T2.out.m0 (by omega)).mono ?_; rintro e w3 ⟨rfl, hm3, hg3⟩; rw [HF.out]; have T3 := Aside0.mk (T2.out.up0 hm3 hg3); have B3_ := Aside0.mk ((hg3.block _ (lt_of_block B2_.out) (fun e => by injection e with e; have := hszr; omega)).trans B2_.out); clear k0_; have k0_ := (Go.Proofs.YtjgomlcdmpcoaaaDoorW.PrintWords.blk_cell B3_.out 0).trans (rfl : _ = some (Value.int .i64 c.f0)); have k1_ := (Go.Proofs.YtjgomlcdmpcoaaaDoorW.PrintWords.blk_cell B3_.out 1).trans (rfl : _ = some (Value.string c.f1)); have k2_ := (Go.Proofs.YtjgomlcdmpcoaaaDoorW.PrintWords.blk_cell B3_.out 2).trans (rfl : _ = some (Value.slice B2 c.f2.length d2)); have k3_ := (Go.Proofs.YtjgomlcdmpcoaaaDoorW.PrintWords.blk_cell B3_.out 3).trans (rfl : _ = some (Value.bool c.f3)); have k4_ := (Go.Proofs.YtjgomlcdmpcoaaaDoorW.PrintWords.blk_cell B3_.out 4).trans (rfl : _ = some (Value.int .i64 c.f4)); have hrun3 := T3.out.m2.look0 lawS Tryd.underlying108 HKS.out E1.out; have j0_ := (Go.Proofs.YtjgomlcdmpcoaaaDoorW.PrintWords.blk_cell T3.out.box 0).trans (rfl : _ = some (Value.int .i64 t.f0)); have j1_ := (Go.Proofs.YtjgomlcdmpcoaaaDoorW.PrintWords.blk_cell T3.out.box 1).trans (rfl : _ = some (Value.string t.f1)); have j2_ := (Go.Proofs.YtjgomlcdmpcoaaaDoorW.PrintWords.blk_cell T3.out.box 2).trans (rfl : _ = some (Value.slice A2 t.f2.length c2)); have j3_ := (Go.Proofs.YtjgomlcdmpcoaaaDoorW.PrintWords.blk_cell T3.out.box 3).trans (rfl : _ = some (Value.slice (some ad) t.f3.length c3)); have j4_ := (Go.Proofs.YtjgomlcdmpcoaaaDoorW.PrintWords.blk_cell T3.out.box 4).trans (rfl : _ = some (Value.int .i64 t.f4)); clear hm3 hg3))
                          go_ret
                          exact ⟨by rw [HI.out, HC1.out, Bool.true_and, HCI.out, HF.out, HQ.out]; rfl, T3.out.below⟩
                        | false =>
                          cases hb : indexB t c with
                          | false =>
                            have e0 := count_none hq
                            have e1 : _ = (1 : Int) := count_one e0
                            have hrun := HTB.out.m2.look0 lawS Tryd.underlying108 HKS.out e0
                            have E0 := Lib.hid e0
                            have E1 := Lib.hid e1
                            have HQ := Lib.hid hq
                            have HF := Lib.hid hf
                            have HB := Lib.hid hb
                            clear e0 e1 hq hf hb
                            go_wp2_with (first | (at_mapUpdate; refine wpList_count rfl _ _ _ 108 rfl lawS Tryd.underlying108 rfl HTB.out.m2 (by omega) (by omega) _ (nm c.f1) rfl HKS.out (injS _) (isS _) _ (by rw [E0.out] <;> rfl) rfl ?_; intro w2 hm2 hg2; have T2 := Aside0.mk (HTB.out.up2 hm2.snoc hg2); have B2_ := Aside0.mk ((hg2.block _ (by simp) (fun e => by injection e with e; have := hszr; omega)).trans (heap_alloc_new wr (.cells #[.int .i64 c.f0, .string c.f1, .slice B2 c.f2.length d2, .bool c.f3, .int .i64 c.f4] 98))); have k0_ := (Go.Proofs.YtjgomlcdmpcoaaaDoorW.PrintWords.blk_cell B2_.out 0).trans (rfl : _ = some (Value.int .i64 c.f0)); clear hrun hm2 hg2) | (go_at_call 123; refine (fits_calls c.f0 t.f4 _ _ _ _ w.heap.size (w1.heap.size + 1 + 1 + 1) w1.heap.size ids w2 HWC.out.1 HWC.out.2.1 T2.out.box T2.out.idv T2.out.m0 (by omega)).mono ?_; rintro e w3 ⟨rfl, hm3, hg3⟩; rw [HF.out]; have T3 := Aside0.mk (T2.out.up0 hm3 hg3); have B3_ := Aside0.mk ((hg3.block _ (lt_of_block B2_.out) (fun e => by injection e with e; have := hszr; omega)).trans B2_.out); clear k0_; have k0_ := (Go.Proofs.YtjgomlcdmpcoaaaDoorW.PrintWords.blk_cell B3_.out 0).trans (rfl : _ = some (Value.int .i64 c.f0)); have k1_ := (Go.Proofs.YtjgomlcdmpcoaaaDoorW.PrintWords.blk_cell B3_.out 1).trans (rfl : _ = some (Value.string c.f1)); have k2_ := (Go.Proofs.YtjgomlcdmpcoaaaDoorW.PrintWords.blk_cell B3_.out 2).trans (rfl : _ = some (Value.slice B2 c.f2.length d2)); have k3_ := (Go.Proofs.YtjgomlcdmpcoaaaDoorW.PrintWords.blk_cell B3_.out 3).trans (rfl : _ = some (Value.bool c.f3)); have k4_ := (Go.Proofs.YtjgomlcdmpcoaaaDoorW.PrintWords.blk_cell B3_.out 4).trans (rfl : _ = some (Value.int .i64 c.f4)); have hrun3 := T3.out.m2.look0 lawS Tryd.underlying108 HKS.out E1.out; have j0_ := (Go.Proofs.YtjgomlcdmpcoaaaDoorW.PrintWords.blk_cell T3.out.box 0).trans (rfl : _ = some (Value.int .i64 t.f0)); have j1_ := (Go.Proofs.YtjgomlcdmpcoaaaDoorW.PrintWords.blk_cell T3.out.box 1).trans (rfl : _ = some (Value.string t.f1)); have j2_ := (Go.Proofs.YtjgomlcdmpcoaaaDoorW.PrintWords.blk_cell T3.out.box 2).trans (rfl : _ = some (Value.slice A2 t.f2.length c2)); have j3_ := (Go.Proofs.YtjgomlcdmpcoaaaDoorW.PrintWords.blk_cell T3.out.box 3).trans (rfl : _ = some (Value.slice (some ad) t.f3.length c3)); have j4_ := (Go.Proofs.YtjgomlcdmpcoaaaDoorW.PrintWords.blk_cell T3.out.box 4).trans (rfl : _ = some (Value.int .i64 t.f4)); clear hm3 hg3) | (go_at_call 125; refine (index_calls nameCalls t c A2 c2 _ c3 B2 d2 w3 (HG.out.of_below T3.out.below) hc2 (Kd.C_below HC.out T3.out.below) hd2 (Kd.C_below HI2.out T3.out.below)).mono ?_; rintro e w4 ⟨rfl, hb4⟩; rw [HB.out]; have T4 := Aside0.mk (T3.out.step hb4); clear hb4))
                            go_ret
                            exact ⟨by rw [HI.out, HC1.out, Bool.true_and, HCI.out, HF.out, HQ.out, HB.out]; rfl, T4.out.below⟩
                          | true =>
                            have e0 := count_none hq
                            have e1 : _ = (1 : Int) := count_one e0
                            have hrun := HTB.out.m2.look0 lawS Tryd.underlying108 HKS.out e0
                            have E0 := Lib.hid e0
                            have E1 := Lib.hid e1
                            have HQ := Lib.hid hq
                            have HF := Lib.hid hf
                            have HB := Lib.hid hb
                            clear e0 e1 hq hf hb
                            go_wp2_with (first | (at_mapUpdate; refine wpList_count rfl _ _ _ 108 rfl lawS Tryd.underlying108 rfl HTB.out.m2 (by omega) (by omega) _ (nm c.f1) rfl HKS.out (injS _) (isS _) _ (by rw [E0.out] <;> rfl) rfl ?_; intro w2 hm2 hg2; have T2 := Aside0.mk (HTB.out.up2 hm2.snoc hg2); have B2_ := Aside0.mk ((hg2.block _ (by simp) (fun e => by injection e with e; have := hszr; omega)).trans (heap_alloc_new wr (.cells #[.int .i64 c.f0, .string c.f1, .slice B2 c.f2.length d2, .bool c.f3, .int .i64 c.f4] 98))); have k0_ := (Go.Proofs.YtjgomlcdmpcoaaaDoorW.PrintWords.blk_cell B2_.out 0).trans (rfl : _ = some (Value.int .i64 c.f0)); clear hrun hm2 hg2) | (go_at_call 123; refine (fits_calls c.f0 t.f4 _ _ _ _ w.heap.size (w1.heap.size + 1 + 1 + 1) w1.heap.size ids w2 HWC.out.1 HWC.out.2.1 T2.out.box T2.out.idv T2.out.m0 (by omega)).mono ?_; rintro e w3 ⟨rfl, hm3, hg3⟩; rw [HF.out]; have T3 := Aside0.mk (T2.out.up0 hm3 hg3); have B3_ := Aside0.mk ((hg3.block _ (lt_of_block B2_.out) (fun e => by injection e with e; have := hszr; omega)).trans B2_.out); clear k0_; have k0_ := (Go.Proofs.YtjgomlcdmpcoaaaDoorW.PrintWords.blk_cell B3_.out 0).trans (rfl : _ = some (Value.int .i64 c.f0)); have k1_ := (Go.Proofs.YtjgomlcdmpcoaaaDoorW.PrintWords.blk_cell B3_.out 1).trans (rfl : _ = some (Value.string c.f1)); have k2_ := (Go.Proofs.YtjgomlcdmpcoaaaDoorW.PrintWords.blk_cell B3_.out 2).trans (rfl : _ = some (Value.slice B2 c.f2.length d2)); have k3_ := (Go.Proofs.YtjgomlcdmpcoaaaDoorW.PrintWords.blk_cell B3_.out 3).trans (rfl : _ = some (Value.bool c.f3)); have k4_ := (Go.Proofs.YtjgomlcdmpcoaaaDoorW.PrintWords.blk_cell B3_.out 4).trans (rfl : _ = some (Value.int .i64 c.f4)); have hrun3 := T3.out.m2.look0 lawS Tryd.underlying108 HKS.out E1.out; have j0_ := (Go.Proofs.YtjgomlcdmpcoaaaDoorW.PrintWords.blk_cell T3.out.box 0).trans (rfl : _ = some (Value.int .i64 t.f0)); have j1_ := (Go.Proofs.YtjgomlcdmpcoaaaDoorW.PrintWords.blk_cell T3.out.box 1).trans (rfl : _ = some (Value.string t.f1)); have j2_ := (Go.Proofs.YtjgomlcdmpcoaaaDoorW.PrintWords.blk_cell T3.out.box 2).trans (rfl : _ = some (Value.slice A2 t.f2.length c2)); have j3_ := (Go.Proofs.YtjgomlcdmpcoaaaDoorW.PrintWords.blk_cell T3.out.box 3).trans (rfl : _ = some (Value.slice (some ad) t.f3.length c3)); have j4_ := (Go.Proofs.YtjgomlcdmpcoaaaDoorW.PrintWords.blk_cell T3.out.box 4).trans (rfl : _ = some (Value.int .i64 t.f4)); clear hm3 hg3) | (go_at_call 125; refine (index_calls nameCalls t c A2 c2 _ c3 B2 d2 w3 (HG.out.of_below T3.out.below) hc2 (Kd.C_below HC.out T3.out.below) hd2 (Kd.C_below HI2.out T3.out.below)).mono ?_; rintro e w4 ⟨rfl, hb4⟩; rw [HB.out]; have T4 := Aside0.mk (T3.out.step hb4); clear hb4))
                            go_roundg (t.f3.length - (kk + 1))
                            case measure => omega
                            case rel =>
                              refine ⟨kk + 1, by omega, by omega, by go_num, ⟨?_, ?_⟩⟩
                              · rw [hTI.out, hTN.out]; exact T4
                              · refine ⟨?_⟩
                                rw [HCI.out, HF.out, HQ.out, HB.out, hTI.out, hTN.out]; rfl
                    · have hltz : ¬ (kk : Int) < (t.f3.length : Int) := by omega
                      have hkd : t.f3.drop kk = [] := List.drop_eq_nil_of_le (by omega)
                      have hkt : t.f3.take kk = t.f3 := List.take_of_length_le (by omega)
                      rw [hkd, hkt] at HCI'
                      rw [hkt] at HT'
                      have HT := HT'
                      clear HT' hkd hkt
                      have HC2 := Lib.hid (show tindsB t (t.f2.map (·.f0)) [] t.f3 = true from HCI'.out)
                      clear HCI'
                      have kb2 := (Go.Proofs.YtjgomlcdmpcoaaaDoorW.PrintWords.blk_cell HT.out.box 2).trans (rfl : _ = some (Value.slice A2 t.f2.length c2))
                      obtain ⟨ad, eA, h0, h1, h2, h3, h4, h5, h6, h7, h8⟩ := at_T75 (Kd.C_below HC.out HT.out.below) (0 : Int) (by omega) (by omega)
                      have hl0 : 0 < t.f2.length := by omega
                      have hx : rd_T75 t.f2 (0 : Int) = t.f2[0] := by unfold rd_T75; simp [List.getD, hl0]
                      rw [hx] at h0 h1 h2 h3 h4 h5 h6 h7 h8
                      simp only [Int.toNat_zero, Nat.zero_mul] at h0 h1 h2 h3 h4 h5 h6 h7 h8
                      have ea : ad.add 0 = ad := by simp [Addr.add]
                      rw [ea] at h0 h1 h2 h3 h4 h5 h6 h7 h8
                      clear ea
                      cases eA
                      have hK := keyB_of t hl0
                      generalize t.f2[0] = c at h0 h1 h2 h3 h4 h5 h6 h7 h8 hK
                      have HW0 := Lib.hid HT.out.below
                      clear hx HT
                      cases q1 : c.f3 == 4 with
                      | false =>
                        rw [q1] at hK
                        have HK := Lib.hid hK
                        clear hK
                        go_wp2
                        go_ret
                        exact ⟨by rw [HI.out, HC1.out, HC2.out, HK.out]; rfl, below_alloc HW0.out _⟩
                      | true =>
                        cases q2 : c.f4 == 4 with
                        | false =>
                          rw [q1, q2] at hK
                          have HK := Lib.hid hK
                          clear hK
                          go_wp2
                          go_ret
                          exact ⟨by rw [HI.out, HC1.out, HC2.out, HK.out]; rfl, below_alloc HW0.out _⟩
                        | true =>
                          rw [q1, q2] at hK
                          have HK := Lib.hid hK
                          clear hK
                          go_wp2
                          go_ret
                          exact ⟨by rw [HI.out, HC1.out, HC2.out, HK.out]; rfl, below_alloc HW0.out _⟩
end Go.Proofs.YtjgomlcdmpcoaaaDoor.H
