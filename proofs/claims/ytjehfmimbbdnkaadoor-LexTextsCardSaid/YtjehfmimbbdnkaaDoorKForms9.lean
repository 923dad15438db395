/- Own texts of this session, packed by its program wip/pp/pack.py: lemmas and walks of functions. -/
import Derived.Laws.BitsLemmas
import Derived.Test.YtjehfmimbbdnkaaDoorKForms2
import Derived.Test.YtjehfmimbbdnkaaDoorKForms7
import Derived.Test.YtjehfmimbbdnkaaDoorKForms8
namespace Go.Proofs.YtjehfmimbbdnkaaDoor.L
open Go.RowKit Go.Proofs.YtjehfmimbbdnkaaDoorW.PrintWords Go.Proofs.YtjehfmimbbdnkaaDoorW.PrintLast Go.Proofs.YtjehfmimbbdnkaaDoorW.PrintMore
attribute [local go_sem] max2_int min2_int max_two min_two max_three min_three max_four min_four
set_option linter.unusedVariables false
set_option linter.unusedSimpArgs false
def falseworkref16_Value.l0 : Nat → List Int → Int → Int → Int → Int → ByteArray → Option (ByteArray)
 | 0, _, _, _, _, _, _ => none
 | k + 1, x3, x4, x312000, x312001, x312002, x312003 => if x4 < (x312003.size : Int) then (if 0 ≤ x4 then (if x3.length < 140737488355328 then ((some (x3 ++ [bt x312003 x4] : List Int)).bind fun y319 => (if (bt x312003 x4) = 39 then (if y319.length < 140737488355328 then (falseworkref16_Value.l0 k (y319 ++ [39]) (wrap64 (x4 + 1)) x312000 x312001 x312002 x312003) else (none)) else (falseworkref16_Value.l0 k y319 (wrap64 (x4 + 1)) x312000 x312001 x312002 x312003))) else (none)) else (none)) else (if x3.length < 140737488355328 then (some (strOfNums (x3 ++ [39]))) else (none))
def falseworkref16_Value.f (k : Nat) (a0_0 : Int) (a0_1 : Int) (a0_2 : Int) (a0_3 : ByteArray) : Option (ByteArray) := if a0_0 = 1 then (if a0_1 = 1 then (some (⟨#[116, 114, 117, 101]⟩ : ByteArray)) else (some (⟨#[102, 97, 108, 115, 101]⟩ : ByteArray))) else (if a0_0 = 2 then ((falseworkref16_digits.f k a0_1).bind fun t312 => (some t312)) else (if a0_0 = 3 then ((falseworkref2_Eight.f k (wrap64 (a0_2))).bind fun t313 => ((falseworkref16_Hex.f k t313).bind fun t314 => (if 2 + t314.size ≤ 9223372036854775807 then (if ((⟨#[102, 39]⟩ : ByteArray) ++ t314).size + 1 ≤ 9223372036854775807 then (some (((⟨#[102, 39]⟩ : ByteArray) ++ t314) ++ (⟨#[39]⟩ : ByteArray))) else (none)) else (none)))) else (if a0_0 = 4 then ((falseworkref16_Hex.f k a0_3).bind fun t315 => (if 2 + t315.size ≤ 9223372036854775807 then (if ((⟨#[120, 39]⟩ : ByteArray) ++ t315).size + 1 ≤ 9223372036854775807 then (some (((⟨#[120, 39]⟩ : ByteArray) ++ t315) ++ (⟨#[39]⟩ : ByteArray))) else (none)) else (none))) else (if a0_0 = 5 then (falseworkref16_Value.l0 k (([39] : List Int)) 0 a0_0 a0_1 a0_2 a0_3) else (some (⟨#[110, 117, 108, 108]⟩ : ByteArray))))))
theorem falseworkref16_Value.mono_l : ∀ k, (∀ y0 y1 y2 y3 y4 y5, LeO (falseworkref16_Value.l0 k y0 y1 y2 y3 y4 y5) (falseworkref16_Value.l0 (k + 1) y0 y1 y2 y3 y4 y5))
 | 0 => fun _ _ _ _ _ _ r h => by simp [falseworkref16_Value.l0] at h
 | k + 1 => by
  have ih0 := falseworkref16_Value.mono_l k
  ·intro y0 y1 y2 y3 y4 y5
   unfold falseworkref16_Value.l0
   repeat' first
   | (with_reducible exact ih0 _ _ _ _ _ _)
   | (with_reducible exact falseworkref16_Hex.mono _ _)
   | (with_reducible exact falseworkref16_digits.mono _ _)
   | (with_reducible exact falseworkref2_Eight.mono _ _)
   | (with_reducible exact LeO.refl _)
   | (with_reducible exact LeO.none _)
   | (with_reducible refine LeO.ite ?_ ?_)
   | (with_reducible refine LeO.bind ?_ (fun _ => ?_))
   | exact ih0 _ _ _ _ _ _
   | exact falseworkref16_Hex.mono _ _
   | exact falseworkref16_digits.mono _ _
   | exact falseworkref2_Eight.mono _ _
   | exact LeO.none _
   | refine LeO.ite ?_ ?_
   | refine LeO.bind ?_ (fun _ => ?_)
theorem falseworkref16_Value.mono : ∀ a0 a1 a2 a3 k, LeO (falseworkref16_Value.f k a0 a1 a2 a3) (falseworkref16_Value.f (k + 1) a0 a1 a2 a3) := by
 intro a0 a1 a2 a3 k
 have ih0 := falseworkref16_Value.mono_l k
 unfold falseworkref16_Value.f
 repeat' first
   | (with_reducible exact ih0 _ _ _ _ _ _)
   | (with_reducible exact falseworkref16_Hex.mono _ _)
   | (with_reducible exact falseworkref16_digits.mono _ _)
   | (with_reducible exact falseworkref2_Eight.mono _ _)
   | (with_reducible exact LeO.refl _)
   | (with_reducible exact LeO.none _)
   | (with_reducible refine LeO.ite ?_ ?_)
   | (with_reducible refine LeO.bind ?_ (fun _ => ?_))
   | exact ih0 _ _ _ _ _ _
   | exact falseworkref16_Hex.mono _ _
   | exact falseworkref16_digits.mono _ _
   | exact falseworkref2_Eight.mono _ _
   | exact LeO.none _
   | refine LeO.ite ?_ ?_
   | refine LeO.bind ?_ (fun _ => ?_)
set_option maxHeartbeats 8000000 in
set_option maxRecDepth 100000 in
theorem falseworkref16_Value.calls (k : Nat) (a0_0 : Int) (a0_1 : Int) (a0_2 : Int) (a0_3 : ByteArray) (r : ByteArray) (w : World) (h : falseworkref16_Value.f k a0_0 a0_1 a0_2 a0_3 = some r) :
  Calls Tryd.prog 17 #[.agg #[.int .i64 a0_0, .int .i64 a0_1, .int .u64 a0_2, .string a0_3]] w fun e w' => e = .returned (.string r) ∧ Below w.heap.size w w' := by
 have hu37 := Tryd.underlying37
 have HB := Aside0.mk (Below.refl w.heap.size w)
 have H : (if a0_0 = 1 then (if a0_1 = 1 then (some (⟨#[116, 114, 117, 101]⟩ : ByteArray)) else (some (⟨#[102, 97, 108, 115, 101]⟩ : ByteArray))) else (if a0_0 = 2 then ((falseworkref16_digits.f k a0_1).bind fun t312 => (some t312)) else (if a0_0 = 3 then ((falseworkref2_Eight.f k (wrap64 (a0_2))).bind fun t313 => ((falseworkref16_Hex.f k t313).bind fun t314 => (if 2 + t314.size ≤ 9223372036854775807 then (if ((⟨#[102, 39]⟩ : ByteArray) ++ t314).size + 1 ≤ 9223372036854775807 then (some (((⟨#[102, 39]⟩ : ByteArray) ++ t314) ++ (⟨#[39]⟩ : ByteArray))) else (none)) else (none)))) else (if a0_0 = 4 then ((falseworkref16_Hex.f k a0_3).bind fun t315 => (if 2 + t315.size ≤ 9223372036854775807 then (if ((⟨#[120, 39]⟩ : ByteArray) ++ t315).size + 1 ≤ 9223372036854775807 then (some (((⟨#[120, 39]⟩ : ByteArray) ++ t315) ++ (⟨#[39]⟩ : ByteArray))) else (none)) else (none))) else (if a0_0 = 5 then (falseworkref16_Value.l0 k (([39] : List Int)) 0 a0_0 a0_1 a0_2 a0_3) else (some (⟨#[110, 117, 108, 108]⟩ : ByteArray))))))) = some r := h
 clear h
 by_cases c2 : a0_0 = 1
 ·rw [if_pos c2] at H
  have c2b0 : (a0_0 == 1) = true := beq_iff_eq.mpr c2
  have c2b1 : (a0_0 != 1) = false := bne_eq_false_iff_eq.mpr c2
  clear c2
  by_cases c3 : a0_1 = 1
  ·rw [if_pos c3] at H
   have c3b0 : (a0_1 == 1) = true := beq_iff_eq.mpr c3
   have c3b1 : (a0_1 != 1) = false := bne_eq_false_iff_eq.mpr c3
   clear c3
   obtain rfl := Option.some.inj H
   go_enter Tryd.func17, Tryd.ntmps17
   go_wp2_with (first | ((with_reducible refine gate_dst (N := 1) rfl ?_); refine box_event ?hg (N := 1) ?hd (cs := #[.int .i64 a0_0, .int .i64 a0_1, .int .u64 a0_2, .string a0_3]) (t := 37) ?hr ?_; (case hd => rfl); (case hg => rfl); (case hr => first | (go_simp; done) | (go_simp; rfl)); intro gb311 hg w4 hbox hb; have n0_ := Aside0.mk (below_step (by repeat (first | (with_reducible first | exact HB.out | apply below_alloc | apply pw_below_drewN | apply below_drew1) | exact HB.out)) hb); have n1_ := Aside0.mk (hbox); have n2_ := Aside0.mk ((by rw [hg]; exact (below_size (by repeat (first | (with_reducible first | exact HB.out | apply below_alloc | apply pw_below_drewN | apply below_drew1) | exact HB.out))) : w.heap.size ≤ gb311)); have n3_ := Aside0.mk ((by rw [hg]; exact (below_size (by repeat (first | (with_reducible first | exact HB.out | apply below_alloc | apply pw_below_drewN | apply below_drew1) | exact HB.out))) : w.heap.size ≤ gb311)); clear HB; have HB := n0_; have BK311 := n1_; have GW311 := n2_; have GE311 := n3_; clear n0_ n1_ n2_ n3_; clear hb hbox hg; have hcz5_0 : w4.cell? ⟨gb311, 0, none⟩ = some (.int .i64 a0_0) := (blk_cell BK311.out 0).trans rfl; have hcz5_1 : w4.cell? ⟨gb311, 1, none⟩ = some (.int .i64 a0_1) := (blk_cell BK311.out 1).trans rfl; have hcz5_2 : w4.cell? ⟨gb311, 2, none⟩ = some (.int .u64 a0_2) := (blk_cell BK311.out 2).trans rfl; have hcz5_3 : w4.cell? ⟨gb311, 3, none⟩ = some (.string a0_3) := (blk_cell BK311.out 3).trans rfl; have hfz5_0 := blk_frozen BK311.out 0; have hfz5_1 := blk_frozen BK311.out 1; have hfz5_2 := blk_frozen BK311.out 2; have hfz5_3 := blk_frozen BK311.out 3))
   go_ret
   exact ⟨by first | rfl | (simp [errW_none, errW_some] <;> rfl) | (simp [*, errW_none, errW_some] <;> rfl), by repeat (first | (with_reducible first | exact HB.out | apply below_alloc | apply pw_below_drewN | apply below_drew1 | refine below_set ?_ GE311.out) | exact HB.out)⟩
  ·rw [if_neg c3] at H
   have c3b0 : (a0_1 == 1) = false := beq_eq_false_iff_ne.mpr c3
   have c3b1 : (a0_1 != 1) = true := bne_iff_ne.mpr c3
   obtain rfl := Option.some.inj H
   go_enter Tryd.func17, Tryd.ntmps17
   go_wp2_with (first | ((with_reducible refine gate_dst (N := 1) rfl ?_); refine box_event ?hg (N := 1) ?hd (cs := #[.int .i64 a0_0, .int .i64 a0_1, .int .u64 a0_2, .string a0_3]) (t := 37) ?hr ?_; (case hd => rfl); (case hg => rfl); (case hr => first | (go_simp; done) | (go_simp; rfl)); intro gb311 hg w6 hbox hb; have n0_ := Aside0.mk (below_step (by repeat (first | (with_reducible first | exact HB.out | apply below_alloc | apply pw_below_drewN | apply below_drew1) | exact HB.out)) hb); have n1_ := Aside0.mk (hbox); have n2_ := Aside0.mk ((by rw [hg]; exact (below_size (by repeat (first | (with_reducible first | exact HB.out | apply below_alloc | apply pw_below_drewN | apply below_drew1) | exact HB.out))) : w.heap.size ≤ gb311)); have n3_ := Aside0.mk ((by rw [hg]; exact (below_size (by repeat (first | (with_reducible first | exact HB.out | apply below_alloc | apply pw_below_drewN | apply below_drew1) | exact HB.out))) : w.heap.size ≤ gb311)); clear HB; have HB := n0_; have BK311 := n1_; have GW311 := n2_; have GE311 := n3_; clear n0_ n1_ n2_ n3_; clear hb hbox hg; have hcz7_0 : w6.cell? ⟨gb311, 0, none⟩ = some (.int .i64 a0_0) := (blk_cell BK311.out 0).trans rfl; have hcz7_1 : w6.cell? ⟨gb311, 1, none⟩ = some (.int .i64 a0_1) := (blk_cell BK311.out 1).trans rfl; have hcz7_2 : w6.cell? ⟨gb311, 2, none⟩ = some (.int .u64 a0_2) := (blk_cell BK311.out 2).trans rfl; have hcz7_3 : w6.cell? ⟨gb311, 3, none⟩ = some (.string a0_3) := (blk_cell BK311.out 3).trans rfl; have hfz7_0 := blk_frozen BK311.out 0; have hfz7_1 := blk_frozen BK311.out 1; have hfz7_2 := blk_frozen BK311.out 2; have hfz7_3 := blk_frozen BK311.out 3))
   go_ret
   exact ⟨by first | rfl | (simp [errW_none, errW_some] <;> rfl) | (simp [*, errW_none, errW_some] <;> rfl), by repeat (first | (with_reducible first | exact HB.out | apply below_alloc | apply pw_below_drewN | apply below_drew1 | refine below_set ?_ GE311.out) | exact HB.out)⟩
 ·rw [if_neg c2] at H
  have c2b0 : (a0_0 == 1) = false := beq_eq_false_iff_ne.mpr c2
  have c2b1 : (a0_0 != 1) = true := bne_iff_ne.mpr c2
  by_cases c8 : a0_0 = 2
  ·rw [if_pos c8] at H
   have c8b0 : (a0_0 == 2) = true := beq_iff_eq.mpr c8
   have c8b1 : (a0_0 != 2) = false := bne_eq_false_iff_eq.mpr c8
   clear c8
   replace H := Option.bind_eq_some_iff.mp H
   obtain ⟨t312, A90, H⟩ := H
   replace H : (some t312) = some r := H
   have A9 := Aside0.mk A90
   clear A90
   obtain rfl := Option.some.inj H
   go_enter Tryd.func17, Tryd.ntmps17
   go_wp2_with (first | ((with_reducible refine gate_dst (N := 1) rfl ?_); refine box_event ?hg (N := 1) ?hd (cs := #[.int .i64 a0_0, .int .i64 a0_1, .int .u64 a0_2, .string a0_3]) (t := 37) ?hr ?_; (case hd => rfl); (case hg => rfl); (case hr => first | (go_simp; done) | (go_simp; rfl)); intro gb311 hg w10 hbox hb; have n0_ := Aside0.mk (below_step (by repeat (first | (with_reducible first | exact HB.out | apply below_alloc | apply pw_below_drewN | apply below_drew1) | exact HB.out)) hb); have n1_ := Aside0.mk (hbox); have n2_ := Aside0.mk ((by rw [hg]; exact (below_size (by repeat (first | (with_reducible first | exact HB.out | apply below_alloc | apply pw_below_drewN | apply below_drew1) | exact HB.out))) : w.heap.size ≤ gb311)); have n3_ := Aside0.mk ((by rw [hg]; exact (below_size (by repeat (first | (with_reducible first | exact HB.out | apply below_alloc | apply pw_below_drewN | apply below_drew1) | exact HB.out))) : w.heap.size ≤ gb311)); clear HB; have HB := n0_; have BK311 := n1_; have GW311 := n2_; have GE311 := n3_; clear n0_ n1_ n2_ n3_; clear hb hbox hg; have hcz11_0 : w10.cell? ⟨gb311, 0, none⟩ = some (.int .i64 a0_0) := (blk_cell BK311.out 0).trans rfl; have hcz11_1 : w10.cell? ⟨gb311, 1, none⟩ = some (.int .i64 a0_1) := (blk_cell BK311.out 1).trans rfl; have hcz11_2 : w10.cell? ⟨gb311, 2, none⟩ = some (.int .u64 a0_2) := (blk_cell BK311.out 2).trans rfl; have hcz11_3 : w10.cell? ⟨gb311, 3, none⟩ = some (.string a0_3) := (blk_cell BK311.out 3).trans rfl; have hfz11_0 := blk_frozen BK311.out 0; have hfz11_1 := blk_frozen BK311.out 1; have hfz11_2 := blk_frozen BK311.out 2; have hfz11_3 := blk_frozen BK311.out 3) | ((with_reducible refine gate_callee (f := 23) rfl ?_); refine goesL_ (some 16) rfl rfl Tryd.func23 (by kernel_rfl) rfl #[.int .i64 a0_1] rfl (by (try simp only [List.map_toArray, List.map_cons, List.map_nil]); first | done | rfl | (simp only [List.length_drop, List.length_take]; rfl)) ?_; (with_reducible refine (falseworkref16_digits.calls k a0_1 t312 _ A9.out).mono ?_); rintro e w12 ⟨rfl, hb⟩; refine ⟨_, rfl, ?_⟩; have n0_ := Aside0.mk (blk_below (g := gb311) (o := .cells #[.int .i64 a0_0, .int .i64 a0_1, .int .u64 a0_2, .string a0_3] 37 (0, 0)) (by (with_reducible repeat (first | refine blk_drewN ?_ _ | refine blk_drew ?_ | refine blk_alloc ?_ _)); exact BK311.out) hb); have n1_ := Aside0.mk (below_step (by repeat (first | (with_reducible first | exact HB.out | apply below_alloc | apply pw_below_drewN | apply below_drew1 | refine below_set ?_ GE311.out) | exact HB.out)) hb); clear BK311; clear HB; have BK311 := n0_; have HB := n1_; clear n0_ n1_; (try clear hb); (try clear hb2); (try clear hk); (try clear hi)))
   go_ret
   exact ⟨by first | rfl | (simp [errW_none, errW_some] <;> rfl) | (simp [*, errW_none, errW_some] <;> rfl), by repeat (first | (with_reducible first | exact HB.out | apply below_alloc | apply pw_below_drewN | apply below_drew1 | refine below_set ?_ GE311.out) | exact HB.out)⟩
  ·rw [if_neg c8] at H
   have c8b0 : (a0_0 == 2) = false := beq_eq_false_iff_ne.mpr c8
   have c8b1 : (a0_0 != 2) = true := bne_iff_ne.mpr c8
   by_cases c13 : a0_0 = 3
   ·rw [if_pos c13] at H
    have c13b0 : (a0_0 == 3) = true := beq_iff_eq.mpr c13
    have c13b1 : (a0_0 != 3) = false := bne_eq_false_iff_eq.mpr c13
    clear c13
    replace H := Option.bind_eq_some_iff.mp H
    obtain ⟨t313, A140, H⟩ := H
    replace H : ((falseworkref16_Hex.f k t313).bind fun t314 => (if 2 + t314.size ≤ 9223372036854775807 then (if ((⟨#[102, 39]⟩ : ByteArray) ++ t314).size + 1 ≤ 9223372036854775807 then (some (((⟨#[102, 39]⟩ : ByteArray) ++ t314) ++ (⟨#[39]⟩ : ByteArray))) else (none)) else (none))) = some r := H
    have A14 := Aside0.mk A140
    clear A140
    replace H := Option.bind_eq_some_iff.mp H
    obtain ⟨t314, A150, H⟩ := H
    replace H : (if 2 + t314.size ≤ 9223372036854775807 then (if ((⟨#[102, 39]⟩ : ByteArray) ++ t314).size + 1 ≤ 9223372036854775807 then (some (((⟨#[102, 39]⟩ : ByteArray) ++ t314) ++ (⟨#[39]⟩ : ByteArray))) else (none)) else (none)) = some r := H
    have A15 := Aside0.mk A150
    clear A150
    by_cases c16 : 2 + t314.size ≤ 9223372036854775807
    ·rw [if_pos c16] at H
     have c16b0 := eq_true c16
     have c16b1 : decide (2 + t314.size ≤ 9223372036854775807) = true := decide_eq_true c16
     try have c16b2 : (9223372036854775807 < 2 + t314.size) = False := eq_false (Nat.not_lt.2 c16)
     by_cases c17 : ((⟨#[102, 39]⟩ : ByteArray) ++ t314).size + 1 ≤ 9223372036854775807
     ·rw [if_pos c17] at H
      have c17b0 := eq_true c17
      have c17b1 : decide (((⟨#[102, 39]⟩ : ByteArray) ++ t314).size + 1 ≤ 9223372036854775807) = true := decide_eq_true c17
      try have c17b2 : (9223372036854775807 < ((⟨#[102, 39]⟩ : ByteArray) ++ t314).size + 1) = False := eq_false (Nat.not_lt.2 c17)
      have c17h : ((⟨#[102, 39]⟩ : ByteArray) ++ t314).size = 2 + t314.size := by rw [ByteArray.size_append]; rfl
      have c17b3 : (9223372036854775807 < 2 + t314.size + 1) = False := eq_false (by omega)
      obtain rfl := Option.some.inj H
      go_enter Tryd.func17, Tryd.ntmps17
      go_wp2_with (first | ((with_reducible refine gate_dst (N := 1) rfl ?_); refine box_event ?hg (N := 1) ?hd (cs := #[.int .i64 a0_0, .int .i64 a0_1, .int .u64 a0_2, .string a0_3]) (t := 37) ?hr ?_; (case hd => rfl); (case hg => rfl); (case hr => first | (go_simp; done) | (go_simp; rfl)); intro gb311 hg w18 hbox hb; have n0_ := Aside0.mk (below_step (by repeat (first | (with_reducible first | exact HB.out | apply below_alloc | apply pw_below_drewN | apply below_drew1) | exact HB.out)) hb); have n1_ := Aside0.mk (hbox); have n2_ := Aside0.mk ((by rw [hg]; exact (below_size (by repeat (first | (with_reducible first | exact HB.out | apply below_alloc | apply pw_below_drewN | apply below_drew1) | exact HB.out))) : w.heap.size ≤ gb311)); have n3_ := Aside0.mk ((by rw [hg]; exact (below_size (by repeat (first | (with_reducible first | exact HB.out | apply below_alloc | apply pw_below_drewN | apply below_drew1) | exact HB.out))) : w.heap.size ≤ gb311)); clear HB; have HB := n0_; have BK311 := n1_; have GW311 := n2_; have GE311 := n3_; clear n0_ n1_ n2_ n3_; clear hb hbox hg; have hcz19_0 : w18.cell? ⟨gb311, 0, none⟩ = some (.int .i64 a0_0) := (blk_cell BK311.out 0).trans rfl; have hcz19_1 : w18.cell? ⟨gb311, 1, none⟩ = some (.int .i64 a0_1) := (blk_cell BK311.out 1).trans rfl; have hcz19_2 : w18.cell? ⟨gb311, 2, none⟩ = some (.int .u64 a0_2) := (blk_cell BK311.out 2).trans rfl; have hcz19_3 : w18.cell? ⟨gb311, 3, none⟩ = some (.string a0_3) := (blk_cell BK311.out 3).trans rfl; have hfz19_0 := blk_frozen BK311.out 0; have hfz19_1 := blk_frozen BK311.out 1; have hfz19_2 := blk_frozen BK311.out 2; have hfz19_3 := blk_frozen BK311.out 3) | ((with_reducible refine gate_callee (f := 25) rfl ?_); refine goesL_ (some 22) rfl rfl Tryd.func25 (by kernel_rfl) rfl #[.int .i64 (wrap64 (a0_2))] rfl (by (try simp only [List.map_toArray, List.map_cons, List.map_nil]); first | done | rfl | (simp only [List.length_drop, List.length_take]; rfl)) ?_; (with_reducible refine (falseworkref2_Eight.calls k (wrap64 (a0_2)) t313 _ A14.out).mono ?_); rintro e w20 ⟨rfl, hb⟩; refine ⟨_, rfl, ?_⟩; have n0_ := Aside0.mk (blk_below (g := gb311) (o := .cells #[.int .i64 a0_0, .int .i64 a0_1, .int .u64 a0_2, .string a0_3] 37 (0, 0)) (by (with_reducible repeat (first | refine blk_drewN ?_ _ | refine blk_drew ?_ | refine blk_alloc ?_ _)); exact BK311.out) hb); have n1_ := Aside0.mk (below_step (by repeat (first | (with_reducible first | exact HB.out | apply below_alloc | apply pw_below_drewN | apply below_drew1 | refine below_set ?_ GE311.out) | exact HB.out)) hb); clear BK311; clear HB; have BK311 := n0_; have HB := n1_; clear n0_ n1_; (try clear hb); (try clear hb2); (try clear hk); (try clear hi)) | ((with_reducible refine gate_callee (f := 24) rfl ?_); refine goesL_ (some 23) rfl rfl Tryd.func24 (by kernel_rfl) rfl #[.string t313] rfl (by (try simp only [List.map_toArray, List.map_cons, List.map_nil]); first | done | rfl | (simp only [List.length_drop, List.length_take]; rfl)) ?_; (with_reducible refine (falseworkref16_Hex.calls k t313 t314 _ A15.out).mono ?_); rintro e w21 ⟨rfl, hb⟩; refine ⟨_, rfl, ?_⟩; have n0_ := Aside0.mk (blk_below (g := gb311) (o := .cells #[.int .i64 a0_0, .int .i64 a0_1, .int .u64 a0_2, .string a0_3] 37 (0, 0)) (by (with_reducible repeat (first | refine blk_drewN ?_ _ | refine blk_drew ?_ | refine blk_alloc ?_ _)); exact BK311.out) hb); have n1_ := Aside0.mk (below_step (by repeat (first | (with_reducible first | exact HB.out | apply below_alloc | apply pw_below_drewN | apply below_drew1 | refine below_set ?_ GE311.out) | exact HB.out)) hb); clear BK311; clear HB; have BK311 := n0_; have HB := n1_; clear n0_ n1_; (try clear hb); (try clear hb2); (try clear hk); (try clear hi)))
      go_ret
      exact ⟨by first | rfl | (simp [errW_none, errW_some] <;> rfl) | (simp [*, errW_none, errW_some] <;> rfl), by repeat (first | (with_reducible first | exact HB.out | apply below_alloc | apply pw_below_drewN | apply below_drew1 | refine below_set ?_ GE311.out) | exact HB.out)⟩
     ·rw [if_neg c17] at H
      exact absurd H (by simp)
    ·rw [if_neg c16] at H
     exact absurd H (by simp)
   ·rw [if_neg c13] at H
    have c13b0 : (a0_0 == 3) = false := beq_eq_false_iff_ne.mpr c13
    have c13b1 : (a0_0 != 3) = true := bne_iff_ne.mpr c13
    by_cases c22 : a0_0 = 4
    ·rw [if_pos c22] at H
     have c22b0 : (a0_0 == 4) = true := beq_iff_eq.mpr c22
     have c22b1 : (a0_0 != 4) = false := bne_eq_false_iff_eq.mpr c22
     clear c22
     replace H := Option.bind_eq_some_iff.mp H
     obtain ⟨t315, A230, H⟩ := H
     replace H : (if 2 + t315.size ≤ 9223372036854775807 then (if ((⟨#[120, 39]⟩ : ByteArray) ++ t315).size + 1 ≤ 9223372036854775807 then (some (((⟨#[120, 39]⟩ : ByteArray) ++ t315) ++ (⟨#[39]⟩ : ByteArray))) else (none)) else (none)) = some r := H
     have A23 := Aside0.mk A230
     clear A230
     by_cases c24 : 2 + t315.size ≤ 9223372036854775807
     ·rw [if_pos c24] at H
      have c24b0 := eq_true c24
      have c24b1 : decide (2 + t315.size ≤ 9223372036854775807) = true := decide_eq_true c24
      try have c24b2 : (9223372036854775807 < 2 + t315.size) = False := eq_false (Nat.not_lt.2 c24)
      by_cases c25 : ((⟨#[120, 39]⟩ : ByteArray) ++ t315).size + 1 ≤ 9223372036854775807
      ·rw [if_pos c25] at H
       have c25b0 := eq_true c25
       have c25b1 : decide (((⟨#[120, 39]⟩ : ByteArray) ++ t315).size + 1 ≤ 9223372036854775807) = true := decide_eq_true c25
       try have c25b2 : (9223372036854775807 < ((⟨#[120, 39]⟩ : ByteArray) ++ t315).size + 1) = False := eq_false (Nat.not_lt.2 c25)
       have c25h : ((⟨#[120, 39]⟩ : ByteArray) ++ t315).size = 2 + t315.size := by rw [ByteArray.size_append]; rfl
       have c25b3 : (9223372036854775807 < 2 + t315.size + 1) = False := eq_false (by omega)
       obtain rfl := Option.some.inj H
       go_enter Tryd.func17, Tryd.ntmps17
       go_wp2_with (first | ((with_reducible refine gate_dst (N := 1) rfl ?_); refine box_event ?hg (N := 1) ?hd (cs := #[.int .i64 a0_0, .int .i64 a0_1, .int .u64 a0_2, .string a0_3]) (t := 37) ?hr ?_; (case hd => rfl); (case hg => rfl); (case hr => first | (go_simp; done) | (go_simp; rfl)); intro gb311 hg w26 hbox hb; have n0_ := Aside0.mk (below_step (by repeat (first | (with_reducible first | exact HB.out | apply below_alloc | apply pw_below_drewN | apply below_drew1) | exact HB.out)) hb); have n1_ := Aside0.mk (hbox); have n2_ := Aside0.mk ((by rw [hg]; exact (below_size (by repeat (first | (with_reducible first | exact HB.out | apply below_alloc | apply pw_below_drewN | apply below_drew1) | exact HB.out))) : w.heap.size ≤ gb311)); have n3_ := Aside0.mk ((by rw [hg]; exact (below_size (by repeat (first | (with_reducible first | exact HB.out | apply below_alloc | apply pw_below_drewN | apply below_drew1) | exact HB.out))) : w.heap.size ≤ gb311)); clear HB; have HB := n0_; have BK311 := n1_; have GW311 := n2_; have GE311 := n3_; clear n0_ n1_ n2_ n3_; clear hb hbox hg; have hcz27_0 : w26.cell? ⟨gb311, 0, none⟩ = some (.int .i64 a0_0) := (blk_cell BK311.out 0).trans rfl; have hcz27_1 : w26.cell? ⟨gb311, 1, none⟩ = some (.int .i64 a0_1) := (blk_cell BK311.out 1).trans rfl; have hcz27_2 : w26.cell? ⟨gb311, 2, none⟩ = some (.int .u64 a0_2) := (blk_cell BK311.out 2).trans rfl; have hcz27_3 : w26.cell? ⟨gb311, 3, none⟩ = some (.string a0_3) := (blk_cell BK311.out 3).trans rfl; have hfz27_0 := blk_frozen BK311.out 0; have hfz27_1 := blk_frozen BK311.out 1; have hfz27_2 := blk_frozen BK311.out 2; have hfz27_3 := blk_frozen BK311.out 3) | ((with_reducible refine gate_callee (f := 24) rfl ?_); refine goesL_ (some 30) rfl rfl Tryd.func24 (by kernel_rfl) rfl #[.string a0_3] rfl (by (try simp only [List.map_toArray, List.map_cons, List.map_nil]); first | done | rfl | (simp only [List.length_drop, List.length_take]; rfl)) ?_; (with_reducible refine (falseworkref16_Hex.calls k a0_3 t315 _ A23.out).mono ?_); rintro e w28 ⟨rfl, hb⟩; refine ⟨_, rfl, ?_⟩; have n0_ := Aside0.mk (blk_below (g := gb311) (o := .cells #[.int .i64 a0_0, .int .i64 a0_1, .int .u64 a0_2, .string a0_3] 37 (0, 0)) (by (with_reducible repeat (first | refine blk_drewN ?_ _ | refine blk_drew ?_ | refine blk_alloc ?_ _)); exact BK311.out) hb); have n1_ := Aside0.mk (below_step (by repeat (first | (with_reducible first | exact HB.out | apply below_alloc | apply pw_below_drewN | apply below_drew1 | refine below_set ?_ GE311.out) | exact HB.out)) hb); clear BK311; clear HB; have BK311 := n0_; have HB := n1_; clear n0_ n1_; (try clear hb); (try clear hb2); (try clear hk); (try clear hi)))
       go_ret
       exact ⟨by first | rfl | (simp [errW_none, errW_some] <;> rfl) | (simp [*, errW_none, errW_some] <;> rfl), by repeat (first | (with_reducible first | exact HB.out | apply below_alloc | apply pw_below_drewN | apply below_drew1 | refine below_set ?_ GE311.out) | exact HB.out)⟩
      ·rw [if_neg c25] at H
       exact absurd H (by simp)
     ·rw [if_neg c24] at H
      exact absurd H (by simp)
    ·rw [if_neg c22] at H
     have c22b0 : (a0_0 == 4) = false := beq_eq_false_iff_ne.mpr c22
     have c22b1 : (a0_0 != 4) = true := bne_iff_ne.mpr c22
     by_cases c29 : a0_0 = 5
     ·rw [if_pos c29] at H
      have c29b0 : (a0_0 == 5) = true := beq_iff_eq.mpr c29
      have c29b1 : (a0_0 != 5) = false := bne_eq_false_iff_eq.mpr c29
      clear c29
      obtain ⟨y316, hy316⟩ : ∃ y_ : List Int, y_ = (([39] : List Int)) := ⟨_, rfl⟩
      replace H : (falseworkref16_Value.l0 k y316 0 a0_0 a0_1 a0_2 a0_3) = some r := by first | (rw [hy316]; with_reducible exact H) | (have H2_ := (Option.bind_some _ _).symm.trans H; rw [hy316]; with_reducible exact H2_) | (have H2_ := (Option.bind_some _ _).symm.trans H; with_reducible exact H2_) | with_reducible exact H | (rw [hy316]; exact H) | exact H
      have Ny316 := Aside0.mk hy316
      clear hy316
      have H' := Aside0.mk H
      clear H
      go_enter Tryd.func17, Tryd.ntmps17
      go_wp2_with (first | ((with_reducible refine gate_dst (N := 1) rfl ?_); refine box_event ?hg (N := 1) ?hd (cs := #[.int .i64 a0_0, .int .i64 a0_1, .int .u64 a0_2, .string a0_3]) (t := 37) ?hr ?_; (case hd => rfl); (case hg => rfl); (case hr => first | (go_simp; done) | (go_simp; rfl)); intro gb311 hg w30 hbox hb; have n0_ := Aside0.mk (below_step (by repeat (first | (with_reducible first | exact HB.out | apply below_alloc | apply pw_below_drewN | apply below_drew1) | exact HB.out)) hb); have n1_ := Aside0.mk (hbox); have n2_ := Aside0.mk ((by rw [hg]; exact (below_size (by repeat (first | (with_reducible first | exact HB.out | apply below_alloc | apply pw_below_drewN | apply below_drew1) | exact HB.out))) : w.heap.size ≤ gb311)); have n3_ := Aside0.mk ((by rw [hg]; exact (below_size (by repeat (first | (with_reducible first | exact HB.out | apply below_alloc | apply pw_below_drewN | apply below_drew1) | exact HB.out))) : w.heap.size ≤ gb311)); clear HB; have HB := n0_; have BK311 := n1_; have GW311 := n2_; have GE311 := n3_; clear n0_ n1_ n2_ n3_; clear hb hbox hg; have hcz31_0 : w30.cell? ⟨gb311, 0, none⟩ = some (.int .i64 a0_0) := (blk_cell BK311.out 0).trans rfl; have hcz31_1 : w30.cell? ⟨gb311, 1, none⟩ = some (.int .i64 a0_1) := (blk_cell BK311.out 1).trans rfl; have hcz31_2 : w30.cell? ⟨gb311, 2, none⟩ = some (.int .u64 a0_2) := (blk_cell BK311.out 2).trans rfl; have hcz31_3 : w30.cell? ⟨gb311, 3, none⟩ = some (.string a0_3) := (blk_cell BK311.out 3).trans rfl; have hfz31_0 := blk_frozen BK311.out 0; have hfz31_1 := blk_frozen BK311.out 1; have hfz31_2 := blk_frozen BK311.out 2; have hfz31_3 := blk_frozen BK311.out 3) | ((with_reducible refine gate_dst (N := 35) rfl ?_); refine Kd.R_lit (Kd.int .u8) _ 5 ?hg (N := 35) ?hd (xs := ([39] : List Int)) (inner := [.int .u8 39]) (ok := fun _ => True) (okp := fun _ => True) ?hr ?hp (fun _ hk => hk) trivial (Below.refl _ _) (Nat.le_refl _) (by simp) ?_; (case hd => rfl); (case hg => rfl); (case hr => first | (go_simp; done) | (go_simp; rfl)); (case hp => exact (Reps.one (show Kd.M (Kd.int .u8) _ _ _ 39 [.int .u8 39] from rfl) (Reps.none _ _))); intro v317 w32 ho33 hb hg_ hnew_; clear hg_ hnew_; (first | rw [← Ny316.out] at ho33 | (simp only [Int.reduceToNat] at ho33; rw [← Ny316.out] at ho33)); have n0_ := Aside0.mk (Kd.R_lower ho33 (below_size (by repeat (first | (with_reducible first | exact HB.out | apply below_alloc | apply pw_below_drewN | apply below_drew1 | refine below_set ?_ GE311.out) | exact HB.out)))); have n1_ := Aside0.mk (blk_below (g := gb311) (o := .cells #[.int .i64 a0_0, .int .i64 a0_1, .int .u64 a0_2, .string a0_3] 37 (0, 0)) (by (with_reducible repeat (first | refine blk_drewN ?_ _ | refine blk_drew ?_ | refine blk_alloc ?_ _)); exact BK311.out) hb); have n2_ := Aside0.mk (below_step (by repeat (first | (with_reducible first | exact HB.out | apply below_alloc | apply pw_below_drewN | apply below_drew1 | refine below_set ?_ GE311.out) | exact HB.out)) hb); clear BK311; clear HB; have HO318 := n0_; have BK311 := n1_; have HB := n2_; clear n0_ n1_ n2_; clear hb ho33))
      go_loopg [3, 4] k (fun kq v3 v4 w' => ∃ (x3_1 : List Int) (x4_1 : Int), v4 = .int .i64 x4_1 ∧ Aside0 (falseworkref16_Value.l0 kq x3_1 x4_1 a0_0 a0_1 a0_2 a0_3 = some r) ∧ Aside0 (kq ≤ k) ∧ Aside0 (Kd.R (Kd.int .u8) 5 w' w.heap.size (fun _ => True) v3 x3_1) ∧ Aside0 (w'.heap[gb311]? = some (.cells #[.int .i64 a0_0, .int .i64 a0_1, .int .u64 a0_2, .string a0_3] 37 (0, 0))) ∧ Aside0 (Below w.heap.size w w'))
      case atStart => exact ⟨(y316), (0), (by first | rfl | (simp; done) | (simp [*]; done)), H', ⟨Nat.le_refl _⟩, ⟨by (with_reducible repeat (first | apply Kd.R_alloc | apply Kd.R_drewN | apply Kd.R_drew)); exact HO318.out⟩, ⟨by (with_reducible repeat (first | refine blk_drewN ?_ _ | refine blk_drew ?_ | refine blk_alloc ?_ _)); exact BK311.out⟩, ⟨by repeat (first | (with_reducible first | exact HB.out | apply below_alloc | apply pw_below_drewN | apply below_drew1 | refine below_set ?_ GE311.out) | exact HB.out)⟩⟩
      case round =>
       clear H'
       try clear c1
       try clear c2
       try clear c2b0
       try clear c2b1
       try clear p2
       try clear c3
       try clear c3b0
       try clear c3b1
       try clear p6
       try clear c8
       try clear c8b0
       try clear c8b1
       try clear c13
       try clear c13b0
       try clear c13b1
       try clear c16
       try clear c16b0
       try clear c16b1
       try clear c16b2
       try clear c17
       try clear c17b0
       try clear c17b1
       try clear c17b2
       try clear c22
       try clear c22b0
       try clear c22b1
       try clear c23
       try clear c24
       try clear c24b0
       try clear c24b1
       try clear c24b2
       try clear c25
       try clear c25b0
       try clear c25b1
       try clear c25b2
       try clear c29
       try clear c29b0
       try clear c29b1
       try clear hcz11_0
       try clear hcz11_1
       try clear hcz11_2
       try clear hcz11_3
       try clear hcz19_0
       try clear hcz19_1
       try clear hcz19_2
       try clear hcz19_3
       try clear hcz27_0
       try clear hcz27_1
       try clear hcz27_2
       try clear hcz27_3
       try clear hcz31_0
       try clear hcz31_1
       try clear hcz31_2
       try clear hcz31_3
       try clear hcz5_0
       try clear hcz5_1
       try clear hcz5_2
       try clear hcz5_3
       try clear hcz7_0
       try clear hcz7_1
       try clear hcz7_2
       try clear hcz7_3
       try clear hfz11_0
       try clear hfz11_1
       try clear hfz11_2
       try clear hfz11_3
       try clear hfz19_0
       try clear hfz19_1
       try clear hfz19_2
       try clear hfz19_3
       try clear hfz27_0
       try clear hfz27_1
       try clear hfz27_2
       try clear hfz27_3
       try clear hfz31_0
       try clear hfz31_1
       try clear hfz31_2
       try clear hfz31_3
       try clear hfz5_0
       try clear hfz5_1
       try clear hfz5_2
       try clear hfz5_3
       try clear hfz7_0
       try clear hfz7_1
       try clear hfz7_2
       try clear hfz7_3
       obtain ⟨x3_1, x4_1, rfl, HA, HK1, HO_3, BK311, HB⟩ := hrel
       cases gk with
       | zero => exact absurd HA.out (by simp [falseworkref16_Value.l0])
       | succ k1 =>
        have H := HA.out
        clear HA
        simp only [falseworkref16_Value.l0] at H
        by_cases c34 : x4_1 < (a0_3.size : Int)
        ·rw [if_pos c34] at H
         have c34b0 : decide (x4_1 < (a0_3.size : Int)) = true := decide_eq_true c34
         clear c34
         by_cases c35 : 0 ≤ x4_1
         ·rw [if_pos c35] at H
          have c35b0 : decide (0 ≤ x4_1) = true := decide_eq_true c35
          clear c35
          by_cases c37 : x3_1.length < 140737488355328
          ·rw [if_pos c37] at H
           have LMc37 := Aside0.mk c37
           clear c37
           obtain ⟨y319, hy319⟩ : ∃ y_ : List Int, y_ = (x3_1 ++ [bt a0_3 x4_1]) := ⟨_, rfl⟩
           replace H : (if (bt a0_3 x4_1) = 39 then (if y319.length < 140737488355328 then (falseworkref16_Value.l0 k1 (y319 ++ [39]) (wrap64 (x4_1 + 1)) a0_0 a0_1 a0_2 a0_3) else (none)) else (falseworkref16_Value.l0 k1 y319 (wrap64 (x4_1 + 1)) a0_0 a0_1 a0_2 a0_3)) = some r := by first | (rw [hy319]; with_reducible exact H) | (have H2_ := (Option.bind_some _ _).symm.trans H; rw [hy319]; with_reducible exact H2_) | (have H2_ := (Option.bind_some _ _).symm.trans H; with_reducible exact H2_) | with_reducible exact H | (rw [hy319]; exact H) | exact H
           have Ny319 := Aside0.mk hy319
           clear hy319
           by_cases c39 : (bt a0_3 x4_1) = 39
           ·rw [if_pos c39] at H
            have c39b0 : ((bt a0_3 x4_1) == 39) = true := beq_iff_eq.mpr c39
            have c39b1 : ((bt a0_3 x4_1) != 39) = false := bne_eq_false_iff_eq.mpr c39
            clear c39
            by_cases c40 : y319.length < 140737488355328
            ·rw [if_pos c40] at H
             have LMc40 := Aside0.mk c40
             clear c40
             obtain ⟨y322, hy322⟩ : ∃ y_ : List Int, y_ = (y319 ++ [39]) := ⟨_, rfl⟩
             replace H : (falseworkref16_Value.l0 k1 y322 (wrap64 (x4_1 + 1)) a0_0 a0_1 a0_2 a0_3) = some r := by first | (rw [hy322]; with_reducible exact H) | (have H2_ := (Option.bind_some _ _).symm.trans H; rw [hy322]; with_reducible exact H2_) | (have H2_ := (Option.bind_some _ _).symm.trans H; with_reducible exact H2_) | with_reducible exact H | (rw [hy322]; exact H) | exact H
             have Ny322 := Aside0.mk hy322
             clear hy322
             have H' := Aside0.mk H
             clear H
             have hcz41_0 : wr.cell? ⟨gb311, 0, none⟩ = some (.int .i64 a0_0) := (blk_cell BK311.out 0).trans rfl
             have hcz41_1 : wr.cell? ⟨gb311, 1, none⟩ = some (.int .i64 a0_1) := (blk_cell BK311.out 1).trans rfl
             have hcz41_2 : wr.cell? ⟨gb311, 2, none⟩ = some (.int .u64 a0_2) := (blk_cell BK311.out 2).trans rfl
             have hcz41_3 : wr.cell? ⟨gb311, 3, none⟩ = some (.string a0_3) := (blk_cell BK311.out 3).trans rfl
             have hfz41_0 := blk_frozen BK311.out 0
             have hfz41_1 := blk_frozen BK311.out 1
             have hfz41_2 := blk_frozen BK311.out 2
             have hfz41_3 := blk_frozen BK311.out 3
             have p36 : 0 ≤ (x4_1 : Int) := of_decide_eq_true (by first | (with_reducible assumption) | assumption)
             have q36 : x4_1 < (a0_3.size : Int) := of_decide_eq_true (by first | (with_reducible assumption) | assumption)
             have hx36 := bt_at a0_3 x4_1
             replace p36 := eq_true p36
             replace q36 := eq_true q36
             go_wp2_with (first | ((with_reducible refine gate_builtin (b := .append) (xs := #[.tmp 43, .tmp 48]) rfl ?_); at_builtin; refine Kd.R_append (Kd.int .u8) (w0 := w) w.heap.size rfl (.tmp 43) (.tmp 48) 34 5 (.int .u8 0) 1 rfl Tryd.underlying34 info5 rfl (by decide) (by omega) u3 x3_1 (bt a0_3 x4_1) [.int .u8 (bt a0_3 x4_1)] (fun _ => True) (fun _ => False) rfl rfl ?aP (fun _ hk => hk.elim) ?aF ?aO ?aB ?aS ?aL ?_; (case aP => exact rfl); (case aB => exact (by repeat (first | (with_reducible first | exact HB.out | apply below_alloc | apply pw_below_drewN | apply below_drew1 | refine below_set ?_ GE311.out) | exact HB.out))); (case aF => exact (fun _ _ => trivial)); (case aO => exact (by (with_reducible repeat (first | apply Kd.R_alloc | apply Kd.R_drewN | apply Kd.R_drew)); exact HO_3.out)); (case aS => exact (below_size (by repeat (first | (with_reducible first | exact HB.out | apply below_alloc | apply pw_below_drewN | apply below_drew1 | refine below_set ?_ GE311.out) | exact HB.out)))); (case aL => have := LMc37.out; omega); intro v320 w42 ho hb hg hat; rw [← Ny319.out] at ho; have n0_ := Aside0.mk (blk_grown (g := gb311) (o := .cells #[.int .i64 a0_0, .int .i64 a0_1, .int .u64 a0_2, .string a0_3] 37 (0, 0)) (by (with_reducible repeat (first | refine blk_drewN ?_ _ | refine blk_drew ?_ | refine blk_alloc ?_ _)); exact BK311.out) hg (Kd.R_ne HO_3.out BK311.out (by decide))); have n1_ := Aside0.mk (hb); have n2_ := Aside0.mk (ho); clear BK311; clear HB; clear HO_3; have BK311 := n0_; have HB := n1_; have HO321 := n2_; clear n0_ n1_ n2_; clear ho hb hg hat; have hcz43_0 : w42.cell? ⟨gb311, 0, none⟩ = some (.int .i64 a0_0) := (blk_cell BK311.out 0).trans rfl; have hcz43_1 : w42.cell? ⟨gb311, 1, none⟩ = some (.int .i64 a0_1) := (blk_cell BK311.out 1).trans rfl; have hcz43_2 : w42.cell? ⟨gb311, 2, none⟩ = some (.int .u64 a0_2) := (blk_cell BK311.out 2).trans rfl; have hcz43_3 : w42.cell? ⟨gb311, 3, none⟩ = some (.string a0_3) := (blk_cell BK311.out 3).trans rfl; have hfz43_0 := blk_frozen BK311.out 0; have hfz43_1 := blk_frozen BK311.out 1; have hfz43_2 := blk_frozen BK311.out 2; have hfz43_3 := blk_frozen BK311.out 3; have p38 : 0 ≤ (x4_1 : Int) := of_decide_eq_true (by first | (with_reducible assumption) | assumption); have q38 : x4_1 < (a0_3.size : Int) := of_decide_eq_true (by first | (with_reducible assumption) | assumption); have hx38 := bt_at a0_3 x4_1; replace p38 := eq_true p38; replace q38 := eq_true q38) | ((with_reducible refine gate_builtin (b := .append) (xs := #[.tmp 55, .tmp 56]) rfl ?_); at_builtin; refine Kd.R_append (Kd.int .u8) (w0 := w) w.heap.size rfl (.tmp 55) (.tmp 56) 34 5 (.int .u8 0) 1 rfl Tryd.underlying34 info5 rfl (by decide) (by omega) v320 y319 39 [.int .u8 39] (fun _ => True) (fun _ => False) rfl rfl ?aP (fun _ hk => hk.elim) ?aF ?aO ?aB ?aS ?aL ?_; (case aP => exact rfl); (case aB => exact (by repeat (first | (with_reducible first | exact HB.out | apply below_alloc | apply pw_below_drewN | apply below_drew1 | refine below_set ?_ GE311.out) | exact HB.out))); (case aF => exact (fun _ _ => trivial)); (case aO => exact (by (with_reducible repeat (first | apply Kd.R_alloc | apply Kd.R_drewN | apply Kd.R_drew)); exact HO321.out)); (case aS => exact (below_size (by repeat (first | (with_reducible first | exact HB.out | apply below_alloc | apply pw_below_drewN | apply below_drew1 | refine below_set ?_ GE311.out) | exact HB.out)))); (case aL => have := LMc40.out; omega); intro v323 w44 ho hb hg hat; rw [← Ny322.out] at ho; have n0_ := Aside0.mk (blk_grown (g := gb311) (o := .cells #[.int .i64 a0_0, .int .i64 a0_1, .int .u64 a0_2, .string a0_3] 37 (0, 0)) (by (with_reducible repeat (first | refine blk_drewN ?_ _ | refine blk_drew ?_ | refine blk_alloc ?_ _)); exact BK311.out) hg (Kd.R_ne HO321.out BK311.out (by decide))); have n1_ := Aside0.mk (hb); have n2_ := Aside0.mk (ho); clear BK311; clear HB; clear HO321; have BK311 := n0_; have HB := n1_; have HO324 := n2_; clear n0_ n1_ n2_; clear ho hb hg hat))
             go_roundg k1
             case measure => have := HK1.out; omega
             case rel => exact ⟨(y322), (wrap64 (x4_1 + 1)), (by first | rfl | (simp; done) | (simp [*]; done)), H', ⟨by have := HK1.out; omega⟩, ⟨by (with_reducible repeat (first | apply Kd.R_alloc | apply Kd.R_drewN | apply Kd.R_drew)); exact HO324.out⟩, ⟨by (with_reducible repeat (first | refine blk_drewN ?_ _ | refine blk_drew ?_ | refine blk_alloc ?_ _)); exact BK311.out⟩, ⟨by repeat (first | (with_reducible first | exact HB.out | apply below_alloc | apply pw_below_drewN | apply below_drew1 | refine below_set ?_ GE311.out) | exact HB.out)⟩⟩
            ·rw [if_neg c40] at H
             exact absurd H (by simp)
           ·rw [if_neg c39] at H
            have c39b0 : ((bt a0_3 x4_1) == 39) = false := beq_eq_false_iff_ne.mpr c39
            have c39b1 : ((bt a0_3 x4_1) != 39) = true := bne_iff_ne.mpr c39
            have H' := Aside0.mk H
            clear H
            have hcz45_0 : wr.cell? ⟨gb311, 0, none⟩ = some (.int .i64 a0_0) := (blk_cell BK311.out 0).trans rfl
            have hcz45_1 : wr.cell? ⟨gb311, 1, none⟩ = some (.int .i64 a0_1) := (blk_cell BK311.out 1).trans rfl
            have hcz45_2 : wr.cell? ⟨gb311, 2, none⟩ = some (.int .u64 a0_2) := (blk_cell BK311.out 2).trans rfl
            have hcz45_3 : wr.cell? ⟨gb311, 3, none⟩ = some (.string a0_3) := (blk_cell BK311.out 3).trans rfl
            have hfz45_0 := blk_frozen BK311.out 0
            have hfz45_1 := blk_frozen BK311.out 1
            have hfz45_2 := blk_frozen BK311.out 2
            have hfz45_3 := blk_frozen BK311.out 3
            have p36 : 0 ≤ (x4_1 : Int) := of_decide_eq_true (by first | (with_reducible assumption) | assumption)
            have q36 : x4_1 < (a0_3.size : Int) := of_decide_eq_true (by first | (with_reducible assumption) | assumption)
            have hx36 := bt_at a0_3 x4_1
            replace p36 := eq_true p36
            replace q36 := eq_true q36
            go_wp2_with (first | ((with_reducible refine gate_builtin (b := .append) (xs := #[.tmp 43, .tmp 48]) rfl ?_); at_builtin; refine Kd.R_append (Kd.int .u8) (w0 := w) w.heap.size rfl (.tmp 43) (.tmp 48) 34 5 (.int .u8 0) 1 rfl Tryd.underlying34 info5 rfl (by decide) (by omega) u3 x3_1 (bt a0_3 x4_1) [.int .u8 (bt a0_3 x4_1)] (fun _ => True) (fun _ => False) rfl rfl ?aP (fun _ hk => hk.elim) ?aF ?aO ?aB ?aS ?aL ?_; (case aP => exact rfl); (case aB => exact (by repeat (first | (with_reducible first | exact HB.out | apply below_alloc | apply pw_below_drewN | apply below_drew1 | refine below_set ?_ GE311.out) | exact HB.out))); (case aF => exact (fun _ _ => trivial)); (case aO => exact (by (with_reducible repeat (first | apply Kd.R_alloc | apply Kd.R_drewN | apply Kd.R_drew)); exact HO_3.out)); (case aS => exact (below_size (by repeat (first | (with_reducible first | exact HB.out | apply below_alloc | apply pw_below_drewN | apply below_drew1 | refine below_set ?_ GE311.out) | exact HB.out)))); (case aL => have := LMc37.out; omega); intro v320 w46 ho hb hg hat; rw [← Ny319.out] at ho; have n0_ := Aside0.mk (blk_grown (g := gb311) (o := .cells #[.int .i64 a0_0, .int .i64 a0_1, .int .u64 a0_2, .string a0_3] 37 (0, 0)) (by (with_reducible repeat (first | refine blk_drewN ?_ _ | refine blk_drew ?_ | refine blk_alloc ?_ _)); exact BK311.out) hg (Kd.R_ne HO_3.out BK311.out (by decide))); have n1_ := Aside0.mk (hb); have n2_ := Aside0.mk (ho); clear BK311; clear HB; clear HO_3; have BK311 := n0_; have HB := n1_; have HO321 := n2_; clear n0_ n1_ n2_; clear ho hb hg hat; have hcz47_0 : w46.cell? ⟨gb311, 0, none⟩ = some (.int .i64 a0_0) := (blk_cell BK311.out 0).trans rfl; have hcz47_1 : w46.cell? ⟨gb311, 1, none⟩ = some (.int .i64 a0_1) := (blk_cell BK311.out 1).trans rfl; have hcz47_2 : w46.cell? ⟨gb311, 2, none⟩ = some (.int .u64 a0_2) := (blk_cell BK311.out 2).trans rfl; have hcz47_3 : w46.cell? ⟨gb311, 3, none⟩ = some (.string a0_3) := (blk_cell BK311.out 3).trans rfl; have hfz47_0 := blk_frozen BK311.out 0; have hfz47_1 := blk_frozen BK311.out 1; have hfz47_2 := blk_frozen BK311.out 2; have hfz47_3 := blk_frozen BK311.out 3; have p38 : 0 ≤ (x4_1 : Int) := of_decide_eq_true (by first | (with_reducible assumption) | assumption); have q38 : x4_1 < (a0_3.size : Int) := of_decide_eq_true (by first | (with_reducible assumption) | assumption); have hx38 := bt_at a0_3 x4_1; replace p38 := eq_true p38; replace q38 := eq_true q38))
            go_roundg k1
            case measure => have := HK1.out; omega
            case rel => exact ⟨(y319), (wrap64 (x4_1 + 1)), (by first | rfl | (simp; done) | (simp [*]; done)), H', ⟨by have := HK1.out; omega⟩, ⟨by (with_reducible repeat (first | apply Kd.R_alloc | apply Kd.R_drewN | apply Kd.R_drew)); exact HO321.out⟩, ⟨by (with_reducible repeat (first | refine blk_drewN ?_ _ | refine blk_drew ?_ | refine blk_alloc ?_ _)); exact BK311.out⟩, ⟨by repeat (first | (with_reducible first | exact HB.out | apply below_alloc | apply pw_below_drewN | apply below_drew1 | refine below_set ?_ GE311.out) | exact HB.out)⟩⟩
          ·rw [if_neg c37] at H
           exact absurd H (by simp)
         ·rw [if_neg c35] at H
          exact absurd H (by simp)
        ·rw [if_neg c34] at H
         have c34b0 : decide (x4_1 < (a0_3.size : Int)) = false := decide_eq_false c34
         clear c34
         by_cases c48 : x3_1.length < 140737488355328
         ·rw [if_pos c48] at H
          have LMc48 := Aside0.mk c48
          clear c48
          obtain ⟨y325, hy325⟩ : ∃ y_ : List Int, y_ = (x3_1 ++ [39]) := ⟨_, rfl⟩
          replace H : (some (strOfNums y325)) = some r := by first | (rw [hy325]; with_reducible exact H) | (have H2_ := (Option.bind_some _ _).symm.trans H; rw [hy325]; with_reducible exact H2_) | (have H2_ := (Option.bind_some _ _).symm.trans H; with_reducible exact H2_) | with_reducible exact H | (rw [hy325]; exact H) | exact H
          have Ny325 := Aside0.mk hy325
          clear hy325
          obtain rfl := Option.some.inj H
          have hcz49_0 : wr.cell? ⟨gb311, 0, none⟩ = some (.int .i64 a0_0) := (blk_cell BK311.out 0).trans rfl
          have hcz49_1 : wr.cell? ⟨gb311, 1, none⟩ = some (.int .i64 a0_1) := (blk_cell BK311.out 1).trans rfl
          have hcz49_2 : wr.cell? ⟨gb311, 2, none⟩ = some (.int .u64 a0_2) := (blk_cell BK311.out 2).trans rfl
          have hcz49_3 : wr.cell? ⟨gb311, 3, none⟩ = some (.string a0_3) := (blk_cell BK311.out 3).trans rfl
          have hfz49_0 := blk_frozen BK311.out 0
          have hfz49_1 := blk_frozen BK311.out 1
          have hfz49_2 := blk_frozen BK311.out 2
          have hfz49_3 := blk_frozen BK311.out 3
          go_wp2_with (first | ((with_reducible refine gate_builtin (b := .append) (xs := #[.tmp 58, .tmp 59]) rfl ?_); at_builtin; refine Kd.R_append (Kd.int .u8) (w0 := w) w.heap.size rfl (.tmp 58) (.tmp 59) 34 5 (.int .u8 0) 1 rfl Tryd.underlying34 info5 rfl (by decide) (by omega) u3 x3_1 39 [.int .u8 39] (fun _ => True) (fun _ => False) rfl rfl ?aP (fun _ hk => hk.elim) ?aF ?aO ?aB ?aS ?aL ?_; (case aP => exact rfl); (case aB => exact (by repeat (first | (with_reducible first | exact HB.out | apply below_alloc | apply pw_below_drewN | apply below_drew1 | refine below_set ?_ GE311.out) | exact HB.out))); (case aF => exact (fun _ _ => trivial)); (case aO => exact (by (with_reducible repeat (first | apply Kd.R_alloc | apply Kd.R_drewN | apply Kd.R_drew)); exact HO_3.out)); (case aS => exact (below_size (by repeat (first | (with_reducible first | exact HB.out | apply below_alloc | apply pw_below_drewN | apply below_drew1 | refine below_set ?_ GE311.out) | exact HB.out)))); (case aL => have := LMc48.out; omega); intro v326 w50 ho hb hg hat; rw [← Ny325.out] at ho; have n0_ := Aside0.mk (blk_grown (g := gb311) (o := .cells #[.int .i64 a0_0, .int .i64 a0_1, .int .u64 a0_2, .string a0_3] 37 (0, 0)) (by (with_reducible repeat (first | refine blk_drewN ?_ _ | refine blk_drew ?_ | refine blk_alloc ?_ _)); exact BK311.out) hg (Kd.R_ne HO_3.out BK311.out (by decide))); have n1_ := Aside0.mk (hb); have n2_ := Aside0.mk (ho); clear BK311; clear HB; clear HO_3; have BK311 := n0_; have HB := n1_; have HO327 := n2_; clear n0_ n1_ n2_; clear ho hb hg hat; have hcv51 := own_string (P := Tryd.prog) Tryd.underlying34 Tryd.underlying5 Tryd.underlying9 (Kd.own_of_R HO327.out)))
          go_ret
          exact ⟨by first | rfl | (simp [errW_none, errW_some] <;> rfl) | (simp [*, errW_none, errW_some] <;> rfl), by repeat (first | (with_reducible first | exact HB.out | apply below_alloc | apply pw_below_drewN | apply below_drew1 | refine below_set ?_ GE311.out) | exact HB.out)⟩
         ·rw [if_neg c48] at H
          exact absurd H (by simp)
     ·rw [if_neg c29] at H
      have c29b0 : (a0_0 == 5) = false := beq_eq_false_iff_ne.mpr c29
      have c29b1 : (a0_0 != 5) = true := bne_iff_ne.mpr c29
      obtain rfl := Option.some.inj H
      go_enter Tryd.func17, Tryd.ntmps17
      go_wp2_with (first | ((with_reducible refine gate_dst (N := 1) rfl ?_); refine box_event ?hg (N := 1) ?hd (cs := #[.int .i64 a0_0, .int .i64 a0_1, .int .u64 a0_2, .string a0_3]) (t := 37) ?hr ?_; (case hd => rfl); (case hg => rfl); (case hr => first | (go_simp; done) | (go_simp; rfl)); intro gb311 hg w52 hbox hb; have n0_ := Aside0.mk (below_step (by repeat (first | (with_reducible first | exact HB.out | apply below_alloc | apply pw_below_drewN | apply below_drew1) | exact HB.out)) hb); have n1_ := Aside0.mk (hbox); have n2_ := Aside0.mk ((by rw [hg]; exact (below_size (by repeat (first | (with_reducible first | exact HB.out | apply below_alloc | apply pw_below_drewN | apply below_drew1) | exact HB.out))) : w.heap.size ≤ gb311)); have n3_ := Aside0.mk ((by rw [hg]; exact (below_size (by repeat (first | (with_reducible first | exact HB.out | apply below_alloc | apply pw_below_drewN | apply below_drew1) | exact HB.out))) : w.heap.size ≤ gb311)); clear HB; have HB := n0_; have BK311 := n1_; have GW311 := n2_; have GE311 := n3_; clear n0_ n1_ n2_ n3_; clear hb hbox hg; have hcz53_0 : w52.cell? ⟨gb311, 0, none⟩ = some (.int .i64 a0_0) := (blk_cell BK311.out 0).trans rfl; have hcz53_1 : w52.cell? ⟨gb311, 1, none⟩ = some (.int .i64 a0_1) := (blk_cell BK311.out 1).trans rfl; have hcz53_2 : w52.cell? ⟨gb311, 2, none⟩ = some (.int .u64 a0_2) := (blk_cell BK311.out 2).trans rfl; have hcz53_3 : w52.cell? ⟨gb311, 3, none⟩ = some (.string a0_3) := (blk_cell BK311.out 3).trans rfl; have hfz53_0 := blk_frozen BK311.out 0; have hfz53_1 := blk_frozen BK311.out 1; have hfz53_2 := blk_frozen BK311.out 2; have hfz53_3 := blk_frozen BK311.out 3))
      go_ret
      exact ⟨by first | rfl | (simp [errW_none, errW_some] <;> rfl) | (simp [*, errW_none, errW_some] <;> rfl), by repeat (first | (with_reducible first | exact HB.out | apply below_alloc | apply pw_below_drewN | apply below_drew1 | refine below_set ?_ GE311.out) | exact HB.out)⟩
end Go.Proofs.YtjehfmimbbdnkaaDoor.L
namespace Go.Proofs.YtjehfmimbbdnkaaDoor.L
open Go.RowKit Go.Proofs.YtjehfmimbbdnkaaDoorW.PrintWords Go.Proofs.YtjehfmimbbdnkaaDoorW.PrintLast Go.Proofs.YtjehfmimbbdnkaaDoorW.PrintMore
attribute [local go_sem] max2_int min2_int max_two min_two max_three min_three max_four min_four
set_option linter.unusedVariables false
set_option linter.unusedSimpArgs false
def falseworkref1_Canon.f (a0 : Int) : Option (Int) := if (Go.bits .andNot .u64 a0 9223372036854775808) > 9218868437227405312 then (some 9221120237041090560) else (if a0 = 9223372036854775808 then (some 0) else (some a0))
set_option maxHeartbeats 8000000 in
set_option maxRecDepth 100000 in
theorem falseworkref1_Canon.calls (a0 : Int) (r : Int) (w : World) (h : falseworkref1_Canon.f a0 = some r) :
  Calls Tryd.prog 18 #[.int .u64 a0] w fun e w' => e = .returned (.int .u64 r) ∧ Drawn0 w w' := by
 have H : (if (Go.bits .andNot .u64 a0 9223372036854775808) > 9218868437227405312 then (some 9221120237041090560) else (if a0 = 9223372036854775808 then (some 0) else (some a0))) = some r := h
 clear h
 by_cases c2 : (Go.bits .andNot .u64 a0 9223372036854775808) > 9218868437227405312
 ·rw [if_pos c2] at H
  have c2b0 : decide (9218868437227405312 < (Go.bits .andNot .u64 a0 9223372036854775808)) = true := decide_eq_true c2
  clear c2
  obtain rfl := Option.some.inj H
  go_enter Tryd.func18, Tryd.ntmps18
  go_wp2
  go_ret
  exact ⟨by first | rfl | (simp; done) | (simp [*]; done), by repeat (first | exact Drawn0.refl _ | apply Drawn0.step)⟩
 ·rw [if_neg c2] at H
  have c2b0 : decide (9218868437227405312 < (Go.bits .andNot .u64 a0 9223372036854775808)) = false := decide_eq_false c2
  clear c2
  by_cases c3 : a0 = 9223372036854775808
  ·rw [if_pos c3] at H
   have c3b0 : (a0 == 9223372036854775808) = true := beq_iff_eq.mpr c3
   have c3b1 : (a0 != 9223372036854775808) = false := bne_eq_false_iff_eq.mpr c3
   clear c3
   obtain rfl := Option.some.inj H
   go_enter Tryd.func18, Tryd.ntmps18
   go_wp2
   go_ret
   exact ⟨by first | rfl | (simp; done) | (simp [*]; done), by repeat (first | exact Drawn0.refl _ | apply Drawn0.step)⟩
  ·rw [if_neg c3] at H
   have c3b0 : (a0 == 9223372036854775808) = false := beq_eq_false_iff_ne.mpr c3
   have c3b1 : (a0 != 9223372036854775808) = true := bne_iff_ne.mpr c3
   obtain rfl := Option.some.inj H
   go_enter Tryd.func18, Tryd.ntmps18
   go_wp2
   go_ret
   exact ⟨by first | rfl | (simp; done) | (simp [*]; done), by repeat (first | exact Drawn0.refl _ | apply Drawn0.step)⟩
end Go.Proofs.YtjehfmimbbdnkaaDoor.L
set_option linter.unusedVariables false
namespace Go.Proofs.YtjehfmimbbdnkaaDoor.LexPure
open Go.RowKit Go.Proofs.YtjehfmimbbdnkaaDoorW.PrintWords Go.Proofs.YtjehfmimbbdnkaaDoorW.PrintLast Go.Proofs.YtjehfmimbbdnkaaDoorW.PrintMore
open Go.Proofs.YtjehfmimbbdnkaaDoor.L Go.Proofs.YtjehfmimbbdnkaaDoor
theorem L8_app2 (a b : ByteArray) : L8 (a ++ b) = L8 a ++ L8 b := by
  unfold L8
  rw [ByteArray.data_append, Array.toList_append]
theorem L8_strs2 (xs : List Int) : L8 (strOfNums xs) = xs.map fun n => UInt8.ofNat n.toNat := strOfNums_data xs
theorem map_back : ∀ l : List UInt8, (l.map fun c => (c.toNat : Int)).map (fun n : Int => UInt8.ofNat n.toNat) = l
  | [] => rfl
  | c :: l => by rw [List.map_cons, List.map_cons, map_back l]; simp
theorem size_of (u : ByteArray) (l : List UInt8) (h : L8 u = l) : u.size = l.length := by rw [← L8_len, h]
theorem wrapU (n : Int) (h0 : 0 ≤ n) (h1 : n < 18446744073709551616) : IntKind.u64.wrap n = n := by
  simp only [IntKind.wrap, IntKind.bits, IntKind.signed]
  simp
  omega
theorem wrapU_64 (n : Int) (h0 : 0 ≤ n) (h1 : n < 18446744073709551616) : IntKind.u64.wrap (wrap64 n) = n := by
  simp only [IntKind.wrap, IntKind.bits, IntKind.signed]
  simp
  unfold wrap64
  omega
theorem andNot_top (a : Nat) (h : a < 18446744073709551616) : bits .andNot .u64 (a : Int) 9223372036854775808 = ((a % 9223372036854775808 : Nat) : Int) := by
  show IntKind.u64.wrap ((BitVec.ofInt 64 (a : Int) &&& ~~~BitVec.ofInt 64 (9223372036854775808 : Int)).toNat : Int) = _
  have e1 : (~~~BitVec.ofInt 64 (9223372036854775808 : Int)).toNat = 2 ^ 63 - 1 := by decide +kernel
  have e2 : (BitVec.ofInt 64 (a : Int)).toNat = a := by
    rw [BitVec.toNat_ofInt]
    omega
  rw [BitVec.toNat_and, e1, e2, Nat.and_two_pow_sub_one_eq_mod]
  exact wrapU _ (by omega) (by omega)
theorem canon_eq (a : Nat) (h : a < 18446744073709551616) : falseworkref1_Canon.f (a : Int) = some (canonI (a : Int)) := by
  unfold falseworkref1_Canon.f canonI
  rw [andNot_top a h]
  have e : ((a % 9223372036854775808 : Nat) : Int) = (a : Int) % 9223372036854775808 := by omega
  rw [e]
  split
  · rfl
  · split <;> rfl
def hexd (n : Nat) : UInt8 := if n < 10 then UInt8.ofNat (48 + n) else UInt8.ofNat (87 + n)
theorem hexd_hex : ∀ n, n < 16 → isHex (hexd n) = true ∧ hexVal (hexd n) = n := by decide +kernel
theorem hexd_bt : ∀ n : Nat, n < 16 → bt (⟨#[48, 49, 50, 51, 52, 53, 54, 55, 56, 57, 97, 98, 99, 100, 101, 102]⟩ : ByteArray) (n : Int) = ((hexd n).toNat : Int) := by decide +kernel
def hexs : List UInt8 → List UInt8
  | [] => []
  | c :: l => hexd (c.toNat / 16) :: hexd (c.toNat % 16) :: hexs l
theorem hexs_len : ∀ l, (hexs l).length = 2 * l.length
  | [] => rfl
  | c :: l => by simp [hexs, hexs_len l]; omega
theorem hexs_hex : ∀ l, ∀ d ∈ hexs l, isHex d = true
  | [], d, h => by simp [hexs] at h
  | c :: l, d, h => by
    have hc := c.toNat_lt
    unfold hexs at h
    rcases List.mem_cons.1 h with rfl | h
    · exact (hexd_hex _ (by omega)).1
    · rcases List.mem_cons.1 h with rfl | h
      · exact (hexd_hex _ (by omega)).1
      · exact hexs_hex l d h
theorem hexs_pairs : ∀ l, pairsS (hexs l) = l.map fun c => (c.toNat : Int)
  | [] => rfl
  | c :: l => by
    have hc := c.toNat_lt
    have h1 := (hexd_hex (c.toNat / 16) (by omega)).2
    have h2 := (hexd_hex (c.toNat % 16) (by omega)).2
    show pairsS (hexd (c.toNat / 16) :: hexd (c.toNat % 16) :: hexs l) = _
    rw [pairsS, h1, h2, hexs_pairs l, List.map_cons]
    congr 2
    omega
theorem hexs_append : ∀ a b, hexs (a ++ b) = hexs a ++ hexs b
  | [], b => rfl
  | c :: a, b => by
    show _ :: _ :: hexs (a ++ b) = _
    rw [hexs_append a b]
    rfl
theorem hex_loop (s : ByteArray) (hs : s.size ≤ 1000) : ∀ (m k i : Nat) (acc : List Int), i + m = s.size → acc.length ≤ 2 * i → m < k →
    falseworkref16_Hex.l0 k s acc (i : Int) = some (strOfNums (acc ++ (hexs ((L8 s).drop i)).map fun c => (c.toNat : Int)))
  | _, 0, _, _, _, _, hk => by omega
  | 0, k + 1, i, acc, h, ha, hk => by
    have : (L8 s).drop i = [] := List.drop_eq_nil_of_le (by rw [L8_len]; omega)
    rw [this]
    unfold falseworkref16_Hex.l0
    rw [if_neg (by omega)]
    simp [hexs]
  | m + 1, k + 1, i, acc, h, ha, hk => by
    have hi : i < s.size := by omega
    have hw : wrap64 ((i : Int) + 1) = ((i + 1 : Nat) : Int) := by rw [wrap_small (by omega) (by omega)]; omega
    have hb := bt_L8 s i hi
    rw [drop_L8 s i hi]
    generalize (L8 s)[i]'(by rw [L8_len]; exact hi) = c at hb ⊢
    have hc := c.toNat_lt
    have e1 : (Int.tdiv (c.toNat : Int) 16) % 256 = ((c.toNat / 16 : Nat) : Int) := by rw [Int.tdiv_eq_ediv_of_nonneg (by omega)]; omega
    have e2 : Int.tmod (c.toNat : Int) 16 = ((c.toNat % 16 : Nat) : Int) := by rw [Int.tmod_eq_emod_of_nonneg (by omega)]; omega
    unfold falseworkref16_Hex.l0
    rw [if_pos (by omega), if_pos (by omega), hb, e1, e2, if_pos (by omega), if_pos (by omega), if_pos (by omega), if_pos (by omega), Option.bind_some, hexd_bt _ (by omega), hexd_bt _ (by omega), hw,
      if_pos (by show acc.length + 2 < _; omega), hex_loop s hs m k (i + 1) _ (by omega) (by simp; omega) (by omega)]
    simp [hexs]
theorem hex_f (s : ByteArray) (hs : s.size ≤ 1000) (k : Nat) (hk : 1000 < k) : ∃ r, falseworkref16_Hex.f k s = some r ∧ L8 r = hexs (L8 s) := by
  refine ⟨_, hex_loop s hs s.size k 0 [] (by omega) (by simp) (by omega), ?_⟩
  rw [List.nil_append, List.drop_zero, L8_strs2, List.map_map]
  have : ((fun n : Int => UInt8.ofNat n.toNat) ∘ fun c : UInt8 => (c.toNat : Int)) = id := by
    funext c
    simp
  rw [this, List.map_id]
theorem coded_shape (u : ByteArray) (c : UInt8) (D : List UInt8) (h : L8 u = c :: 39 :: (D ++ [39])) (hD : ∀ d ∈ D, isHex d = true) :
    hexN u = D.length ∧ digitsS u = D ∧ u.size = D.length + 3 ∧ bt u ((2 + D.length : Nat) : Int) = 39 ∧ bt u 0 = (c.toNat : Int) ∧ bt u 1 = 39 := by
  have hz : u.size = D.length + 3 := by rw [size_of u _ h]; simp
  have hw : ((L8 u).drop 2).takeWhile isHex = D := by
    rw [h]
    show (D ++ [39]).takeWhile isHex = D
    rw [List.takeWhile_append_of_pos hD]
    simp [show isHex 39 = false by decide]
  refine ⟨?_, hw, hz, ?_, bt0 u c _ h, bt1 u c 39 _ h⟩
  · unfold hexN
    rw [hw]
  · have := bt_L8 u (2 + D.length) (by omega)
    rw [this]
    have e : (L8 u)[2 + D.length]'(by rw [L8_len]; omega) = 39 := by
      have e0 : (L8 u)[2 + D.length]? = some 39 := by
        rw [h, show 2 + D.length = D.length + 1 + 1 from by omega]
        simp
      exact (List.getElem?_eq_some_iff.1 e0).2
    rw [e]
    rfl
theorem coded_one (u : ByteArray) (c : UInt8) (D : List UInt8) (h : L8 u = c :: 39 :: (D ++ [39])) (hc : c = 120 ∨ c = 102) : oneR u = codedR u := by
  have hz : u.size = D.length + 3 := by rw [size_of u _ h]; simp
  have h0 := bt0 u c _ h
  have h1 := bt1 u c 39 _ h
  unfold oneR
  rw [if_pos ⟨by rcases hc with rfl | rfl <;> rw [h0] <;> decide, by omega, by rw [h1]; rfl⟩]
theorem coded_odd (u : ByteArray) (h : hexN u % 2 = 1) : (codedR u).2.2.2.2.2.2.2 = 0 := by
  unfold codedR
  split
  · rfl
  · split
    · rfl
    · split
      · rw [if_neg (by omega)]
        rfl
      · rw [if_pos (.inl h)]
        rfl
end Go.Proofs.YtjehfmimbbdnkaaDoor.LexPure
namespace Go.Proofs.YtjehfmimbbdnkaaDoor.L
open Go.RowKit Go.Proofs.YtjehfmimbbdnkaaDoorW.PrintWords Go.Proofs.YtjehfmimbbdnkaaDoorW.PrintLast Go.Proofs.YtjehfmimbbdnkaaDoorW.PrintMore
attribute [local go_sem] max2_int min2_int max_two min_two max_three min_three max_four min_four
set_option linter.unusedVariables false
set_option linter.unusedSimpArgs false
attribute [local go_sem high] eqA37
def falseworklaw16_LexFloats.f (k : Nat) (a0 : Int) : Option (Bool) := (falseworkref16_Value.f k 3 0 a0 (⟨#[]⟩ : ByteArray)).bind fun t352 => ((lex_Lex.f k t352).bind fun bt353 => (if 0 ≤ (wrap64 ((t352.size : Int) - 2)) then (if (wrap64 ((t352.size : Int) - 2)) ≤ (t352.size : Int) then (if (t352.extract 0 ((wrap64 ((t352.size : Int) - 2)) : Int).toNat).size + 1 ≤ 9223372036854775807 then ((lex_Lex.f k ((t352.extract 0 ((wrap64 ((t352.size : Int) - 2)) : Int).toNat) ++ (⟨#[39]⟩ : ByteArray))).bind fun bt358 => ((falseworklaw16_num.f bt353.2.2).bind fun t363 => (if t363 = 0 then (if (bt353.1.length : Int) = 2 then (if 0 < (bt353.1.length : Int) then ((falseworkref1_Canon.f a0).bind fun t365 => (if (((rd_T39 bt353.1 0).f2.f0) == 3 && (((rd_T39 bt353.1 0).f2.f1) == 0 && (((rd_T39 bt353.1 0).f2.f2) == t365 && ((((rd_T39 bt353.1 0).f2.f3).toList) == ([] : List UInt8))))) = true then ((falseworklaw16_num.f bt358.2.2).bind fun t366 => (if t366 = 3 then ((falseworklaw16_awake.f k).bind fun t367 => (some t367)) else (some false))) else (some false))) else (none)) else (some false)) else (some false)))) else (none)) else (none)) else (none)))
theorem falseworklaw16_LexFloats.mono : ∀ a0 k, LeO (falseworklaw16_LexFloats.f k a0) (falseworklaw16_LexFloats.f (k + 1) a0) := by
 intro a0 k
 unfold falseworklaw16_LexFloats.f
 repeat' first
   | (with_reducible exact falseworklaw16_awake.mono _)
   | (with_reducible exact falseworkref16_Value.mono _ _ _ _ _)
   | (with_reducible exact lex_Lex.mono _ _)
   | (with_reducible exact LeO.refl _)
   | (with_reducible exact LeO.none _)
   | (with_reducible refine LeO.ite ?_ ?_)
   | (with_reducible refine LeO.bind ?_ (fun _ => ?_))
   | exact falseworklaw16_awake.mono _
   | exact falseworkref16_Value.mono _ _ _ _ _
   | exact lex_Lex.mono _ _
   | exact LeO.none _
   | refine LeO.ite ?_ ?_
   | refine LeO.bind ?_ (fun _ => ?_)
def falseworklaw16_LexFloats.T4 : Bool × List (List Nat × List Nat) := (true, [([], []), ([0], [0]), ([1], [1]), ([2, 1], [2]), ([3], [3]), ([4, 3], [3, 4]), ([5, 3], [3, 5]), ([3, 6], [3, 6]), ([7, 3], [7]), ([8], [8]), ([9, 8], [8, 9]), ([10, 8], [8, 10]), ([11, 8], [8, 11]), ([8], [8]), ([13, 8, 8], [8, 13]), ([14, 8], [8, 14]), ([12, 15, 8], [8, 12, 15]), ([8, 16], [8, 16]), ([17, 14], [17]), ([18], [18]), ([19, 18, 18], [18, 19]), ([20, 18], [18, 20]), ([18, 21], [18, 21]), ([22, 20], [22]), ([23, 23], [23]), ([23, 24], [23, 24]), ([25, 24, 0, 1, 2, 3, 4, 5, 6, 7, 8, 9, 10, 11, 12, 13, 14, 15, 16, 17, 18, 19, 20, 21, 22, 23, 24, 25], [25])])
def falseworklaw16_LexFloats.B4 : List Nat := [0, 1, 3, 7, 15, 31, 63, 127, 255, 511, 1023, 2047, 4095, 511, 8703, 25087, 65535, 131071, 262143, 524287, 1048575, 2097151, 4194303, 8388607, 16777215, 33554431, 67108863]
theorem falseworklaw16_LexFloats.tab4 : rtab .any (opsOf Tryd.f7 4) = falseworklaw16_LexFloats.T4 := by kernel_rfl
theorem falseworklaw16_LexFloats.bits4 : waitsOk falseworklaw16_LexFloats.T4.2 falseworklaw16_LexFloats.B4 = true := by kernel_rfl
set_option maxHeartbeats 8000000 in
set_option maxRecDepth 100000 in
theorem falseworklaw16_LexFloats.calls (k : Nat) (a0 : Int) (r : Bool) (w : World) (h : falseworklaw16_LexFloats.f k a0 = some r) (hr : r = true) (hG : GL w) :
  Calls Tryd.prog 7 #[.int .u64 a0] w fun e w' => e = .returned (.bool r) ∧ Below w.heap.size w w' := by
 have HR_ := Aside0.mk hr
 clear hr
 have hu37 := Tryd.underlying37
 have HB := Aside0.mk (Below.refl w.heap.size w)
 have HG := Aside0.mk hG
 clear hG
 have H : ((falseworkref16_Value.f k 3 0 a0 (⟨#[]⟩ : ByteArray)).bind fun t352 => ((lex_Lex.f k t352).bind fun bt353 => (if 0 ≤ (wrap64 ((t352.size : Int) - 2)) then (if (wrap64 ((t352.size : Int) - 2)) ≤ (t352.size : Int) then (if (t352.extract 0 ((wrap64 ((t352.size : Int) - 2)) : Int).toNat).size + 1 ≤ 9223372036854775807 then ((lex_Lex.f k ((t352.extract 0 ((wrap64 ((t352.size : Int) - 2)) : Int).toNat) ++ (⟨#[39]⟩ : ByteArray))).bind fun bt358 => ((falseworklaw16_num.f bt353.2.2).bind fun t363 => (if t363 = 0 then (if (bt353.1.length : Int) = 2 then (if 0 < (bt353.1.length : Int) then ((falseworkref1_Canon.f a0).bind fun t365 => (if (((rd_T39 bt353.1 0).f2.f0) == 3 && (((rd_T39 bt353.1 0).f2.f1) == 0 && (((rd_T39 bt353.1 0).f2.f2) == t365 && ((((rd_T39 bt353.1 0).f2.f3).toList) == ([] : List UInt8))))) = true then ((falseworklaw16_num.f bt358.2.2).bind fun t366 => (if t366 = 3 then ((falseworklaw16_awake.f k).bind fun t367 => (some t367)) else (some false))) else (some false))) else (none)) else (some false)) else (some false)))) else (none)) else (none)) else (none)))) = some r := h
 clear h
 replace H := Option.bind_eq_some_iff.mp H
 obtain ⟨t352, A20, H⟩ := H
 replace H : ((lex_Lex.f k t352).bind fun bt353 => (if 0 ≤ (wrap64 ((t352.size : Int) - 2)) then (if (wrap64 ((t352.size : Int) - 2)) ≤ (t352.size : Int) then (if (t352.extract 0 ((wrap64 ((t352.size : Int) - 2)) : Int).toNat).size + 1 ≤ 9223372036854775807 then ((lex_Lex.f k ((t352.extract 0 ((wrap64 ((t352.size : Int) - 2)) : Int).toNat) ++ (⟨#[39]⟩ : ByteArray))).bind fun bt358 => ((falseworklaw16_num.f bt353.2.2).bind fun t363 => (if t363 = 0 then (if (bt353.1.length : Int) = 2 then (if 0 < (bt353.1.length : Int) then ((falseworkref1_Canon.f a0).bind fun t365 => (if (((rd_T39 bt353.1 0).f2.f0) == 3 && (((rd_T39 bt353.1 0).f2.f1) == 0 && (((rd_T39 bt353.1 0).f2.f2) == t365 && ((((rd_T39 bt353.1 0).f2.f3).toList) == ([] : List UInt8))))) = true then ((falseworklaw16_num.f bt358.2.2).bind fun t366 => (if t366 = 3 then ((falseworklaw16_awake.f k).bind fun t367 => (some t367)) else (some false))) else (some false))) else (none)) else (some false)) else (some false)))) else (none)) else (none)) else (none))) = some r := H
 have A2 := Aside0.mk A20
 clear A20
 replace H := Option.bind_eq_some_iff.mp H
 obtain ⟨⟨t353, t354, t355⟩, A30, H⟩ := H
 replace H : (if 0 ≤ (wrap64 ((t352.size : Int) - 2)) then (if (wrap64 ((t352.size : Int) - 2)) ≤ (t352.size : Int) then (if (t352.extract 0 ((wrap64 ((t352.size : Int) - 2)) : Int).toNat).size + 1 ≤ 9223372036854775807 then ((lex_Lex.f k ((t352.extract 0 ((wrap64 ((t352.size : Int) - 2)) : Int).toNat) ++ (⟨#[39]⟩ : ByteArray))).bind fun bt358 => ((falseworklaw16_num.f t355).bind fun t363 => (if t363 = 0 then (if (t353.length : Int) = 2 then (if 0 < (t353.length : Int) then ((falseworkref1_Canon.f a0).bind fun t365 => (if (((rd_T39 t353 0).f2.f0) == 3 && (((rd_T39 t353 0).f2.f1) == 0 && (((rd_T39 t353 0).f2.f2) == t365 && ((((rd_T39 t353 0).f2.f3).toList) == ([] : List UInt8))))) = true then ((falseworklaw16_num.f bt358.2.2).bind fun t366 => (if t366 = 3 then ((falseworklaw16_awake.f k).bind fun t367 => (some t367)) else (some false))) else (some false))) else (none)) else (some false)) else (some false)))) else (none)) else (none)) else (none)) = some r := H
 have A3 := Aside0.mk A30
 clear A30
 obtain ⟨ji4, hji4⟩ : ∃ j_ : Int, (wrap64 ((t352.size : Int) - 2)) = j_ := ⟨_, rfl⟩
 replace H : (if 0 ≤ (ji4) then (if (ji4) ≤ (t352.size : Int) then (if (t352.extract 0 ((ji4) : Int).toNat).size + 1 ≤ 9223372036854775807 then ((lex_Lex.f k ((t352.extract 0 ((ji4) : Int).toNat) ++ (⟨#[39]⟩ : ByteArray))).bind fun bt358 => ((falseworklaw16_num.f t355).bind fun t363 => (if t363 = 0 then (if (t353.length : Int) = 2 then (if 0 < (t353.length : Int) then ((falseworkref1_Canon.f a0).bind fun t365 => (if (((rd_T39 t353 0).f2.f0) == 3 && (((rd_T39 t353 0).f2.f1) == 0 && (((rd_T39 t353 0).f2.f2) == t365 && ((((rd_T39 t353 0).f2.f3).toList) == ([] : List UInt8))))) = true then ((falseworklaw16_num.f bt358.2.2).bind fun t366 => (if t366 = 3 then ((falseworklaw16_awake.f k).bind fun t367 => (some t367)) else (some false))) else (some false))) else (none)) else (some false)) else (some false)))) else (none)) else (none)) else (none)) = some r := by first | (rw [hji4] at H; exact H) | (simp only [hji4] at H ⊢; exact H)
 (try rw [hji4] at A2)
 (try rw [hji4] at A3)
 have hji4w : (IntKind.i64.wrap ((t352.size : Int) - 2)) = ji4 := (i64_w _).trans hji4
 by_cases c5 : 0 ≤ (ji4)
 ·rw [if_pos c5] at H
  have c5b0 := eq_true c5
  have c5b1 : decide (0 ≤ (ji4)) = true := decide_eq_true c5
  clear c5
  by_cases c6 : (ji4) ≤ (t352.size : Int)
  ·rw [if_pos c6] at H
   have c6b0 := eq_true c6
   have c6b1 : decide ((ji4) ≤ (t352.size : Int)) = true := decide_eq_true c6
   clear c6
   by_cases c7 : (t352.extract 0 ((ji4) : Int).toNat).size + 1 ≤ 9223372036854775807
   ·rw [if_pos c7] at H
    have c7b0 := eq_true c7
    have c7b1 : decide ((t352.extract 0 ((ji4) : Int).toNat).size + 1 ≤ 9223372036854775807) = true := decide_eq_true c7
    try have c7b2 : (9223372036854775807 < (t352.extract 0 ((ji4) : Int).toNat).size + 1) = False := eq_false (Nat.not_lt.2 c7)
    have c7b3 : (9223372036854775807 < ji4.toNat + 1) = False := eq_false (by
     have hz : (t352.extract 0 ((ji4) : Int).toNat).size = min ji4.toNat t352.size := by rw [ByteArray.size_extract, Nat.sub_zero]
     have h6 : ji4 ≤ (t352.size : Int) := of_decide_eq_true c6b1
     omega)
    replace H := Option.bind_eq_some_iff.mp H
    obtain ⟨⟨t358, t359, t360⟩, A80, H⟩ := H
    replace H : ((falseworklaw16_num.f t355).bind fun t363 => (if t363 = 0 then (if (t353.length : Int) = 2 then (if 0 < (t353.length : Int) then ((falseworkref1_Canon.f a0).bind fun t365 => (if (((rd_T39 t353 0).f2.f0) == 3 && (((rd_T39 t353 0).f2.f1) == 0 && (((rd_T39 t353 0).f2.f2) == t365 && ((((rd_T39 t353 0).f2.f3).toList) == ([] : List UInt8))))) = true then ((falseworklaw16_num.f t360).bind fun t366 => (if t366 = 3 then ((falseworklaw16_awake.f k).bind fun t367 => (some t367)) else (some false))) else (some false))) else (none)) else (some false)) else (some false))) = some r := H
    have A8 := Aside0.mk A80
    clear A80
    replace H := Option.bind_eq_some_iff.mp H
    obtain ⟨t363, A90, H⟩ := H
    replace H : (if t363 = 0 then (if (t353.length : Int) = 2 then (if 0 < (t353.length : Int) then ((falseworkref1_Canon.f a0).bind fun t365 => (if (((rd_T39 t353 0).f2.f0) == 3 && (((rd_T39 t353 0).f2.f1) == 0 && (((rd_T39 t353 0).f2.f2) == t365 && ((((rd_T39 t353 0).f2.f3).toList) == ([] : List UInt8))))) = true then ((falseworklaw16_num.f t360).bind fun t366 => (if t366 = 3 then ((falseworklaw16_awake.f k).bind fun t367 => (some t367)) else (some false))) else (some false))) else (none)) else (some false)) else (some false)) = some r := H
    have A9 := Aside0.mk A90
    clear A90
    by_cases c10 : t363 = 0
    ·rw [if_pos c10] at H
     have c10b0 : (t363 == 0) = true := beq_iff_eq.mpr c10
     have c10b1 : (t363 != 0) = false := bne_eq_false_iff_eq.mpr c10
     clear c10
     by_cases c11 : (t353.length : Int) = 2
     ·rw [if_pos c11] at H
      have c11b0 : ((t353.length : Int) == 2) = true := beq_iff_eq.mpr c11
      have c11b1 : ((t353.length : Int) != 2) = false := bne_eq_false_iff_eq.mpr c11
      clear c11
      by_cases c12 : 0 < (t353.length : Int)
      ·rw [if_pos c12] at H
       have c12b0 : decide (0 < (t353.length : Int)) = true := decide_eq_true c12
       have c12b1 : decide (0 < t353.length) = true := decide_eq_true (by omega)
       clear c12
       replace H := Option.bind_eq_some_iff.mp H
       obtain ⟨t365, A130, H⟩ := H
       replace H : (if (((rd_T39 t353 0).f2.f0) == 3 && (((rd_T39 t353 0).f2.f1) == 0 && (((rd_T39 t353 0).f2.f2) == t365 && ((((rd_T39 t353 0).f2.f3).toList) == ([] : List UInt8))))) = true then ((falseworklaw16_num.f t360).bind fun t366 => (if t366 = 3 then ((falseworklaw16_awake.f k).bind fun t367 => (some t367)) else (some false))) else (some false)) = some r := H
       have A13 := Aside0.mk A130
       clear A130
       by_cases c14 : (((rd_T39 t353 0).f2.f0) == 3 && (((rd_T39 t353 0).f2.f1) == 0 && (((rd_T39 t353 0).f2.f2) == t365 && ((((rd_T39 t353 0).f2.f3).toList) == ([] : List UInt8))))) = true
       ·rw [if_pos c14] at H
        have c14b0 : (((rd_T39 t353 0).f2.f0) == 3 && (((rd_T39 t353 0).f2.f1) == 0 && (((rd_T39 t353 0).f2.f2) == t365 && ((((rd_T39 t353 0).f2.f3).toList) == ([] : List UInt8))))) = true := c14
        (try (have c14e0 := c14b0; simp only [show ∀ l_ : List UInt8, (l_ == ([] : List UInt8)) = l_.isEmpty from fun l_ => by cases l_ <;> rfl] at c14e0))
        (try (have c14b1 : decide (((rd_T39 t353 0).f2.f0) = 3 && (((rd_T39 t353 0).f2.f1) == 0 && (((rd_T39 t353 0).f2.f2) == t365 && ((((rd_T39 t353 0).f2.f3).toList) == ([] : List UInt8))))) = true := by simpa using c14))
        (try (have c14b2 : (((rd_T39 t353 0).f2.f0) == 3 && (((rd_T39 t353 0).f2.f1) == 0 && (((rd_T39 t353 0).f2.f2) == t365 && ((((rd_T39 t353 0).f2.f3).toList) == ([] : List UInt8))))) = true := by simpa using c14))
        clear c14
        replace H := Option.bind_eq_some_iff.mp H
        obtain ⟨t366, A150, H⟩ := H
        replace H : (if t366 = 3 then ((falseworklaw16_awake.f k).bind fun t367 => (some t367)) else (some false)) = some r := H
        have A15 := Aside0.mk A150
        clear A150
        by_cases c16 : t366 = 3
        ·rw [if_pos c16] at H
         have c16b0 : (t366 == 3) = true := beq_iff_eq.mpr c16
         have c16b1 : (t366 != 3) = false := bne_eq_false_iff_eq.mpr c16
         clear c16
         replace H := Option.bind_eq_some_iff.mp H
         obtain ⟨t367, A170, H⟩ := H
         replace H : (some t367) = some r := H
         have A17 := Aside0.mk A170
         clear A170
         obtain rfl := Option.some.inj H
         go_enter Tryd.func7, Tryd.ntmps7
         go_wp2_with (first | ((with_reducible refine gate_callee (f := 17) rfl ?_); refine goesL_ (some 12) rfl rfl Tryd.func17 (by kernel_rfl) rfl #[.agg #[.int .i64 3, .int .i64 0, .int .u64 a0, .string (⟨#[]⟩ : ByteArray)]] rfl (by (try simp only [List.map_toArray, List.map_cons, List.map_nil]); first | done | rfl | (simp only [List.length_drop, List.length_take]; rfl)) ?_; (with_reducible refine (falseworkref16_Value.calls k 3 0 a0 (⟨#[]⟩ : ByteArray) t352 _ A2.out).mono ?_); rintro e w18 ⟨rfl, hb⟩; refine ⟨_, rfl, ?_⟩; have n0_ := Aside0.mk (below_step (by repeat (first | (with_reducible first | exact HB.out | apply below_alloc | apply pw_below_drewN | apply below_drew1) | exact HB.out)) hb); clear HB; have HB := n0_; clear n0_; (try clear hb); (try clear hb2); (try clear hk); (try clear hi)) | ((with_reducible refine gate_callee (f := 9) rfl ?_); refine goesL_ (some 15) rfl rfl Tryd.func9 (by kernel_rfl) rfl #[.string t352] rfl (by (try simp only [List.map_toArray, List.map_cons, List.map_nil]); first | done | rfl | (simp only [List.length_drop, List.length_take]; rfl)) ?_; (with_reducible refine (lex_Lex.calls k t352 t353 t354 t355 _ A3.out ?side1).mono ?_); (case side1 => exact GL.of_below HG.out (by repeat (first | (with_reducible first | exact HB.out | apply below_alloc | apply pw_below_drewN | apply below_drew1) | exact HB.out))); rintro e w19 ⟨v356, rfl, ho0, hb⟩; refine ⟨_, rfl, ?_⟩; have n0_ := Aside0.mk (Kd.R_lower ho0 (below_size (by repeat (first | (with_reducible first | exact HB.out | apply below_alloc | apply pw_below_drewN | apply below_drew1) | exact HB.out)))); have n1_ := Aside0.mk (below_step (by repeat (first | (with_reducible first | exact HB.out | apply below_alloc | apply pw_below_drewN | apply below_drew1) | exact HB.out)) hb); clear HB; have HO357 := n0_; have HB := n1_; clear n0_ n1_; (try clear hb); (try clear hb2); (try clear hk); (try clear hi); (try clear ho0)) | ((with_reducible refine gate_callee (f := 9) rfl ?_); refine goesL_ (some 26) rfl rfl Tryd.func9 (by kernel_rfl) rfl #[.string ((t352.extract 0 ((ji4) : Int).toNat) ++ (⟨#[39]⟩ : ByteArray))] rfl (by (try simp only [List.map_toArray, List.map_cons, List.map_nil]); first | done | (simp only [hji4]; rfl) | rfl | (simp only [List.length_drop, List.length_take]; rfl)) ?_; (with_reducible refine (lex_Lex.calls k ((t352.extract 0 ((ji4) : Int).toNat) ++ (⟨#[39]⟩ : ByteArray)) t358 t359 t360 _ A8.out ?side1).mono ?_); (case side1 => exact GL.of_below HG.out (by repeat (first | (with_reducible first | exact HB.out | apply below_alloc | apply pw_below_drewN | apply below_drew1) | exact HB.out))); rintro e w20 ⟨v361, rfl, ho0, hb⟩; refine ⟨_, rfl, ?_⟩; have n0_ := Aside0.mk (Kd.R_elder' (by (with_reducible repeat (first | apply Kd.R_alloc | apply Kd.R_drewN | apply Kd.R_drew)); exact HO357.out) (Kd.R_base ho0) hb); have n1_ := Aside0.mk (Kd.R_lower (Kd.R_new' ho0 (Kd.R_lt (by (with_reducible repeat (first | apply Kd.R_alloc | apply Kd.R_drewN | apply Kd.R_drew)); exact HO357.out))) (below_size (by repeat (first | (with_reducible first | exact HB.out | apply below_alloc | apply pw_below_drewN | apply below_drew1) | exact HB.out)))); have n2_ := Aside0.mk (below_step (by repeat (first | (with_reducible first | exact HB.out | apply below_alloc | apply pw_below_drewN | apply below_drew1) | exact HB.out)) hb); clear HO357; clear HB; have HO357 := n0_; have HO362 := n1_; have HB := n2_; clear n0_ n1_ n2_; (try clear hb); (try clear hb2); (try clear hk); (try clear hi); (try clear ho0)))
         have n0_ := Aside0.mk (Kd.R_drew HO357.out)
         have n1_ := Aside0.mk (Kd.R_drew HO362.out)
         have n2_ := Aside0.mk (below_drew1 HB.out)
         clear HO357
         clear HO362
         clear HB
         have HO357 := n0_
         have HO362 := n1_
         have HB := n2_
         clear n0_ n1_ n2_
         obtain ⟨Aq1, cq1, eq1⟩ := Kd.R_slice HO357.out
         subst eq1
         have p364 : 0 ≤ (0 : Int) := (by omega)
         have q364 : 0 < (t353.length : Int) := of_decide_eq_true (by first | (with_reducible assumption) | assumption)
         obtain ⟨ad364, e364, hx364_0, hx364_1, hx364_2, hx364_3, hx364_4, hx364_5, hx364_6⟩ := at_T39 (Kd.R_reads' HO357.out).2.2 0 p364 q364
         cases e364
         have qi364 : (0 < t353.length) = True := eq_true (by omega)
         (try rw [show ((0 : Int)).toNat = 0 from rfl] at hx364_0)
         (try rw [show 0 * 7 = 0 from rfl] at hx364_0)
         (try rw [Addr.add_zero'] at hx364_0)
         (try rw [show ((0 : Int)).toNat = 0 from rfl] at hx364_1)
         (try rw [show 0 * 7 = 0 from rfl] at hx364_1)
         (try rw [Addr.add_zero'] at hx364_1)
         (try rw [show ((0 : Int)).toNat = 0 from rfl] at hx364_2)
         (try rw [show 0 * 7 = 0 from rfl] at hx364_2)
         (try rw [Addr.add_zero'] at hx364_2)
         (try rw [show ((0 : Int)).toNat = 0 from rfl] at hx364_3)
         (try rw [show 0 * 7 = 0 from rfl] at hx364_3)
         (try rw [Addr.add_zero'] at hx364_3)
         (try rw [show ((0 : Int)).toNat = 0 from rfl] at hx364_4)
         (try rw [show 0 * 7 = 0 from rfl] at hx364_4)
         (try rw [Addr.add_zero'] at hx364_4)
         (try rw [show ((0 : Int)).toNat = 0 from rfl] at hx364_5)
         (try rw [show 0 * 7 = 0 from rfl] at hx364_5)
         (try rw [Addr.add_zero'] at hx364_5)
         (try rw [show ((0 : Int)).toNat = 0 from rfl] at hx364_6)
         (try rw [show 0 * 7 = 0 from rfl] at hx364_6)
         (try rw [Addr.add_zero'] at hx364_6)
         replace p364 := eq_true p364
         replace q364 := eq_true q364
         refine start_ (n := 27) (S := fun w' => w'.cell? ad364 = some (.int .i64 ((rd_T39 t353 0).f0)) ∧ w'.cell? ⟨ad364.block, ad364.off + 1, none⟩ = some (.string ((rd_T39 t353 0).f1)) ∧ w'.cell? ⟨ad364.block, ad364.off + 2, none⟩ = some (.int .i64 ((rd_T39 t353 0).f2.f0)) ∧ w'.cell? ⟨ad364.block, ad364.off + 3, none⟩ = some (.int .i64 ((rd_T39 t353 0).f2.f1)) ∧ w'.cell? ⟨ad364.block, ad364.off + 4, none⟩ = some (.int .u64 ((rd_T39 t353 0).f2.f2)) ∧ w'.cell? ⟨ad364.block, ad364.off + 5, none⟩ = some (.string ((rd_T39 t353 0).f2.f3)) ∧ w'.cell? ⟨ad364.block, ad364.off + 6, none⟩ = some (.int .i64 ((rd_T39 t353 0).f3))) (ds := []) #[false, false, false, false, false, false, false, false, false, false, false, false, false, false, false, false, false, false, false, false, false, false, false, false, false, false, false] (by kernel_rfl) rfl rfl ⟨hx364_0, hx364_1, hx364_2, hx364_3, hx364_4, hx364_5, hx364_6⟩ (fun hHeld => ?_); refine with_tabW falseworklaw16_LexFloats.tab4 falseworklaw16_LexFloats.bits4 (fun HT_ HW_ => ?_)
         generalize w20.drew = w21 at HO357 HO362 HB hx364_0 hx364_1 hx364_2 hx364_3 hx364_4 hx364_5 hx364_6 hHeld ⊢
         refine pure_ (i := 0) (N := some 30) (v := ?_) (a' := ?_) #[true, false, false, false, false, false, false, false, false, false, false, false, false, false, false, false, false, false, false, false, false, false, false, false, false, false, false] rfl rfl (any_of HT_.out (by kernel_rfl)) (fun _ _ _ h => h) (Or.inl ⟨by rfl, ?_⟩) ?_ ?_
         rotate_left
         ·intro w'
          go_simp
          with_reducible rfl
         rotate_left
         ·simp only [Act.put, List.setIfInBounds_toArray, List.set_cons_zero, List.set_cons_succ, i64_w, i32_w]
          rfl
         refine one_ (i := 1) (N := some 31) #[true, true, false, false, false, false, false, false, false, false, false, false, false, false, false, false, false, false, false, false, false, false, false, false, false, false, false] rfl rfl (one_of HT_.out (by kernel_rfl)) (by decide) (fun K hK => ?_)
         refine goes_ Tryd.func12 (by kernel_rfl) rfl #[.int .i64 t355] (by rfl) rfl rfl (by (try simp only [List.map_toArray, List.map_cons, List.map_nil]); first | done | rfl | (simp only [List.length_drop, List.length_take]; rfl)) ?_
         with_reducible refine (falseworklaw16_num.calls t355 t363 _ A9.out).mono ?_
         rintro e w' ⟨rfl, ⟨nd, rfl⟩⟩
         refine ⟨_, rfl, ?_⟩
         obtain ⟨Ao22, co22, eo22⟩ := Kd.R_slice HO357.out
         (first | subst eo22 | (injection eo22 with f1_ f2_ f3_; have f4_ := f1_.symm; have f5_ := f3_.symm; clear f1_ f2_ f3_; subst f4_; subst f5_))
         refine hK.out _ _ ⟨hHeld.1, hHeld.2.1, hHeld.2.2.1, hHeld.2.2.2.1, hHeld.2.2.2.2.1, hHeld.2.2.2.2.2.1, hHeld.2.2.2.2.2.2⟩ (fun hHeld => ?_)
         clear hK K
         refine norm_ (a' := ?_) ?_ ?_
         rotate_left
         ·show Act.put _ (some 31) _ = _
          simp only [Act.put, List.setIfInBounds_toArray, List.set_cons_zero, List.set_cons_succ, i64_w, i32_w]
          rfl
         refine pure_ (i := 2) (N := some 32) (v := ?_) (a' := ?_) #[true, true, true, false, false, false, false, false, false, false, false, false, false, false, false, false, false, false, false, false, false, false, false, false, false, false, false] rfl rfl (any_of HT_.out (by kernel_rfl)) (fun _ _ _ h => h) (Or.inl ⟨by rfl, ?_⟩) ?_ ?_
         rotate_left
         ·intro w'
          go_simp
          with_reducible rfl
         rotate_left
         ·simp only [Act.put, List.setIfInBounds_toArray, List.set_cons_zero, List.set_cons_succ, i64_w, i32_w]
          rfl
         refine pure_ (i := 3) (N := some 33) (v := ?_) (a' := ?_) #[true, true, true, true, false, false, false, false, false, false, false, false, false, false, false, false, false, false, false, false, false, false, false, false, false, false, false] rfl rfl (any_of HT_.out (by kernel_rfl)) (fun _ _ _ h => h) (Or.inl ⟨by rfl, ?_⟩) ?_ ?_
         rotate_left
         ·intro w'
          go_simp
          with_reducible rfl
         rotate_left
         ·simp only [Act.put, List.setIfInBounds_toArray, List.set_cons_zero, List.set_cons_succ, i64_w, i32_w]
          rfl
         refine pure_ (i := 4) (N := some 34) (v := ?_) (a' := ?_) #[true, true, true, true, true, false, false, false, false, false, false, false, false, false, false, false, false, false, false, false, false, false, false, false, false, false, false] rfl rfl (any_of HT_.out (by kernel_rfl)) (fun _ _ _ h => h) (Or.inl ⟨by rfl, ?_⟩) ?_ ?_
         rotate_left
         ·intro w'
          go_simp
          with_reducible rfl
         rotate_left
         ·simp only [Act.put, List.setIfInBounds_toArray, List.set_cons_zero, List.set_cons_succ, i64_w, i32_w]
          rfl
         refine pure_ (i := 5) (N := some 35) (v := ?_) (a' := ?_) #[true, true, true, true, true, true, false, false, false, false, false, false, false, false, false, false, false, false, false, false, false, false, false, false, false, false, false] rfl rfl (any_of HT_.out (by kernel_rfl)) (fun _ _ _ h => h) (Or.inl ⟨by rfl, ?_⟩) ?_ ?_
         rotate_left
         ·intro w'
          go_simp
          with_reducible rfl
         rotate_left
         ·simp only [Act.put, List.setIfInBounds_toArray, List.set_cons_zero, List.set_cons_succ, i64_w, i32_w]
          rfl
         refine pure_ (i := 6) (N := some 36) (v := ?_) (a' := ?_) #[true, true, true, true, true, true, true, false, false, false, false, false, false, false, false, false, false, false, false, false, false, false, false, false, false, false, false] rfl rfl (any_of HT_.out (by kernel_rfl)) (fun _ _ _ h => h) (Or.inl ⟨by rfl, ?_⟩) ?_ ?_
         rotate_left
         ·intro w'
          go_simp
          with_reducible rfl
         rotate_left
         ·simp only [Act.put, List.setIfInBounds_toArray, List.set_cons_zero, List.set_cons_succ, i64_w, i32_w]
          rfl
         refine pure_ (i := 7) (N := some 37) (v := ?_) (a' := ?_) #[true, true, true, true, true, true, true, true, false, false, false, false, false, false, false, false, false, false, false, false, false, false, false, false, false, false, false] rfl rfl (any_of HT_.out (by kernel_rfl)) (fun _ _ _ h => h) (Or.inl ⟨by rfl, ?_⟩) ?_ ?_
         rotate_left
         ·intro w'
          go_simp
          with_reducible rfl
         rotate_left
         ·simp only [Act.put, List.setIfInBounds_toArray, List.set_cons_zero, List.set_cons_succ, i64_w, i32_w]
          rfl
         refine pure_ (i := 8) (N := some 38) (v := ?_) (a' := ?_) #[true, true, true, true, true, true, true, true, true, false, false, false, false, false, false, false, false, false, false, false, false, false, false, false, false, false, false] rfl rfl (any_of HT_.out (by kernel_rfl)) (fun _ _ _ h => h) (Or.inl ⟨by rfl, ?_⟩) ?_ ?_
         rotate_left
         ·intro w'
          go_simp
          with_reducible rfl
         rotate_left
         ·simp only [Act.put, List.setIfInBounds_toArray, List.set_cons_zero, List.set_cons_succ, i64_w, i32_w]
          rfl
         refine pure_ (i := 9) (N := some 39) (v := ?_) (a' := ?_) #[true, true, true, true, true, true, true, true, true, true, false, false, false, false, false, false, false, false, false, false, false, false, false, false, false, false, false] rfl rfl (any_of HT_.out (by kernel_rfl)) (fun _ _ _ h => h) (Or.inl ⟨by rfl, ?_⟩) ?_ ?_
         rotate_left
         ·intro w'
          go_simp
          with_reducible rfl
         rotate_left
         ·simp only [Act.put, List.setIfInBounds_toArray, List.set_cons_zero, List.set_cons_succ, i64_w, i32_w]
          rfl
         refine pure_ (i := 10) (N := some 40) (v := ?_) (a' := ?_) #[true, true, true, true, true, true, true, true, true, true, true, false, false, false, false, false, false, false, false, false, false, false, false, false, false, false, false] rfl rfl (any_of HT_.out (by kernel_rfl)) (fun _ _ _ h => h) (Or.inl ⟨by rfl, ?_⟩) ?_ ?_
         rotate_left
         ·intro w'
          go_simp
          with_reducible rfl
         rotate_left
         ·simp only [Act.put, List.setIfInBounds_toArray, List.set_cons_zero, List.set_cons_succ, i64_w, i32_w]
          rfl
         refine pure_ (i := 11) (N := some 41) (v := ?_) (a' := ?_) #[true, true, true, true, true, true, true, true, true, true, true, true, false, false, false, false, false, false, false, false, false, false, false, false, false, false, false] rfl rfl (any_of HT_.out (by kernel_rfl)) (fun _ _ _ h => h) (Or.inl ⟨by rfl, ?_⟩) ?_ ?_
         rotate_left
         ·intro w'
          go_simp
          with_reducible rfl
         rotate_left
         ·simp only [Act.put, List.setIfInBounds_toArray, List.set_cons_zero, List.set_cons_succ, i64_w, i32_w]
          rfl
         refine pure_ (i := 13) (N := some 43) (v := ?_) (a' := ?_) #[true, true, true, true, true, true, true, true, true, true, true, true, false, true, false, false, false, false, false, false, false, false, false, false, false, false, false] rfl rfl (any_of HT_.out (by kernel_rfl)) (fun _ _ _ h => h) (Or.inl ⟨by rfl, ?_⟩) ?_ ?_
         rotate_left
         ·intro w'
          go_simp
          with_reducible rfl
         rotate_left
         ·simp only [Act.put, List.setIfInBounds_toArray, List.set_cons_zero, List.set_cons_succ, i64_w, i32_w]
          rfl
         refine take_ (i := 12) (N := some 42) (v := ?_) (a' := ?_) #[true, true, true, true, true, true, true, true, true, true, true, true, true, true, false, false, false, false, false, false, false, false, false, false, false, false, false] rfl rfl (take_ofW HT_.out HW_.out (by kernel_rfl)) (fun _ _ _ h => h) (Or.inl ⟨by rfl, ?_⟩) hHeld ?_ ?_
         rotate_left
         ·rintro w' ⟨s0, s1, s2, s3, s4, s5, s6⟩
          go_simp
          with_reducible rfl
         rotate_left
         ·simp only [Act.put, List.setIfInBounds_toArray, List.set_cons_zero, List.set_cons_succ, i64_w, i32_w]
          rfl
         refine one_ (i := 14) (N := some 44) #[true, true, true, true, true, true, true, true, true, true, true, true, true, true, true, false, false, false, false, false, false, false, false, false, false, false, false] rfl rfl (one_of HT_.out (by kernel_rfl)) (by decide) (fun K hK => ?_)
         refine goes_ Tryd.func18 (by kernel_rfl) rfl #[.int .u64 a0] (by rfl) rfl rfl (by (try simp only [List.map_toArray, List.map_cons, List.map_nil]); first | done | rfl | (simp only [List.length_drop, List.length_take]; rfl)) ?_
         with_reducible refine (falseworkref1_Canon.calls a0 t365 _ A13.out).mono ?_
         rintro e w' ⟨rfl, ⟨nd, rfl⟩⟩
         refine ⟨_, rfl, ?_⟩
         refine hK.out _ _ ⟨hHeld.1, hHeld.2.1, hHeld.2.2.1, hHeld.2.2.2.1, hHeld.2.2.2.2.1, hHeld.2.2.2.2.2.1, hHeld.2.2.2.2.2.2⟩ (fun hHeld => ?_)
         clear hK K
         refine norm_ (a' := ?_) ?_ ?_
         rotate_left
         ·show Act.put _ (some 44) _ = _
          simp only [Act.put, List.setIfInBounds_toArray, List.set_cons_zero, List.set_cons_succ, i64_w, i32_w]
          rfl
         refine pure_ (i := 15) (N := some 45) (v := ?_) (a' := ?_) #[true, true, true, true, true, true, true, true, true, true, true, true, true, true, true, true, false, false, false, false, false, false, false, false, false, false, false] rfl rfl (any_of HT_.out (by kernel_rfl)) (fun _ _ _ h => h) (Or.inl ⟨by rfl, ?_⟩) ?_ ?_
         rotate_left
         ·intro w'
          go_simp
          with_reducible rfl
         rotate_left
         ·simp only [Act.put, List.setIfInBounds_toArray, List.set_cons_zero, List.set_cons_succ, i64_w, i32_w]
          rfl
         refine pure_ (i := 16) (N := some 46) (v := ?_) (a' := ?_) #[true, true, true, true, true, true, true, true, true, true, true, true, true, true, true, true, true, false, false, false, false, false, false, false, false, false, false] rfl rfl (any_of HT_.out (by kernel_rfl)) (fun _ _ _ h => h) (Or.inl ⟨by rfl, ?_⟩) ?_ ?_
         rotate_left
         ·intro w'
          go_simp
          with_reducible rfl
         rotate_left
         ·simp only [Act.put, List.setIfInBounds_toArray, List.set_cons_zero, List.set_cons_succ, i64_w, i32_w]
          rfl
         refine pure_ (i := 17) (N := some 47) (v := ?_) (a' := ?_) #[true, true, true, true, true, true, true, true, true, true, true, true, true, true, true, true, true, true, false, false, false, false, false, false, false, false, false] rfl rfl (any_of HT_.out (by kernel_rfl)) (fun _ _ _ h => h) (Or.inl ⟨by rfl, ?_⟩) ?_ ?_
         rotate_left
         ·intro w'
          go_simp
          with_reducible rfl
         rotate_left
         ·simp only [Act.put, List.setIfInBounds_toArray, List.set_cons_zero, List.set_cons_succ, i64_w, i32_w]
          rfl
         refine pure_ (i := 18) (N := some 48) (v := ?_) (a' := ?_) #[true, true, true, true, true, true, true, true, true, true, true, true, true, true, true, true, true, true, true, false, false, false, false, false, false, false, false] rfl rfl (any_of HT_.out (by kernel_rfl)) (fun _ _ _ h => h) (Or.inl ⟨by rfl, ?_⟩) ?_ ?_
         rotate_left
         ·intro w'
          go_simp
          with_reducible rfl
         rotate_left
         ·simp only [Act.put, List.setIfInBounds_toArray, List.set_cons_zero, List.set_cons_succ, i64_w, i32_w]
          rfl
         refine pure_ (i := 19) (N := some 49) (v := ?_) (a' := ?_) #[true, true, true, true, true, true, true, true, true, true, true, true, true, true, true, true, true, true, true, true, false, false, false, false, false, false, false] rfl rfl (any_of HT_.out (by kernel_rfl)) (fun _ _ _ h => h) (Or.inl ⟨by rfl, ?_⟩) ?_ ?_
         rotate_left
         ·intro w'
          go_simp
          with_reducible rfl
         rotate_left
         ·simp only [Act.put, List.setIfInBounds_toArray, List.set_cons_zero, List.set_cons_succ, i64_w, i32_w]
          rfl
         refine one_ (i := 20) (N := some 50) #[true, true, true, true, true, true, true, true, true, true, true, true, true, true, true, true, true, true, true, true, true, false, false, false, false, false, false] rfl rfl (one_of HT_.out (by kernel_rfl)) (by decide) (fun K hK => ?_)
         refine goes_ Tryd.func12 (by kernel_rfl) rfl #[.int .i64 t360] (by rfl) rfl rfl (by (try simp only [List.map_toArray, List.map_cons, List.map_nil]); first | done | rfl | (simp only [List.length_drop, List.length_take]; rfl)) ?_
         with_reducible refine (falseworklaw16_num.calls t360 t366 _ A15.out).mono ?_
         rintro e w' ⟨rfl, ⟨nd, rfl⟩⟩
         refine ⟨_, rfl, ?_⟩
         refine hK.out _ _ ⟨hHeld.1, hHeld.2.1, hHeld.2.2.1, hHeld.2.2.2.1, hHeld.2.2.2.2.1, hHeld.2.2.2.2.2.1, hHeld.2.2.2.2.2.2⟩ (fun hHeld => ?_)
         clear hK K
         refine norm_ (a' := ?_) ?_ ?_
         rotate_left
         ·show Act.put _ (some 50) _ = _
          simp only [Act.put, List.setIfInBounds_toArray, List.set_cons_zero, List.set_cons_succ, i64_w, i32_w]
          rfl
         refine pure_ (i := 21) (N := some 51) (v := ?_) (a' := ?_) #[true, true, true, true, true, true, true, true, true, true, true, true, true, true, true, true, true, true, true, true, true, true, false, false, false, false, false] rfl rfl (any_of HT_.out (by kernel_rfl)) (fun _ _ _ h => h) (Or.inl ⟨by rfl, ?_⟩) ?_ ?_
         rotate_left
         ·intro w'
          go_simp
          with_reducible rfl
         rotate_left
         ·simp only [Act.put, List.setIfInBounds_toArray, List.set_cons_zero, List.set_cons_succ, i64_w, i32_w]
          rfl
         refine pure_ (i := 22) (N := some 52) (v := ?_) (a' := ?_) #[true, true, true, true, true, true, true, true, true, true, true, true, true, true, true, true, true, true, true, true, true, true, true, false, false, false, false] rfl rfl (any_of HT_.out (by kernel_rfl)) (fun _ _ _ h => h) (Or.inl ⟨by rfl, ?_⟩) ?_ ?_
         rotate_left
         ·intro w'
          go_simp
          with_reducible rfl
         rotate_left
         ·simp only [Act.put, List.setIfInBounds_toArray, List.set_cons_zero, List.set_cons_succ, i64_w, i32_w]
          rfl
         refine pure_ (i := 23) (N := some 53) (v := ?_) (a' := ?_) #[true, true, true, true, true, true, true, true, true, true, true, true, true, true, true, true, true, true, true, true, true, true, true, true, false, false, false] rfl rfl (any_of HT_.out (by kernel_rfl)) (fun _ _ _ h => h) (Or.inl ⟨by rfl, ?_⟩) ?_ ?_
         rotate_left
         ·intro w'
          go_simp
          with_reducible rfl
         rotate_left
         ·simp only [Act.put, List.setIfInBounds_toArray, List.set_cons_zero, List.set_cons_succ, i64_w, i32_w]
          rfl
         refine one_ (i := 24) (N := some 54) #[true, true, true, true, true, true, true, true, true, true, true, true, true, true, true, true, true, true, true, true, true, true, true, true, true, false, false] rfl rfl (one_of HT_.out (by kernel_rfl)) (by decide) (fun K hK => ?_)
         refine goes_ Tryd.func13 (by kernel_rfl) rfl #[] (by rfl) rfl rfl (by (try simp only [List.map_toArray, List.map_cons, List.map_nil]); first | done | rfl | (simp only [List.length_drop, List.length_take]; rfl)) ?_
         with_reducible refine (falseworklaw16_awake.calls k  t367 _ A17.out ?side1).mono ?_
         (case side1 => exact GL.of_below HG.out (by repeat (first | (with_reducible first | exact HB.out | apply below_alloc | apply pw_below_drewN | apply below_drew1) | exact HB.out)))
         rintro e w23 ⟨rfl, hb⟩
         have HS0_ := (hb.cell (World.block_lt_of_cell? _ _ (hHeld.1))).trans (hHeld.1)
         have HS1_ := (hb.cell (World.block_lt_of_cell? _ _ (hHeld.2.1))).trans (hHeld.2.1)
         have HS2_ := (hb.cell (World.block_lt_of_cell? _ _ (hHeld.2.2.1))).trans (hHeld.2.2.1)
         have HS3_ := (hb.cell (World.block_lt_of_cell? _ _ (hHeld.2.2.2.1))).trans (hHeld.2.2.2.1)
         have HS4_ := (hb.cell (World.block_lt_of_cell? _ _ (hHeld.2.2.2.2.1))).trans (hHeld.2.2.2.2.1)
         have HS5_ := (hb.cell (World.block_lt_of_cell? _ _ (hHeld.2.2.2.2.2.1))).trans (hHeld.2.2.2.2.2.1)
         have HS6_ := (hb.cell (World.block_lt_of_cell? _ _ (hHeld.2.2.2.2.2.2))).trans (hHeld.2.2.2.2.2.2)
         refine ⟨_, rfl, ?_⟩
         have n0_ := Aside0.mk (Kd.R_below (by (with_reducible repeat (first | apply Kd.R_alloc | apply Kd.R_drewN | apply Kd.R_drew)); exact HO357.out) hb)
         have n1_ := Aside0.mk (Kd.R_below (by (with_reducible repeat (first | apply Kd.R_alloc | apply Kd.R_drewN | apply Kd.R_drew)); exact HO362.out) hb)
         have n2_ := Aside0.mk (below_step (by repeat (first | (with_reducible first | exact HB.out | apply below_alloc | apply pw_below_drewN | apply below_drew1) | exact HB.out)) hb)
         clear HO357
         clear HO362
         clear HB
         have HO357 := n0_
         have HO362 := n1_
         have HB := n2_
         clear n0_ n1_ n2_
         (try clear hb)
         (try clear hb2)
         (try clear hk)
         (try clear hi)
         refine hK.out _ _ ⟨HS0_, HS1_, HS2_, HS3_, HS4_, HS5_, HS6_⟩ (fun hHeld => ?_)
         clear hK K
         refine norm_ (a' := ?_) ?_ ?_
         rotate_left
         ·show Act.put _ (some 54) _ = _
          simp only [Act.put, List.setIfInBounds_toArray, List.set_cons_zero, List.set_cons_succ, i64_w, i32_w]
          rfl
         refine pure_ (i := 25) (N := some 55) (v := ?_) (a' := ?_) #[true, true, true, true, true, true, true, true, true, true, true, true, true, true, true, true, true, true, true, true, true, true, true, true, true, true, false] rfl rfl (any_of HT_.out (by kernel_rfl)) (fun _ _ _ h => h) (Or.inl ⟨by rfl, ?_⟩) ?_ ?_
         rotate_left
         ·intro w'
          go_simp
          with_reducible rfl
         rotate_left
         ·simp only [Act.put, List.setIfInBounds_toArray, List.set_cons_zero, List.set_cons_succ, i64_w, i32_w]
          rfl
         refine pure_ (i := 26) (N := some 2) (v := ?_) (a' := ?_) #[true, true, true, true, true, true, true, true, true, true, true, true, true, true, true, true, true, true, true, true, true, true, true, true, true, true, true] rfl rfl (any_of HT_.out (by kernel_rfl)) (fun _ _ _ h => h) (Or.inl ⟨by rfl, ?_⟩) ?_ ?_
         rotate_left
         ·intro w'
          go_simp
          with_reducible rfl
         rotate_left
         ·simp only [Act.put, List.setIfInBounds_toArray, List.set_cons_zero, List.set_cons_succ, i64_w, i32_w]
          rfl
         refine done_ (done_of HT_.out (by kernel_rfl)) ?_
         try go_wp2
         go_ret
         exact ⟨by first | rfl | (simp [errW_none, errW_some] <;> rfl) | (simp only [← hji4]; first | rfl | (simp [errW_none, errW_some] <;> rfl)) | (simp [*, errW_none, errW_some] <;> rfl), by repeat (first | (with_reducible first | exact HB.out | apply below_alloc | apply pw_below_drewN | apply below_drew1) | exact HB.out)⟩
        ·rw [if_neg c16] at H
         first | (cases H; done) | exact absurd HR_.out (by rw [← Option.some.inj H]; decide)
       ·rw [if_neg c14] at H
        first | (cases H; done) | exact absurd HR_.out (by rw [← Option.some.inj H]; decide)
      ·rw [if_neg c12] at H
       first | (cases H; done) | exact absurd HR_.out (by rw [← Option.some.inj H]; decide)
     ·rw [if_neg c11] at H
      first | (cases H; done) | exact absurd HR_.out (by rw [← Option.some.inj H]; decide)
    ·rw [if_neg c10] at H
     first | (cases H; done) | exact absurd HR_.out (by rw [← Option.some.inj H]; decide)
   ·rw [if_neg c7] at H
    first | (cases H; done) | exact absurd HR_.out (by rw [← Option.some.inj H]; decide)
  ·rw [if_neg c6] at H
   first | (cases H; done) | exact absurd HR_.out (by rw [← Option.some.inj H]; decide)
 ·rw [if_neg c5] at H
  first | (cases H; done) | exact absurd HR_.out (by rw [← Option.some.inj H]; decide)
end Go.Proofs.YtjehfmimbbdnkaaDoor.L
set_option linter.unusedVariables false
namespace Go.Proofs.YtjehfmimbbdnkaaDoor.LexPure
open Go.RowKit Go.Proofs.YtjehfmimbbdnkaaDoorW.PrintWords Go.Proofs.YtjehfmimbbdnkaaDoorW.PrintLast Go.Proofs.YtjehfmimbbdnkaaDoorW.PrintMore
open Go.Proofs.YtjehfmimbbdnkaaDoor.L Go.Proofs.YtjehfmimbbdnkaaDoor
def be : Nat → Nat → List UInt8
  | 0, _ => []
  | n + 1, a => be n (a / 256) ++ [UInt8.ofNat (a % 256)]
theorem be_len : ∀ n a, (be n a).length = n
  | 0, _ => rfl
  | n + 1, a => by simp [be, be_len n]
def num8 (l : List UInt8) (acc : Nat) : Nat := l.foldl (fun a c => a * 256 + c.toNat) acc
def numH (l : List UInt8) (acc : Nat) : Nat := l.foldl (fun a c => a * 16 + hexVal c) acc
theorem be_num : ∀ n a, a < 256 ^ n → num8 (be n a) 0 = a
  | 0, a, h => by
    have : a = 0 := by simpa using h
    rw [this]; rfl
  | n + 1, a, h => by
    have h1 : a / 256 < 256 ^ n := by rw [Nat.pow_succ] at h; omega
    have ih := be_num n (a / 256) h1
    unfold num8 at ih ⊢
    unfold be
    rw [List.foldl_append, ih]
    show a / 256 * 256 + (UInt8.ofNat (a % 256)).toNat = a
    rw [UInt8.toNat_ofNat', Nat.mod_eq_of_lt (by omega)]
    omega
theorem hexs_num : ∀ (l : List UInt8) (acc : Nat), numH (hexs l) acc = num8 l acc
  | [], acc => rfl
  | c :: l, acc => by
    have hc := c.toNat_lt
    have h1 := (hexd_hex (c.toNat / 16) (by omega)).2
    have h2 := (hexd_hex (c.toNat % 16) (by omega)).2
    have ih := hexs_num l (acc * 256 + c.toNat)
    unfold numH num8 at ih ⊢
    simp only [hexs, List.foldl_cons, h1, h2]
    rw [← ih, show (acc * 16 + c.toNat / 16) * 16 + c.toNat % 16 = acc * 256 + c.toNat from by omega]
theorem set_drop : ∀ (l : List Int) (m : Nat) (v : Int), m < l.length → (l.set m v).drop m = v :: l.drop (m + 1)
  | [], m, v, h => by simp at h
  | x :: l, 0, v, h => rfl
  | x :: l, m + 1, v, h => by
    show (l.set m v).drop m = v :: l.drop (m + 1)
    exact set_drop l m v (by simpa using h)
theorem eight_loop : ∀ (m k x : Nat) (l : List Int), l.length = 8 → m ≤ 8 → m < k →
    falseworkref2_eight.l0 k (x : Int) l ((m : Int) - 1) = some (strOfNums (((be m x).map fun c => (c.toNat : Int)) ++ l.drop m))
  | _, 0, _, _, _, _, hk => by omega
  | 0, k + 1, x, l, hl, hm, hk => by
    unfold falseworkref2_eight.l0
    rw [if_neg (by omega)]
    rfl
  | m + 1, k + 1, x, l, hl, hm, hk => by
    have hw : wrap64 (((m + 1 : Nat) : Int) - 1 - 1) = (m : Int) - 1 := by rw [wrap_small (by omega) (by omega)]; omega
    have ht : (((m + 1 : Nat) : Int) - 1).toNat = m := by omega
    have hd : (x : Int) / 256 = ((x / 256 : Nat) : Int) := by omega
    unfold falseworkref2_eight.l0
    rw [if_pos (by omega), if_pos (by omega), if_pos (by omega), hw, ht, hd, eight_loop m k (x / 256) _ (by rw [List.length_set]; exact hl) (by omega) (by omega), set_drop _ _ _ (by omega)]
    have hb : ((UInt8.ofNat (x % 256)).toNat : Int) = (x : Int) % 256 := by rw [UInt8.toNat_ofNat', Nat.mod_eq_of_lt (by omega)]; omega
    simp only [be, List.map_append, List.map_cons, List.map_nil, List.append_assoc, List.singleton_append, hb]
theorem eight_f (a k : Nat) (ha : a < 18446744073709551616) (hk : 20 < k) : ∃ r, falseworkref2_Eight.f k (wrap64 (a : Int)) = some r ∧ L8 r = be 8 a := by
  unfold falseworkref2_Eight.f falseworkref2_eight.f
  rw [wrapU_64 _ (by omega) (by omega), if_pos (by decide)]
  have h := eight_loop 8 k a (List.replicate 8 0) (by simp) (by omega) (by omega)
  have h' : falseworkref2_eight.l0 k (a : Int) (List.replicate 8 0) 7 = _ := h
  rw [h', Option.bind_some]
  refine ⟨_, rfl, ?_⟩
  rw [L8_strs2, show List.drop 8 (List.replicate 8 (0 : Int)) = [] from rfl, List.append_nil]
  exact map_back _
theorem h16_ok : ∀ (l : List UInt8) (acc : Nat), (acc + 1) * 16 ^ l.length ≤ 18446744073709551616 → (∀ c ∈ l, isHex c = true) → h16 18446744073709551615 acc l = .ok (numH l acc)
  | [], acc, h, _ => by unfold h16; rfl
  | c :: l, acc, h, hh => by
    have hc := hexVal_lt (hh c (by simp))
    have hp : 0 < 16 ^ l.length := Nat.pow_pos (by decide)
    have hq : 16 ^ (c :: l).length = 16 * 16 ^ l.length := by rw [List.length_cons, Nat.pow_succ, Nat.mul_comm]
    rw [hq, ← Nat.mul_assoc] at h
    have h1 : (acc + 1) * 16 ≤ (acc + 1) * 16 * 16 ^ l.length := Nat.le_mul_of_pos_right _ hp
    have h2 : (acc * 16 + hexVal c + 1) * 16 ^ l.length ≤ (acc + 1) * 16 * 16 ^ l.length := Nat.mul_le_mul_right _ (by omega)
    have i1 := h16_ok l (acc * 16 + hexVal c) (by omega) (fun d hd => hh d (by simp [hd]))
    unfold h16
    rw [if_neg (by omega), if_neg (by omega), i1]
    rfl
theorem float_one (u : ByteArray) (D : List UInt8) (h : L8 u = 102 :: 39 :: (D ++ [39])) (hD : ∀ d ∈ D, isHex d = true) (hl : D.length = 16) :
    oneR u = (3, u, 3, 0, canonI (numH D 0 : Int), ⟨#[]⟩, 0, (u.size : Int)) := by
  obtain ⟨s1, s2, s3, s4, s5, s6⟩ := coded_shape u 102 D h hD
  rw [coded_one u 102 D h (.inr rfl)]
  have hh := h16_ok D 0 (by rw [hl]; decide) hD
  unfold codedR
  rw [s1, s2, if_neg (by omega), if_neg (fun x => x s4), if_pos (by rw [s5]; rfl), if_pos hl, hh]
  simp only []
  rw [show 2 + D.length + 1 = u.size from by omega, ext_all]
theorem value_float (a k : Nat) (ha : a < 18446744073709551616) (hk : 1000 < k) : ∃ r, falseworkref16_Value.f k 3 0 (a : Int) ⟨#[]⟩ = some r ∧ L8 r = 102 :: 39 :: (hexs (be 8 a) ++ [39]) := by
  obtain ⟨e, h1, h2⟩ := eight_f a k ha (by omega)
  have he : e.size = 8 := by rw [size_of e _ h2, be_len]
  obtain ⟨x, h3, h4⟩ := hex_f e (by omega) k (by omega)
  rw [h2] at h4
  have hx : x.size = 16 := by rw [size_of x _ h4, hexs_len, be_len]
  unfold falseworkref16_Value.f
  rw [if_neg (by decide), if_neg (by decide), if_pos rfl, h1, Option.bind_some, h3, Option.bind_some, if_pos (by omega), if_pos (by rw [ByteArray.size_append, hx]; decide)]
  refine ⟨_, rfl, ?_⟩
  rw [L8_app2, L8_app2, h4]
  rfl
theorem floats_fin (k : Nat) (a c : Int) (r : ByteArray) (h1 : falseworkref16_Value.f k 3 0 a ⟨#[]⟩ = some r) (hz : r.size = 19)
    (L0 : lex_Lex.f k r = some ([tokOf (3, r, 3, 0, c, ⟨#[]⟩, 0, (r.size : Int)) 0, endTok r], 0, 0)) (L1 : lex_Lex.f k (r.extract 0 17 ++ ⟨#[39]⟩) = some ([], 0, 3))
    (hc : falseworkref1_Canon.f a = some c) (hA : falseworklaw16_awake.f k = some true) : falseworklaw16_LexFloats.f k a = some true := by
  have hw : wrap64 ((r.size : Int) - 2) = ((17 : Nat) : Int) := by rw [wrap_small (by omega) (by omega)]; omega
  have hsz : (r.extract 0 17).size = 17 := by rw [size_ext r 0 17 (by omega)]
  unfold falseworklaw16_LexFloats.f
  rw [h1, Option.bind_some, L0, Option.bind_some, hw, if_pos (by omega), if_pos (by omega), Int.toNat_natCast, if_pos (by omega), L1, Option.bind_some, hc, hA]
  have e : rd_T39 [tokOf (3, r, 3, 0, c, ⟨#[]⟩, 0, (r.size : Int)) 0, endTok r] 0 = ⟨3, r, ⟨3, 0, c, ⟨#[]⟩⟩, ((0 : Nat) : Int)⟩ := rfl
  have e2 : (⟨#[]⟩ : ByteArray).toList = [] := by decide +kernel
  simp [falseworklaw16_num.f, e, e2]
theorem pow8 : (256 : Nat) ^ 8 = 18446744073709551616 := by decide
theorem float_lex1 (k : Nat) (hk : 5000 < k) (v : ByteArray) (D : List UInt8) (h3 : L8 v = 102 :: 39 :: (D.take 15 ++ [39])) (hD : ∀ d ∈ D, isHex d = true) (hDl : D.length = 16) : lex_Lex.f k v = some ([], 0, 3) := by
  have hD2 : ∀ d ∈ D.take 15, isHex d = true := fun d hd => hD d (List.mem_of_mem_take hd)
  obtain ⟨s1, s2, s3, s4, s5, s6⟩ := coded_shape v 102 _ h3 hD2
  have hl15 : (D.take 15).length = 15 := by rw [List.length_take]; omega
  have n2 : (oneR v).2.2.2.2.2.2.2 = 0 := by
    rw [coded_one v 102 _ h3 (.inr rfl)]
    exact coded_odd v (by rw [s1, hl15])
  exact lex_f_bad v k (by omega) (by omega) (by omega) (blank0 v 102 _ h3 (by decide)) n2
theorem float_lex0 (k : Nat) (hk : 5000 < k) (r : ByteArray) (D : List UInt8) (h2 : L8 r = 102 :: 39 :: (D ++ [39])) (hD : ∀ d ∈ D, isHex d = true) (hDl : D.length = 16) (hz : r.size = 19) :
    lex_Lex.f k r = some ([tokOf (3, r, 3, 0, canonI (numH D 0 : Int), ⟨#[]⟩, 0, (r.size : Int)) 0, endTok r], 0, 0) := by
  have ho := float_one r D h2 hD hDl
  have hn : (oneR r).2.2.2.2.2.2.2 = (r.size : Int) := by rw [ho]
  have L0 := lex_f_single r k (by omega) (by omega) (by omega) (blank0 r 102 _ h2 (by decide)) hn
  rw [ho] at L0
  exact L0
theorem float_lex (k : Nat) (hk : 5000 < k) (r : ByteArray) (D : List UInt8) (h2 : L8 r = 102 :: 39 :: (D ++ [39])) (hD : ∀ d ∈ D, isHex d = true) (hDl : D.length = 16) :
    r.size = 19 ∧ lex_Lex.f k r = some ([tokOf (3, r, 3, 0, canonI (numH D 0 : Int), ⟨#[]⟩, 0, (r.size : Int)) 0, endTok r], 0, 0) ∧ lex_Lex.f k (r.extract 0 17 ++ ⟨#[39]⟩) = some ([], 0, 3) := by
  have hz : r.size = 19 := by rw [size_of r _ h2]; simp [hDl]
  have L0 := float_lex0 k hk r D h2 hD hDl hz
  have h3 : L8 (r.extract 0 17 ++ ⟨#[39]⟩) = 102 :: 39 :: (D.take 15 ++ [39]) := by
    rw [L8_app2, L8_ext, h2]
    show (102 :: 39 :: (D ++ [39])).take 17 ++ [39] = _
    rw [show (17 : Nat) = 15 + 1 + 1 from rfl, List.take_succ_cons, List.take_succ_cons, List.take_append_of_le_length (by omega)]
    rfl
  exact ⟨hz, L0, float_lex1 k hk _ D h3 hD hDl⟩
theorem floats_true (a k : Nat) (ha : a < 18446744073709551616) (hk : 5000 < k) : falseworklaw16_LexFloats.f k (a : Int) = some true := by
  obtain ⟨r, h1, h2⟩ := value_float a k ha (by omega)
  have hDl : (hexs (be 8 a)).length = 16 := by rw [hexs_len, be_len]
  obtain ⟨hz, L0, L1⟩ := float_lex k hk r _ h2 (hexs_hex _) hDl
  have hn : numH (hexs (be 8 a)) 0 = a := by
    rw [hexs_num, be_num 8 a (by rw [pow8]; exact ha)]
  rw [hn] at L0
  exact floats_fin k a _ r h1 hz L0 L1 (canon_eq a ha) (awake_any k (by omega))
theorem pure_true (a : Int) (h0 : 0 ≤ a) (h1 : a < 18446744073709551616) : ∃ k, falseworklaw16_LexFloats.f k a = some true := by
  obtain ⟨n, rfl⟩ := Int.eq_ofNat_of_zero_le h0
  exact ⟨5001, floats_true n 5001 (by omega) (by decide)⟩
end Go.Proofs.YtjehfmimbbdnkaaDoor.LexPure
