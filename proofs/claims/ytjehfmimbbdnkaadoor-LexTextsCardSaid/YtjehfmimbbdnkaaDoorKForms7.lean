/- Own texts of this session, packed by its program wip/pp/pack.py: lemmas and walks of functions. -/
import Derived.Test.YtjehfmimbbdnkaaDoorKForms2
import Derived.Test.YtjehfmimbbdnkaaDoorKForms3
import Derived.Test.YtjehfmimbbdnkaaDoorKForms4
import Derived.Test.YtjehfmimbbdnkaaDoorKForms5
import Derived.Test.YtjehfmimbbdnkaaDoorKForms6
namespace Go.Proofs.YtjehfmimbbdnkaaDoor.L
open Go.RowKit Go.Proofs.YtjehfmimbbdnkaaDoorW.PrintWords Go.Proofs.YtjehfmimbbdnkaaDoorW.PrintLast Go.Proofs.YtjehfmimbbdnkaaDoorW.PrintMore
attribute [local go_sem] max2_int min2_int max_two min_two max_three min_three max_four min_four
set_option linter.unusedVariables false
set_option linter.unusedSimpArgs false
mutual
def lex_one.j0 : Nat → ByteArray → Int → Bool → Option (Int × ByteArray × Int × Int × Int × ByteArray × Int × Int)
 | 0, _, _, _ => none
 | k + 1, x0, x4, x7 => if x7 = true then ((lex_coded.f k x0).bind fun bt132 => (some (bt132.1, bt132.2.1, bt132.2.2.1, bt132.2.2.2.1, bt132.2.2.2.2.1, bt132.2.2.2.2.2.1, bt132.2.2.2.2.2.2.1, bt132.2.2.2.2.2.2.2))) else ((lex_letter.f x4).bind fun t140 => (if t140 = true then ((lex_named.f k x0).bind fun bt141 => (some (bt141.1, bt141.2.1, bt141.2.2.1, bt141.2.2.2.1, bt141.2.2.2.2.1, bt141.2.2.2.2.2.1, bt141.2.2.2.2.2.2.1, bt141.2.2.2.2.2.2.2))) else ((lex_digit.f x4).bind fun t149 => (if t149 = true then (lex_one.j1 k x0 x4 t149) else (lex_one.j1 k x0 x4 (x4 == 45))))))
def lex_one.j1 : Nat → ByteArray → Int → Bool → Option (Int × ByteArray × Int × Int × Int × ByteArray × Int × Int)
 | 0, _, _, _ => none
 | k + 1, x0, x4, x35 => if x35 = true then ((lex_number.f x0).bind fun bt150 => (some (bt150.1, bt150.2.1, bt150.2.2.1, bt150.2.2.2.1, bt150.2.2.2.2.1, bt150.2.2.2.2.2.1, bt150.2.2.2.2.2.2.1, bt150.2.2.2.2.2.2.2))) else (if x4 = 39 then ((lex_text.f k x0).bind fun bt158 => (some (bt158.1, bt158.2.1, bt158.2.2.1, bt158.2.2.2.1, bt158.2.2.2.2.1, bt158.2.2.2.2.2.1, bt158.2.2.2.2.2.2.1, bt158.2.2.2.2.2.2.2))) else ((strings_IndexByte.f (⟨#[40, 41, 44, 59, 61, 60, 62, 43, 42]⟩ : ByteArray) x4).bind fun t166 => (if t166 ≥ 0 then (if 0 ≤ 1 then (if 1 ≤ (x0.size : Int) then (some (4, x0.extract 0 1, 0, 0, 0, (⟨#[]⟩ : ByteArray), 0, 1)) else (none)) else (none)) else (some (0, (⟨#[]⟩ : ByteArray), 0, 0, 0, (⟨#[]⟩ : ByteArray), 0, 0)))))
end
def lex_one.f (k : Nat) (a0 : ByteArray) : Option (Int × ByteArray × Int × Int × Int × ByteArray × Int × Int) := if 0 < (a0.size : Int) then (if (bt a0 0) = 120 then (if (a0.size : Int) > 1 then (if 1 < (a0.size : Int) then (lex_one.j0 k a0 (bt a0 0) ((bt a0 1) == 39)) else (none)) else (lex_one.j0 k a0 (bt a0 0) false)) else (if (bt a0 0) = 102 then (if (a0.size : Int) > 1 then (if 1 < (a0.size : Int) then (lex_one.j0 k a0 (bt a0 0) ((bt a0 1) == 39)) else (none)) else (lex_one.j0 k a0 (bt a0 0) false)) else (lex_one.j0 k a0 (bt a0 0) false))) else (none)
theorem lex_one.mono_l : ∀ k, (∀ y0 y1 y2, LeO (lex_one.j0 k y0 y1 y2) (lex_one.j0 (k + 1) y0 y1 y2)) ∧ (∀ y0 y1 y2, LeO (lex_one.j1 k y0 y1 y2) (lex_one.j1 (k + 1) y0 y1 y2))
 | 0 => ⟨fun _ _ _ r h => by simp [lex_one.j0] at h, fun _ _ _ r h => by simp [lex_one.j1] at h⟩
 | k + 1 => by
  obtain ⟨ih0, ih1⟩ := lex_one.mono_l k
  refine ⟨?_, ?_⟩
  ·intro y0 y1 y2
   unfold lex_one.j0
   repeat' first
   | (with_reducible exact ih0 _ _ _)
   | (with_reducible exact ih1 _ _ _)
   | (with_reducible exact lex_coded.mono _ _)
   | (with_reducible exact lex_named.mono _ _)
   | (with_reducible exact lex_text.mono _ _)
   | (with_reducible exact LeO.refl _)
   | (with_reducible exact LeO.none _)
   | (with_reducible refine LeO.ite ?_ ?_)
   | (with_reducible refine LeO.bind ?_ (fun _ => ?_))
   | exact ih0 _ _ _
   | exact ih1 _ _ _
   | exact lex_coded.mono _ _
   | exact lex_named.mono _ _
   | exact lex_text.mono _ _
   | exact LeO.none _
   | refine LeO.ite ?_ ?_
   | refine LeO.bind ?_ (fun _ => ?_)
  ·intro y0 y1 y2
   unfold lex_one.j1
   repeat' first
   | (with_reducible exact ih0 _ _ _)
   | (with_reducible exact ih1 _ _ _)
   | (with_reducible exact lex_coded.mono _ _)
   | (with_reducible exact lex_named.mono _ _)
   | (with_reducible exact lex_text.mono _ _)
   | (with_reducible exact LeO.refl _)
   | (with_reducible exact LeO.none _)
   | (with_reducible refine LeO.ite ?_ ?_)
   | (with_reducible refine LeO.bind ?_ (fun _ => ?_))
   | exact ih0 _ _ _
   | exact ih1 _ _ _
   | exact lex_coded.mono _ _
   | exact lex_named.mono _ _
   | exact lex_text.mono _ _
   | exact LeO.none _
   | refine LeO.ite ?_ ?_
   | refine LeO.bind ?_ (fun _ => ?_)
theorem lex_one.mono : ∀ a0 k, LeO (lex_one.f k a0) (lex_one.f (k + 1) a0) := by
 intro a0 k
 obtain ⟨ih0, ih1⟩ := lex_one.mono_l k
 unfold lex_one.f
 repeat' first
   | (with_reducible exact ih0 _ _ _)
   | (with_reducible exact ih1 _ _ _)
   | (with_reducible exact lex_coded.mono _ _)
   | (with_reducible exact lex_named.mono _ _)
   | (with_reducible exact lex_text.mono _ _)
   | (with_reducible exact LeO.refl _)
   | (with_reducible exact LeO.none _)
   | (with_reducible refine LeO.ite ?_ ?_)
   | (with_reducible refine LeO.bind ?_ (fun _ => ?_))
   | exact ih0 _ _ _
   | exact ih1 _ _ _
   | exact lex_coded.mono _ _
   | exact lex_named.mono _ _
   | exact lex_text.mono _ _
   | exact LeO.none _
   | refine LeO.ite ?_ ?_
   | refine LeO.bind ?_ (fun _ => ?_)
set_option maxHeartbeats 8000000 in
set_option maxRecDepth 100000 in
theorem lex_one.calls (k : Nat) (a0 : ByteArray) (r1 : Int) (r2 : ByteArray) (r3 : Int) (r4 : Int) (r5 : Int) (r6 : ByteArray) (r7 : Int) (r8 : Int) (w : World) (h : lex_one.f k a0 = some (r1, r2, r3, r4, r5, r6, r7, r8)) (hG : GL w) :
  Calls Tryd.prog 19 #[.string a0] w fun e w' => e = .returned (.tuple #[.agg #[.int .i64 r1, .string r2, .int .i64 r3, .int .i64 r4, .int .u64 r5, .string r6, .int .i64 r7], .int .i64 r8]) ∧ Below w.heap.size w w' := by
 have hu39 := Tryd.underlying39
 have HB := Aside0.mk (Below.refl w.heap.size w)
 have HG := Aside0.mk hG
 clear hG
 have H : (if 0 < (a0.size : Int) then (if (bt a0 0) = 120 then (if (a0.size : Int) > 1 then (if 1 < (a0.size : Int) then (lex_one.j0 k a0 (bt a0 0) ((bt a0 1) == 39)) else (none)) else (lex_one.j0 k a0 (bt a0 0) false)) else (if (bt a0 0) = 102 then (if (a0.size : Int) > 1 then (if 1 < (a0.size : Int) then (lex_one.j0 k a0 (bt a0 0) ((bt a0 1) == 39)) else (none)) else (lex_one.j0 k a0 (bt a0 0) false)) else (lex_one.j0 k a0 (bt a0 0) false))) else (none)) = some (r1, r2, r3, r4, r5, r6, r7, r8) := h
 clear h
 by_cases c2 : 0 < (a0.size : Int)
 ·rw [if_pos c2] at H
  have c2b0 : decide (0 < (a0.size : Int)) = true := decide_eq_true c2
  have c2b1 : decide (0 < a0.size) = true := decide_eq_true (by omega)
  clear c2
  have HC4 := Aside0.mk H
  clear H
  go_enter Tryd.func19, Tryd.ntmps19
  go_upto_region 2 with (first | ((with_reducible refine gate_dst (N := 2) rfl ?_); (try (refine gate_guard (by rfl) ?_; dsimp only)); refine box_event ?hg (N := 2) ?hd (cs := #[.int .i64 0, .string (⟨#[]⟩ : ByteArray), .int .i64 0, .int .i64 0, .int .u64 0, .string (⟨#[]⟩ : ByteArray), .int .i64 0]) (t := 39) ?hr ?_; (case hd => rfl); (case hg => rfl); (case hr => first | (go_simp; done) | (go_simp; rfl)); intro gb131 hg w5 hbox hb; have n0_ := Aside0.mk (below_step (by repeat (first | (with_reducible first | exact HB.out | apply below_alloc | apply pw_below_drewN | apply below_drew1) | exact HB.out)) hb); have n1_ := Aside0.mk (hbox); have n2_ := Aside0.mk ((by rw [hg]; exact (below_size (by repeat (first | (with_reducible first | exact HB.out | apply below_alloc | apply pw_below_drewN | apply below_drew1) | exact HB.out))) : w.heap.size ≤ gb131)); have n3_ := Aside0.mk ((by rw [hg]; exact (below_size (by repeat (first | (with_reducible first | exact HB.out | apply below_alloc | apply pw_below_drewN | apply below_drew1) | exact HB.out))) : w.heap.size ≤ gb131)); clear HB; have HB := n0_; have BK131 := n1_; have GW131 := n2_; have GE131 := n3_; clear n0_ n1_ n2_ n3_; clear hb hbox hg; have p3 : 0 ≤ (0 : Int) := (by omega); have q3 : 0 < a0.size := (by have : (0 : Int) < (a0.size : Int) := of_decide_eq_true (by first | (with_reducible assumption) | assumption); omega); have hx3 : ∀ h : 0 < a0.size, ((a0[0]'h).toNat : Int) = bt a0 0 := bt_at a0 0; clear p3; have qi3 : (0 < (a0.size : Int)) = True := eq_true (of_decide_eq_true (by first | (with_reducible assumption) | assumption)); replace q3 := eq_true q3))
  (try simp only [Act.put, List.setIfInBounds_toArray, List.set_cons_zero, List.set_cons_succ])
  go_cut [7] (fun v7 wc => ∃ (kq : Nat) (x7_3 : Bool), v7 = .bool x7_3 ∧ Aside0 (lex_one.j0 kq a0 (bt a0 0) x7_3 = some (r1, r2, r3, r4, r5, r6, r7, r8)) ∧ Aside0 (kq ≤ k) ∧ Aside0 (wc.heap[gb131]? = some (.cells #[.int .i64 0, .string (⟨#[]⟩ : ByteArray), .int .i64 0, .int .i64 0, .int .u64 0, .string (⟨#[]⟩ : ByteArray), .int .i64 0] 39 (0, 0))) ∧ Aside0 (Below w.heap.size w wc))
  case first =>
   have H := HC4.out
   clear HC4
   by_cases c6 : (bt a0 0) = 120
   ·rw [if_pos c6] at H
    have c6b0 : ((bt a0 0) == 120) = true := beq_iff_eq.mpr c6
    have c6b1 : ((bt a0 0) != 120) = false := bne_eq_false_iff_eq.mpr c6
    clear c6
    (first | rw [c6b0] | (simp only [i64_w, i32_w]; rw [c6b0]) | skip)
    by_cases c7 : (a0.size : Int) > 1
    ·rw [if_pos c7] at H
     have c7b0 : decide (1 < (a0.size : Int)) = true := decide_eq_true c7
     have c7b1 : decide (1 < a0.size) = true := decide_eq_true (by omega)
     clear c7
     by_cases c8 : 1 < (a0.size : Int)
     ·rw [if_pos c8] at H
      have c8b0 : decide (1 < (a0.size : Int)) = true := decide_eq_true c8
      have c8b1 : decide (1 < a0.size) = true := decide_eq_true (by omega)
      clear c8
      have H' := Aside0.mk H
      clear H
      have p9 : 0 ≤ (1 : Int) := (by omega)
      have q9 : 1 < a0.size := (by have : (1 : Int) < (a0.size : Int) := of_decide_eq_true (by first | (with_reducible assumption) | assumption); omega)
      have hx9 : ∀ h : 1 < a0.size, ((a0[1]'h).toNat : Int) = bt a0 1 := bt_at a0 1
      clear p9
      have qi9 : (1 < (a0.size : Int)) = True := eq_true (of_decide_eq_true (by first | (with_reducible assumption) | assumption))
      replace q9 := eq_true q9
      go_wp2
      go_meet
      case rel => exact ⟨_, (((bt a0 1) == 39)), (by first | rfl | (simp; done) | (simp [*]; done)), H', ⟨by first | omega | exact Nat.le_refl _⟩, ⟨by (with_reducible repeat (first | refine blk_drewN ?_ _ | refine blk_drew ?_ | refine blk_alloc ?_ _)); exact BK131.out⟩, ⟨by repeat (first | (with_reducible first | exact HB.out | apply below_alloc | apply pw_below_drewN | apply below_drew1 | refine below_set ?_ GE131.out) | exact HB.out)⟩⟩
     ·rw [if_neg c8] at H
      exact absurd H (by simp)
    ·rw [if_neg c7] at H
     have c7b0 : decide (1 < (a0.size : Int)) = false := decide_eq_false c7
     have c7b1 : decide (1 < a0.size) = false := decide_eq_false (by omega)
     clear c7
     have H' := Aside0.mk H
     clear H
     go_wp2
     go_meet
     case rel => exact ⟨_, (false), (by first | rfl | (simp; done) | (simp [*]; done)), H', ⟨by first | omega | exact Nat.le_refl _⟩, ⟨by (with_reducible repeat (first | refine blk_drewN ?_ _ | refine blk_drew ?_ | refine blk_alloc ?_ _)); exact BK131.out⟩, ⟨by repeat (first | (with_reducible first | exact HB.out | apply below_alloc | apply pw_below_drewN | apply below_drew1 | refine below_set ?_ GE131.out) | exact HB.out)⟩⟩
   ·rw [if_neg c6] at H
    have c6b0 : ((bt a0 0) == 120) = false := beq_eq_false_iff_ne.mpr c6
    have c6b1 : ((bt a0 0) != 120) = true := bne_iff_ne.mpr c6
    (first | rw [c6b0] | (simp only [i64_w, i32_w]; rw [c6b0]) | skip)
    by_cases c10 : (bt a0 0) = 102
    ·rw [if_pos c10] at H
     have c10b0 : ((bt a0 0) == 102) = true := beq_iff_eq.mpr c10
     have c10b1 : ((bt a0 0) != 102) = false := bne_eq_false_iff_eq.mpr c10
     clear c10
     by_cases c11 : (a0.size : Int) > 1
     ·rw [if_pos c11] at H
      have c11b0 : decide (1 < (a0.size : Int)) = true := decide_eq_true c11
      have c11b1 : decide (1 < a0.size) = true := decide_eq_true (by omega)
      clear c11
      by_cases c12 : 1 < (a0.size : Int)
      ·rw [if_pos c12] at H
       have c12b0 : decide (1 < (a0.size : Int)) = true := decide_eq_true c12
       have c12b1 : decide (1 < a0.size) = true := decide_eq_true (by omega)
       clear c12
       have H' := Aside0.mk H
       clear H
       have p13 : 0 ≤ (1 : Int) := (by omega)
       have q13 : 1 < a0.size := (by have : (1 : Int) < (a0.size : Int) := of_decide_eq_true (by first | (with_reducible assumption) | assumption); omega)
       have hx13 : ∀ h : 1 < a0.size, ((a0[1]'h).toNat : Int) = bt a0 1 := bt_at a0 1
       clear p13
       have qi13 : (1 < (a0.size : Int)) = True := eq_true (of_decide_eq_true (by first | (with_reducible assumption) | assumption))
       replace q13 := eq_true q13
       go_wp2
       go_meet
       case rel => exact ⟨_, (((bt a0 1) == 39)), (by first | rfl | (simp; done) | (simp [*]; done)), H', ⟨by first | omega | exact Nat.le_refl _⟩, ⟨by (with_reducible repeat (first | refine blk_drewN ?_ _ | refine blk_drew ?_ | refine blk_alloc ?_ _)); exact BK131.out⟩, ⟨by repeat (first | (with_reducible first | exact HB.out | apply below_alloc | apply pw_below_drewN | apply below_drew1 | refine below_set ?_ GE131.out) | exact HB.out)⟩⟩
      ·rw [if_neg c12] at H
       exact absurd H (by simp)
     ·rw [if_neg c11] at H
      have c11b0 : decide (1 < (a0.size : Int)) = false := decide_eq_false c11
      have c11b1 : decide (1 < a0.size) = false := decide_eq_false (by omega)
      clear c11
      have H' := Aside0.mk H
      clear H
      go_wp2
      go_meet
      case rel => exact ⟨_, (false), (by first | rfl | (simp; done) | (simp [*]; done)), H', ⟨by first | omega | exact Nat.le_refl _⟩, ⟨by (with_reducible repeat (first | refine blk_drewN ?_ _ | refine blk_drew ?_ | refine blk_alloc ?_ _)); exact BK131.out⟩, ⟨by repeat (first | (with_reducible first | exact HB.out | apply below_alloc | apply pw_below_drewN | apply below_drew1 | refine below_set ?_ GE131.out) | exact HB.out)⟩⟩
    ·rw [if_neg c10] at H
     have c10b0 : ((bt a0 0) == 102) = false := beq_eq_false_iff_ne.mpr c10
     have c10b1 : ((bt a0 0) != 102) = true := bne_iff_ne.mpr c10
     have H' := Aside0.mk H
     clear H
     go_wp2
     go_meet
     case rel => exact ⟨_, (false), (by first | rfl | (simp; done) | (simp [*]; done)), H', ⟨by first | omega | exact Nat.le_refl _⟩, ⟨by (with_reducible repeat (first | refine blk_drewN ?_ _ | refine blk_drew ?_ | refine blk_alloc ?_ _)); exact BK131.out⟩, ⟨by repeat (first | (with_reducible first | exact HB.out | apply below_alloc | apply pw_below_drewN | apply below_drew1 | refine below_set ?_ GE131.out) | exact HB.out)⟩⟩
  case rest =>
   clear HC4
   try clear c1
   try clear p1
   try clear q1
   try clear hx1
   try clear qi1
   try clear c2
   try clear c2b0
   try clear c2b1
   try clear p2
   try clear p3
   try clear q3
   try clear hx3
   try clear qi3
   try clear c6
   try clear c6b0
   try clear c6b1
   try clear c7
   try clear c7b0
   try clear c7b1
   try clear c8
   try clear c8b0
   try clear c8b1
   try clear p9
   try clear q9
   try clear hx9
   try clear qi9
   try clear c10
   try clear c10b0
   try clear c10b1
   try clear c11
   try clear c11b0
   try clear c11b1
   try clear c12
   try clear c12b0
   try clear c12b1
   try clear p13
   try clear q13
   try clear hx13
   try clear qi13
   try clear p13
   try clear p3
   try clear p9
   try clear q13
   try clear q3
   try clear q9
   obtain ⟨kq, x7_3, rfl, HA, HJ3, BK131, HB⟩ := hcut
   cases kq with
   | zero => exact absurd HA.out (by simp [lex_one.j0])
   | succ kj3 =>
    have H := HA.out
    clear HA
    simp only [lex_one.j0] at H
    by_cases c14 : x7_3 = true
    ·subst c14
     have H1 : ((lex_coded.f kj3 a0).bind fun bt132 => (some (bt132.1, bt132.2.1, bt132.2.2.1, bt132.2.2.2.1, bt132.2.2.2.2.1, bt132.2.2.2.2.2.1, bt132.2.2.2.2.2.2.1, bt132.2.2.2.2.2.2.2))) = some (r1, r2, r3, r4, r5, r6, r7, r8) := by rw [if_pos rfl] at H; exact H
     clear H
     have H := H1
     clear H1
     replace H := Option.bind_eq_some_iff.mp H
     obtain ⟨⟨t132, t133, t134, t135, t136, t137, t138, t139⟩, A150, H⟩ := H
     replace H : (some (t132, t133, t134, t135, t136, t137, t138, t139)) = some (r1, r2, r3, r4, r5, r6, r7, r8) := H
     have A15 := Aside0.mk A150
     clear A150
     simp only [Option.some.injEq, Prod.mk.injEq] at H
     obtain ⟨rfl, rfl, rfl, rfl, rfl, rfl, rfl, rfl⟩ := H
     go_wp2_with (first | ((with_reducible refine gate_callee (f := 26) rfl ?_); refine goesL_ (some 25) rfl rfl Tryd.func26 (by kernel_rfl) rfl #[.string a0] rfl (by (try simp only [List.map_toArray, List.map_cons, List.map_nil]); first | done | rfl | (simp only [List.length_drop, List.length_take]; rfl)) ?_; (with_reducible refine (lex_coded.calls kj3 a0 t132 t133 t134 t135 t136 t137 t138 t139 _ A15.out ?side1).mono ?_); (case side1 => exact GL.of_below HG.out (by repeat (first | (with_reducible first | exact HB.out | apply below_alloc | apply pw_below_drewN | apply below_drew1 | refine below_set ?_ GE131.out) | exact HB.out))); rintro e w16 ⟨rfl, hb⟩; refine ⟨_, rfl, ?_⟩; have n0_ := Aside0.mk (blk_below (g := gb131) (o := .cells #[.int .i64 0, .string (⟨#[]⟩ : ByteArray), .int .i64 0, .int .i64 0, .int .u64 0, .string (⟨#[]⟩ : ByteArray), .int .i64 0] 39 (0, 0)) (by (with_reducible repeat (first | refine blk_drewN ?_ _ | refine blk_drew ?_ | refine blk_alloc ?_ _)); exact BK131.out) hb); have n1_ := Aside0.mk (below_step (by repeat (first | (with_reducible first | exact HB.out | apply below_alloc | apply pw_below_drewN | apply below_drew1 | refine below_set ?_ GE131.out) | exact HB.out)) hb); clear BK131; clear HB; have BK131 := n0_; have HB := n1_; clear n0_ n1_; (try clear hb); (try clear hb2); (try clear hk); (try clear hi); have hcz17_0 : w16.cell? ⟨gb131, 0, none⟩ = some (.int .i64 0) := (blk_cell BK131.out 0).trans rfl; have hcz17_1 : w16.cell? ⟨gb131, 1, none⟩ = some (.string (⟨#[]⟩ : ByteArray)) := (blk_cell BK131.out 1).trans rfl; have hcz17_2 : w16.cell? ⟨gb131, 2, none⟩ = some (.int .i64 0) := (blk_cell BK131.out 2).trans rfl; have hcz17_3 : w16.cell? ⟨gb131, 3, none⟩ = some (.int .i64 0) := (blk_cell BK131.out 3).trans rfl; have hcz17_4 : w16.cell? ⟨gb131, 4, none⟩ = some (.int .u64 0) := (blk_cell BK131.out 4).trans rfl; have hcz17_5 : w16.cell? ⟨gb131, 5, none⟩ = some (.string (⟨#[]⟩ : ByteArray)) := (blk_cell BK131.out 5).trans rfl; have hcz17_6 : w16.cell? ⟨gb131, 6, none⟩ = some (.int .i64 0) := (blk_cell BK131.out 6).trans rfl; have hfz17_0 := blk_frozen BK131.out 0; have hfz17_1 := blk_frozen BK131.out 1; have hfz17_2 := blk_frozen BK131.out 2; have hfz17_3 := blk_frozen BK131.out 3; have hfz17_4 := blk_frozen BK131.out 4; have hfz17_5 := blk_frozen BK131.out 5; have hfz17_6 := blk_frozen BK131.out 6))
     refine bodyPost_ret (results_ct rfl _ _ gb131 39 #[.int .i64 t132, .string t133, .int .i64 t134, .int .i64 t135, .int .u64 t136, .string t137, .int .i64 t138] (0, 0) _ rfl (by (with_reducible repeat (first | refine blk_drewN ?_ _ | refine blk_drew ?_ | refine blk_alloc ?_ _)); refine blk_put (cs := #[.int .i64 t132, .string t133, .int .i64 t134, .int .i64 t135, .int .u64 t136, .string t137, .int .i64 0]) ?_ 6 _ rfl; (with_reducible repeat (first | refine blk_drewN ?_ _ | refine blk_drew ?_ | refine blk_alloc ?_ _)); refine blk_put (cs := #[.int .i64 t132, .string t133, .int .i64 t134, .int .i64 t135, .int .u64 t136, .string (⟨#[]⟩ : ByteArray), .int .i64 0]) ?_ 5 _ rfl; (with_reducible repeat (first | refine blk_drewN ?_ _ | refine blk_drew ?_ | refine blk_alloc ?_ _)); refine blk_put (cs := #[.int .i64 t132, .string t133, .int .i64 t134, .int .i64 t135, .int .u64 0, .string (⟨#[]⟩ : ByteArray), .int .i64 0]) ?_ 4 _ rfl; (with_reducible repeat (first | refine blk_drewN ?_ _ | refine blk_drew ?_ | refine blk_alloc ?_ _)); refine blk_put (cs := #[.int .i64 t132, .string t133, .int .i64 t134, .int .i64 0, .int .u64 0, .string (⟨#[]⟩ : ByteArray), .int .i64 0]) ?_ 3 _ rfl; (with_reducible repeat (first | refine blk_drewN ?_ _ | refine blk_drew ?_ | refine blk_alloc ?_ _)); refine blk_put (cs := #[.int .i64 t132, .string t133, .int .i64 0, .int .i64 0, .int .u64 0, .string (⟨#[]⟩ : ByteArray), .int .i64 0]) ?_ 2 _ rfl; (with_reducible repeat (first | refine blk_drewN ?_ _ | refine blk_drew ?_ | refine blk_alloc ?_ _)); refine blk_put (cs := #[.int .i64 t132, .string (⟨#[]⟩ : ByteArray), .int .i64 0, .int .i64 0, .int .u64 0, .string (⟨#[]⟩ : ByteArray), .int .i64 0]) ?_ 1 _ rfl; (with_reducible repeat (first | refine blk_drewN ?_ _ | refine blk_drew ?_ | refine blk_alloc ?_ _)); refine blk_put (cs := #[.int .i64 0, .string (⟨#[]⟩ : ByteArray), .int .i64 0, .int .i64 0, .int .u64 0, .string (⟨#[]⟩ : ByteArray), .int .i64 0]) ?_ 0 _ rfl; (with_reducible repeat (first | refine blk_drewN ?_ _ | refine blk_drew ?_ | refine blk_alloc ?_ _)); exact BK131.out) Tryd.underlying39 rfl (by kernel_rfl)) rfl ?_
     exact ⟨by first | rfl | (simp [errW_none, errW_some] <;> rfl) | (simp [*, errW_none, errW_some] <;> rfl), by repeat (first | (with_reducible first | exact HB.out | apply below_alloc | apply pw_below_drewN | apply below_drew1 | refine below_set ?_ GE131.out) | exact HB.out)⟩
    ·replace c14 := Bool.eq_false_iff.mpr c14
     subst c14
     have H1 : ((lex_letter.f (bt a0 0)).bind fun t140 => (if t140 = true then ((lex_named.f kj3 a0).bind fun bt141 => (some (bt141.1, bt141.2.1, bt141.2.2.1, bt141.2.2.2.1, bt141.2.2.2.2.1, bt141.2.2.2.2.2.1, bt141.2.2.2.2.2.2.1, bt141.2.2.2.2.2.2.2))) else ((lex_digit.f (bt a0 0)).bind fun t149 => (if t149 = true then (lex_one.j1 kj3 a0 (bt a0 0) t149) else (lex_one.j1 kj3 a0 (bt a0 0) ((bt a0 0) == 45)))))) = some (r1, r2, r3, r4, r5, r6, r7, r8) := by rw [if_neg (show ¬ (false = true) by decide)] at H; exact H
     clear H
     have H := H1
     clear H1
     replace H := Option.bind_eq_some_iff.mp H
     obtain ⟨t140, A180, H⟩ := H
     replace H : (if t140 = true then ((lex_named.f kj3 a0).bind fun bt141 => (some (bt141.1, bt141.2.1, bt141.2.2.1, bt141.2.2.2.1, bt141.2.2.2.2.1, bt141.2.2.2.2.2.1, bt141.2.2.2.2.2.2.1, bt141.2.2.2.2.2.2.2))) else ((lex_digit.f (bt a0 0)).bind fun t149 => (if t149 = true then (lex_one.j1 kj3 a0 (bt a0 0) t149) else (lex_one.j1 kj3 a0 (bt a0 0) ((bt a0 0) == 45))))) = some (r1, r2, r3, r4, r5, r6, r7, r8) := H
     have A18 := Aside0.mk A180
     clear A180
     by_cases c19 : t140 = true
     ·subst c19
      have H1 : ((lex_named.f kj3 a0).bind fun bt141 => (some (bt141.1, bt141.2.1, bt141.2.2.1, bt141.2.2.2.1, bt141.2.2.2.2.1, bt141.2.2.2.2.2.1, bt141.2.2.2.2.2.2.1, bt141.2.2.2.2.2.2.2))) = some (r1, r2, r3, r4, r5, r6, r7, r8) := by rw [if_pos rfl] at H; exact H
      clear H
      have H := H1
      clear H1
      replace H := Option.bind_eq_some_iff.mp H
      obtain ⟨⟨t141, t142, t143, t144, t145, t146, t147, t148⟩, A200, H⟩ := H
      replace H : (some (t141, t142, t143, t144, t145, t146, t147, t148)) = some (r1, r2, r3, r4, r5, r6, r7, r8) := H
      have A20 := Aside0.mk A200
      clear A200
      simp only [Option.some.injEq, Prod.mk.injEq] at H
      obtain ⟨rfl, rfl, rfl, rfl, rfl, rfl, rfl, rfl⟩ := H
      go_wp2_with (first | ((with_reducible refine gate_callee (f := 27) rfl ?_); refine goesL_ (some 30) rfl rfl Tryd.func27 (by kernel_rfl) rfl #[.int .u8 (bt a0 0)] rfl (by (try simp only [List.map_toArray, List.map_cons, List.map_nil]); first | done | rfl | (simp only [List.length_drop, List.length_take]; rfl)) ?_; (with_reducible refine (lex_letter.calls (bt a0 0) true _ A18.out).mono ?_); rintro e w' ⟨rfl, ⟨nd, rfl⟩⟩; refine ⟨_, rfl, ?_⟩; (try (rw [drewN_self wc]; generalize hq_ : World.drewN wc _ = wc; have n0_ : Aside0 (wc.heap[gb131]? = some (.cells #[.int .i64 0, .string (⟨#[]⟩ : ByteArray), .int .i64 0, .int .i64 0, .int .u64 0, .string (⟨#[]⟩ : ByteArray), .int .i64 0] 39 (0, 0))) := ⟨by rw [← hq_]; exact (by (with_reducible repeat (first | refine blk_drewN ?_ _ | refine blk_drew ?_ | refine blk_alloc ?_ _)); exact BK131.out)⟩; have n1_ : Aside0 (Below w.heap.size w wc) := ⟨by rw [← hq_]; exact (by repeat (first | (with_reducible first | exact HB.out | apply below_alloc | apply pw_below_drewN | apply below_drew1 | refine below_set ?_ GE131.out) | exact HB.out))⟩; clear BK131 HB hq_; have BK131 := n0_; have HB := n1_; clear n0_ n1_))) | ((with_reducible refine gate_callee (f := 28) rfl ?_); refine goesL_ (some 32) rfl rfl Tryd.func28 (by kernel_rfl) rfl #[.string a0] rfl (by (try simp only [List.map_toArray, List.map_cons, List.map_nil]); first | done | rfl | (simp only [List.length_drop, List.length_take]; rfl)) ?_; (with_reducible refine (lex_named.calls kj3 a0 t141 t142 t143 t144 t145 t146 t147 t148 _ A20.out ?side1).mono ?_); (case side1 => exact GL.of_below HG.out (by repeat (first | (with_reducible first | exact HB.out | apply below_alloc | apply pw_below_drewN | apply below_drew1 | refine below_set ?_ GE131.out) | exact HB.out))); rintro e w21 ⟨rfl, hb⟩; refine ⟨_, rfl, ?_⟩; have n0_ := Aside0.mk (blk_below (g := gb131) (o := .cells #[.int .i64 0, .string (⟨#[]⟩ : ByteArray), .int .i64 0, .int .i64 0, .int .u64 0, .string (⟨#[]⟩ : ByteArray), .int .i64 0] 39 (0, 0)) (by (with_reducible repeat (first | refine blk_drewN ?_ _ | refine blk_drew ?_ | refine blk_alloc ?_ _)); exact BK131.out) hb); have n1_ := Aside0.mk (below_step (by repeat (first | (with_reducible first | exact HB.out | apply below_alloc | apply pw_below_drewN | apply below_drew1 | refine below_set ?_ GE131.out) | exact HB.out)) hb); clear BK131; clear HB; have BK131 := n0_; have HB := n1_; clear n0_ n1_; (try clear hb); (try clear hb2); (try clear hk); (try clear hi); have hcz22_0 : w21.cell? ⟨gb131, 0, none⟩ = some (.int .i64 0) := (blk_cell BK131.out 0).trans rfl; have hcz22_1 : w21.cell? ⟨gb131, 1, none⟩ = some (.string (⟨#[]⟩ : ByteArray)) := (blk_cell BK131.out 1).trans rfl; have hcz22_2 : w21.cell? ⟨gb131, 2, none⟩ = some (.int .i64 0) := (blk_cell BK131.out 2).trans rfl; have hcz22_3 : w21.cell? ⟨gb131, 3, none⟩ = some (.int .i64 0) := (blk_cell BK131.out 3).trans rfl; have hcz22_4 : w21.cell? ⟨gb131, 4, none⟩ = some (.int .u64 0) := (blk_cell BK131.out 4).trans rfl; have hcz22_5 : w21.cell? ⟨gb131, 5, none⟩ = some (.string (⟨#[]⟩ : ByteArray)) := (blk_cell BK131.out 5).trans rfl; have hcz22_6 : w21.cell? ⟨gb131, 6, none⟩ = some (.int .i64 0) := (blk_cell BK131.out 6).trans rfl; have hfz22_0 := blk_frozen BK131.out 0; have hfz22_1 := blk_frozen BK131.out 1; have hfz22_2 := blk_frozen BK131.out 2; have hfz22_3 := blk_frozen BK131.out 3; have hfz22_4 := blk_frozen BK131.out 4; have hfz22_5 := blk_frozen BK131.out 5; have hfz22_6 := blk_frozen BK131.out 6))
      refine bodyPost_ret (results_ct rfl _ _ gb131 39 #[.int .i64 t141, .string t142, .int .i64 t143, .int .i64 t144, .int .u64 t145, .string t146, .int .i64 t147] (0, 0) _ rfl (by (with_reducible repeat (first | refine blk_drewN ?_ _ | refine blk_drew ?_ | refine blk_alloc ?_ _)); refine blk_put (cs := #[.int .i64 t141, .string t142, .int .i64 t143, .int .i64 t144, .int .u64 t145, .string t146, .int .i64 0]) ?_ 6 _ rfl; (with_reducible repeat (first | refine blk_drewN ?_ _ | refine blk_drew ?_ | refine blk_alloc ?_ _)); refine blk_put (cs := #[.int .i64 t141, .string t142, .int .i64 t143, .int .i64 t144, .int .u64 t145, .string (⟨#[]⟩ : ByteArray), .int .i64 0]) ?_ 5 _ rfl; (with_reducible repeat (first | refine blk_drewN ?_ _ | refine blk_drew ?_ | refine blk_alloc ?_ _)); refine blk_put (cs := #[.int .i64 t141, .string t142, .int .i64 t143, .int .i64 t144, .int .u64 0, .string (⟨#[]⟩ : ByteArray), .int .i64 0]) ?_ 4 _ rfl; (with_reducible repeat (first | refine blk_drewN ?_ _ | refine blk_drew ?_ | refine blk_alloc ?_ _)); refine blk_put (cs := #[.int .i64 t141, .string t142, .int .i64 t143, .int .i64 0, .int .u64 0, .string (⟨#[]⟩ : ByteArray), .int .i64 0]) ?_ 3 _ rfl; (with_reducible repeat (first | refine blk_drewN ?_ _ | refine blk_drew ?_ | refine blk_alloc ?_ _)); refine blk_put (cs := #[.int .i64 t141, .string t142, .int .i64 0, .int .i64 0, .int .u64 0, .string (⟨#[]⟩ : ByteArray), .int .i64 0]) ?_ 2 _ rfl; (with_reducible repeat (first | refine blk_drewN ?_ _ | refine blk_drew ?_ | refine blk_alloc ?_ _)); refine blk_put (cs := #[.int .i64 t141, .string (⟨#[]⟩ : ByteArray), .int .i64 0, .int .i64 0, .int .u64 0, .string (⟨#[]⟩ : ByteArray), .int .i64 0]) ?_ 1 _ rfl; (with_reducible repeat (first | refine blk_drewN ?_ _ | refine blk_drew ?_ | refine blk_alloc ?_ _)); refine blk_put (cs := #[.int .i64 0, .string (⟨#[]⟩ : ByteArray), .int .i64 0, .int .i64 0, .int .u64 0, .string (⟨#[]⟩ : ByteArray), .int .i64 0]) ?_ 0 _ rfl; (with_reducible repeat (first | refine blk_drewN ?_ _ | refine blk_drew ?_ | refine blk_alloc ?_ _)); exact BK131.out) Tryd.underlying39 rfl (by kernel_rfl)) rfl ?_
      exact ⟨by first | rfl | (simp [errW_none, errW_some] <;> rfl) | (simp [*, errW_none, errW_some] <;> rfl), by repeat (first | (with_reducible first | exact HB.out | apply below_alloc | apply pw_below_drewN | apply below_drew1 | refine below_set ?_ GE131.out) | exact HB.out)⟩
     ·replace c19 := Bool.eq_false_iff.mpr c19
      subst c19
      have H1 : ((lex_digit.f (bt a0 0)).bind fun t149 => (if t149 = true then (lex_one.j1 kj3 a0 (bt a0 0) t149) else (lex_one.j1 kj3 a0 (bt a0 0) ((bt a0 0) == 45)))) = some (r1, r2, r3, r4, r5, r6, r7, r8) := by rw [if_neg (show ¬ (false = true) by decide)] at H; exact H
      clear H
      have H := H1
      clear H1
      replace H := Option.bind_eq_some_iff.mp H
      obtain ⟨t149, A230, H⟩ := H
      replace H : (if t149 = true then (lex_one.j1 kj3 a0 (bt a0 0) t149) else (lex_one.j1 kj3 a0 (bt a0 0) ((bt a0 0) == 45))) = some (r1, r2, r3, r4, r5, r6, r7, r8) := H
      have A23 := Aside0.mk A230
      clear A230
      have HC24 := Aside0.mk H
      clear H
      go_upto_if 35 with (first | ((with_reducible refine gate_callee (f := 27) rfl ?_); refine goesL_ (some 30) rfl rfl Tryd.func27 (by kernel_rfl) rfl #[.int .u8 (bt a0 0)] rfl (by (try simp only [List.map_toArray, List.map_cons, List.map_nil]); first | done | rfl | (simp only [List.length_drop, List.length_take]; rfl)) ?_; (with_reducible refine (lex_letter.calls (bt a0 0) false _ A18.out).mono ?_); rintro e w' ⟨rfl, ⟨nd, rfl⟩⟩; refine ⟨_, rfl, ?_⟩) | ((with_reducible refine gate_callee (f := 29) rfl ?_); refine goesL_ (some 37) rfl rfl Tryd.func29 (by kernel_rfl) rfl #[.int .u8 (bt a0 0)] rfl (by (try simp only [List.map_toArray, List.map_cons, List.map_nil]); first | done | rfl | (simp only [List.length_drop, List.length_take]; rfl)) ?_; (with_reducible refine (lex_digit.calls (bt a0 0) t149 _ A23.out).mono ?_); rintro e w' ⟨rfl, ⟨nd, rfl⟩⟩; refine ⟨_, rfl, ?_⟩))
      (try simp only [Act.put, List.setIfInBounds_toArray, List.set_cons_zero, List.set_cons_succ])
      go_cut [35] (fun v35 wc => ∃ (kq : Nat) (x35_23 : Bool), v35 = .bool x35_23 ∧ Aside0 (lex_one.j1 kq a0 (bt a0 0) x35_23 = some (r1, r2, r3, r4, r5, r6, r7, r8)) ∧ Aside0 (kq ≤ kj3) ∧ Aside0 (wc.heap[gb131]? = some (.cells #[.int .i64 0, .string (⟨#[]⟩ : ByteArray), .int .i64 0, .int .i64 0, .int .u64 0, .string (⟨#[]⟩ : ByteArray), .int .i64 0] 39 (0, 0))) ∧ Aside0 (Below w.heap.size w wc))
      case first =>
       have H := HC24.out
       clear HC24
       by_cases c25 : t149 = true
       ·subst c25
        have H1 : (lex_one.j1 kj3 a0 (bt a0 0) true) = some (r1, r2, r3, r4, r5, r6, r7, r8) := by rw [if_pos rfl] at H; exact H
        clear H
        have H := H1
        clear H1
        have H' := Aside0.mk H
        clear H
        go_wp2
        go_meet
        case rel => exact ⟨_, (true), (by first | rfl | (simp; done) | (simp [*]; done)), H', ⟨by have := HJ3.out; first | omega | exact Nat.le_refl _⟩, ⟨by (with_reducible repeat (first | refine blk_drewN ?_ _ | refine blk_drew ?_ | refine blk_alloc ?_ _)); exact BK131.out⟩, ⟨by repeat (first | (with_reducible first | exact HB.out | apply below_alloc | apply pw_below_drewN | apply below_drew1 | refine below_set ?_ GE131.out) | exact HB.out)⟩⟩
       ·replace c25 := Bool.eq_false_iff.mpr c25
        subst c25
        have H1 : (lex_one.j1 kj3 a0 (bt a0 0) ((bt a0 0) == 45)) = some (r1, r2, r3, r4, r5, r6, r7, r8) := by rw [if_neg (show ¬ (false = true) by decide)] at H; exact H
        clear H
        have H := H1
        clear H1
        have H' := Aside0.mk H
        clear H
        go_wp2
        go_meet
        case rel => exact ⟨_, (((bt a0 0) == 45)), (by first | rfl | (simp; done) | (simp [*]; done)), H', ⟨by have := HJ3.out; first | omega | exact Nat.le_refl _⟩, ⟨by (with_reducible repeat (first | refine blk_drewN ?_ _ | refine blk_drew ?_ | refine blk_alloc ?_ _)); exact BK131.out⟩, ⟨by repeat (first | (with_reducible first | exact HB.out | apply below_alloc | apply pw_below_drewN | apply below_drew1 | refine below_set ?_ GE131.out) | exact HB.out)⟩⟩
      case rest =>
       clear HC24
       try clear c1
       try clear p1
       try clear q1
       try clear hx1
       try clear qi1
       try clear c2
       try clear c2b0
       try clear c2b1
       try clear p2
       try clear p3
       try clear q3
       try clear hx3
       try clear qi3
       try clear c6
       try clear c6b0
       try clear c6b1
       try clear c7
       try clear c7b0
       try clear c7b1
       try clear c8
       try clear c8b0
       try clear c8b1
       try clear p9
       try clear q9
       try clear hx9
       try clear qi9
       try clear c10
       try clear c10b0
       try clear c10b1
       try clear c11
       try clear c11b0
       try clear c11b1
       try clear c12
       try clear c12b0
       try clear c12b1
       try clear p13
       try clear q13
       try clear hx13
       try clear qi13
       try clear c14
       try clear c19
       try clear c25
       try clear hcz17_0
       try clear hcz17_1
       try clear hcz17_2
       try clear hcz17_3
       try clear hcz17_4
       try clear hcz17_5
       try clear hcz17_6
       try clear hcz22_0
       try clear hcz22_1
       try clear hcz22_2
       try clear hcz22_3
       try clear hcz22_4
       try clear hcz22_5
       try clear hcz22_6
       try clear hfz17_0
       try clear hfz17_1
       try clear hfz17_2
       try clear hfz17_3
       try clear hfz17_4
       try clear hfz17_5
       try clear hfz17_6
       try clear hfz22_0
       try clear hfz22_1
       try clear hfz22_2
       try clear hfz22_3
       try clear hfz22_4
       try clear hfz22_5
       try clear hfz22_6
       try clear p1
       try clear p13
       try clear p2
       try clear p3
       try clear p9
       try clear q1
       try clear q13
       try clear q3
       try clear q9
       obtain ⟨kq, x35_23, rfl, HA, HJ23, BK131, HB⟩ := hcut
       cases kq with
       | zero => exact absurd HA.out (by simp [lex_one.j1])
       | succ kj23 =>
        have H := HA.out
        clear HA
        simp only [lex_one.j1] at H
        by_cases c26 : x35_23 = true
        ·subst c26
         have H1 : ((lex_number.f a0).bind fun bt150 => (some (bt150.1, bt150.2.1, bt150.2.2.1, bt150.2.2.2.1, bt150.2.2.2.2.1, bt150.2.2.2.2.2.1, bt150.2.2.2.2.2.2.1, bt150.2.2.2.2.2.2.2))) = some (r1, r2, r3, r4, r5, r6, r7, r8) := by rw [if_pos rfl] at H; exact H
         clear H
         have H := H1
         clear H1
         replace H := Option.bind_eq_some_iff.mp H
         obtain ⟨⟨t150, t151, t152, t153, t154, t155, t156, t157⟩, A270, H⟩ := H
         replace H : (some (t150, t151, t152, t153, t154, t155, t156, t157)) = some (r1, r2, r3, r4, r5, r6, r7, r8) := H
         have A27 := Aside0.mk A270
         clear A270
         simp only [Option.some.injEq, Prod.mk.injEq] at H
         obtain ⟨rfl, rfl, rfl, rfl, rfl, rfl, rfl, rfl⟩ := H
         go_wp2_with (first | ((with_reducible refine gate_callee (f := 30) rfl ?_); refine goesL_ (some 41) rfl rfl Tryd.func30 (by kernel_rfl) rfl #[.string a0] rfl (by (try simp only [List.map_toArray, List.map_cons, List.map_nil]); first | done | rfl | (simp only [List.length_drop, List.length_take]; rfl)) ?_; (with_reducible refine (lex_number.calls a0 t150 t151 t152 t153 t154 t155 t156 t157 _ A27.out ?side1).mono ?_); (case side1 => exact GL.of_below HG.out (by repeat (first | (with_reducible first | exact HB.out | apply below_alloc | apply pw_below_drewN | apply below_drew1 | refine below_set ?_ GE131.out) | exact HB.out))); rintro e w28 ⟨rfl, hb⟩; refine ⟨_, rfl, ?_⟩; have n0_ := Aside0.mk (blk_below (g := gb131) (o := .cells #[.int .i64 0, .string (⟨#[]⟩ : ByteArray), .int .i64 0, .int .i64 0, .int .u64 0, .string (⟨#[]⟩ : ByteArray), .int .i64 0] 39 (0, 0)) (by (with_reducible repeat (first | refine blk_drewN ?_ _ | refine blk_drew ?_ | refine blk_alloc ?_ _)); exact BK131.out) hb); have n1_ := Aside0.mk (below_step (by repeat (first | (with_reducible first | exact HB.out | apply below_alloc | apply pw_below_drewN | apply below_drew1 | refine below_set ?_ GE131.out) | exact HB.out)) hb); clear BK131; clear HB; have BK131 := n0_; have HB := n1_; clear n0_ n1_; (try clear hb); (try clear hb2); (try clear hk); (try clear hi); have hcz29_0 : w28.cell? ⟨gb131, 0, none⟩ = some (.int .i64 0) := (blk_cell BK131.out 0).trans rfl; have hcz29_1 : w28.cell? ⟨gb131, 1, none⟩ = some (.string (⟨#[]⟩ : ByteArray)) := (blk_cell BK131.out 1).trans rfl; have hcz29_2 : w28.cell? ⟨gb131, 2, none⟩ = some (.int .i64 0) := (blk_cell BK131.out 2).trans rfl; have hcz29_3 : w28.cell? ⟨gb131, 3, none⟩ = some (.int .i64 0) := (blk_cell BK131.out 3).trans rfl; have hcz29_4 : w28.cell? ⟨gb131, 4, none⟩ = some (.int .u64 0) := (blk_cell BK131.out 4).trans rfl; have hcz29_5 : w28.cell? ⟨gb131, 5, none⟩ = some (.string (⟨#[]⟩ : ByteArray)) := (blk_cell BK131.out 5).trans rfl; have hcz29_6 : w28.cell? ⟨gb131, 6, none⟩ = some (.int .i64 0) := (blk_cell BK131.out 6).trans rfl; have hfz29_0 := blk_frozen BK131.out 0; have hfz29_1 := blk_frozen BK131.out 1; have hfz29_2 := blk_frozen BK131.out 2; have hfz29_3 := blk_frozen BK131.out 3; have hfz29_4 := blk_frozen BK131.out 4; have hfz29_5 := blk_frozen BK131.out 5; have hfz29_6 := blk_frozen BK131.out 6))
         refine bodyPost_ret (results_ct rfl _ _ gb131 39 #[.int .i64 t150, .string t151, .int .i64 t152, .int .i64 t153, .int .u64 t154, .string t155, .int .i64 t156] (0, 0) _ rfl (by (with_reducible repeat (first | refine blk_drewN ?_ _ | refine blk_drew ?_ | refine blk_alloc ?_ _)); refine blk_put (cs := #[.int .i64 t150, .string t151, .int .i64 t152, .int .i64 t153, .int .u64 t154, .string t155, .int .i64 0]) ?_ 6 _ rfl; (with_reducible repeat (first | refine blk_drewN ?_ _ | refine blk_drew ?_ | refine blk_alloc ?_ _)); refine blk_put (cs := #[.int .i64 t150, .string t151, .int .i64 t152, .int .i64 t153, .int .u64 t154, .string (⟨#[]⟩ : ByteArray), .int .i64 0]) ?_ 5 _ rfl; (with_reducible repeat (first | refine blk_drewN ?_ _ | refine blk_drew ?_ | refine blk_alloc ?_ _)); refine blk_put (cs := #[.int .i64 t150, .string t151, .int .i64 t152, .int .i64 t153, .int .u64 0, .string (⟨#[]⟩ : ByteArray), .int .i64 0]) ?_ 4 _ rfl; (with_reducible repeat (first | refine blk_drewN ?_ _ | refine blk_drew ?_ | refine blk_alloc ?_ _)); refine blk_put (cs := #[.int .i64 t150, .string t151, .int .i64 t152, .int .i64 0, .int .u64 0, .string (⟨#[]⟩ : ByteArray), .int .i64 0]) ?_ 3 _ rfl; (with_reducible repeat (first | refine blk_drewN ?_ _ | refine blk_drew ?_ | refine blk_alloc ?_ _)); refine blk_put (cs := #[.int .i64 t150, .string t151, .int .i64 0, .int .i64 0, .int .u64 0, .string (⟨#[]⟩ : ByteArray), .int .i64 0]) ?_ 2 _ rfl; (with_reducible repeat (first | refine blk_drewN ?_ _ | refine blk_drew ?_ | refine blk_alloc ?_ _)); refine blk_put (cs := #[.int .i64 t150, .string (⟨#[]⟩ : ByteArray), .int .i64 0, .int .i64 0, .int .u64 0, .string (⟨#[]⟩ : ByteArray), .int .i64 0]) ?_ 1 _ rfl; (with_reducible repeat (first | refine blk_drewN ?_ _ | refine blk_drew ?_ | refine blk_alloc ?_ _)); refine blk_put (cs := #[.int .i64 0, .string (⟨#[]⟩ : ByteArray), .int .i64 0, .int .i64 0, .int .u64 0, .string (⟨#[]⟩ : ByteArray), .int .i64 0]) ?_ 0 _ rfl; (with_reducible repeat (first | refine blk_drewN ?_ _ | refine blk_drew ?_ | refine blk_alloc ?_ _)); exact BK131.out) Tryd.underlying39 rfl (by kernel_rfl)) rfl ?_
         exact ⟨by first | rfl | (simp [errW_none, errW_some] <;> rfl) | (simp [*, errW_none, errW_some] <;> rfl), by repeat (first | (with_reducible first | exact HB.out | apply below_alloc | apply pw_below_drewN | apply below_drew1 | refine below_set ?_ GE131.out) | exact HB.out)⟩
        ·replace c26 := Bool.eq_false_iff.mpr c26
         subst c26
         have H1 : (if (bt a0 0) = 39 then ((lex_text.f kj23 a0).bind fun bt158 => (some (bt158.1, bt158.2.1, bt158.2.2.1, bt158.2.2.2.1, bt158.2.2.2.2.1, bt158.2.2.2.2.2.1, bt158.2.2.2.2.2.2.1, bt158.2.2.2.2.2.2.2))) else ((strings_IndexByte.f (⟨#[40, 41, 44, 59, 61, 60, 62, 43, 42]⟩ : ByteArray) (bt a0 0)).bind fun t166 => (if t166 ≥ 0 then (if 0 ≤ 1 then (if 1 ≤ (a0.size : Int) then (some (4, a0.extract 0 1, 0, 0, 0, (⟨#[]⟩ : ByteArray), 0, 1)) else (none)) else (none)) else (some (0, (⟨#[]⟩ : ByteArray), 0, 0, 0, (⟨#[]⟩ : ByteArray), 0, 0))))) = some (r1, r2, r3, r4, r5, r6, r7, r8) := by rw [if_neg (show ¬ (false = true) by decide)] at H; exact H
         clear H
         have H := H1
         clear H1
         by_cases c30 : (bt a0 0) = 39
         ·rw [if_pos c30] at H
          have c30b0 : ((bt a0 0) == 39) = true := beq_iff_eq.mpr c30
          have c30b1 : ((bt a0 0) != 39) = false := bne_eq_false_iff_eq.mpr c30
          clear c30
          replace H := Option.bind_eq_some_iff.mp H
          obtain ⟨⟨t158, t159, t160, t161, t162, t163, t164, t165⟩, A310, H⟩ := H
          replace H : (some (t158, t159, t160, t161, t162, t163, t164, t165)) = some (r1, r2, r3, r4, r5, r6, r7, r8) := H
          have A31 := Aside0.mk A310
          clear A310
          simp only [Option.some.injEq, Prod.mk.injEq] at H
          obtain ⟨rfl, rfl, rfl, rfl, rfl, rfl, rfl, rfl⟩ := H
          go_wp2_with (first | ((with_reducible refine gate_callee (f := 31) rfl ?_); refine goesL_ (some 48) rfl rfl Tryd.func31 (by kernel_rfl) rfl #[.string a0] rfl (by (try simp only [List.map_toArray, List.map_cons, List.map_nil]); first | done | rfl | (simp only [List.length_drop, List.length_take]; rfl)) ?_; (with_reducible refine (lex_text.calls kj23 a0 t158 t159 t160 t161 t162 t163 t164 t165 _ A31.out).mono ?_); rintro e w32 ⟨rfl, hb⟩; refine ⟨_, rfl, ?_⟩; have n0_ := Aside0.mk (blk_below (g := gb131) (o := .cells #[.int .i64 0, .string (⟨#[]⟩ : ByteArray), .int .i64 0, .int .i64 0, .int .u64 0, .string (⟨#[]⟩ : ByteArray), .int .i64 0] 39 (0, 0)) (by (with_reducible repeat (first | refine blk_drewN ?_ _ | refine blk_drew ?_ | refine blk_alloc ?_ _)); exact BK131.out) hb); have n1_ := Aside0.mk (below_step (by repeat (first | (with_reducible first | exact HB.out | apply below_alloc | apply pw_below_drewN | apply below_drew1 | refine below_set ?_ GE131.out) | exact HB.out)) hb); clear BK131; clear HB; have BK131 := n0_; have HB := n1_; clear n0_ n1_; (try clear hb); (try clear hb2); (try clear hk); (try clear hi); have hcz33_0 : w32.cell? ⟨gb131, 0, none⟩ = some (.int .i64 0) := (blk_cell BK131.out 0).trans rfl; have hcz33_1 : w32.cell? ⟨gb131, 1, none⟩ = some (.string (⟨#[]⟩ : ByteArray)) := (blk_cell BK131.out 1).trans rfl; have hcz33_2 : w32.cell? ⟨gb131, 2, none⟩ = some (.int .i64 0) := (blk_cell BK131.out 2).trans rfl; have hcz33_3 : w32.cell? ⟨gb131, 3, none⟩ = some (.int .i64 0) := (blk_cell BK131.out 3).trans rfl; have hcz33_4 : w32.cell? ⟨gb131, 4, none⟩ = some (.int .u64 0) := (blk_cell BK131.out 4).trans rfl; have hcz33_5 : w32.cell? ⟨gb131, 5, none⟩ = some (.string (⟨#[]⟩ : ByteArray)) := (blk_cell BK131.out 5).trans rfl; have hcz33_6 : w32.cell? ⟨gb131, 6, none⟩ = some (.int .i64 0) := (blk_cell BK131.out 6).trans rfl; have hfz33_0 := blk_frozen BK131.out 0; have hfz33_1 := blk_frozen BK131.out 1; have hfz33_2 := blk_frozen BK131.out 2; have hfz33_3 := blk_frozen BK131.out 3; have hfz33_4 := blk_frozen BK131.out 4; have hfz33_5 := blk_frozen BK131.out 5; have hfz33_6 := blk_frozen BK131.out 6))
          refine bodyPost_ret (results_ct rfl _ _ gb131 39 #[.int .i64 t158, .string t159, .int .i64 t160, .int .i64 t161, .int .u64 t162, .string t163, .int .i64 t164] (0, 0) _ rfl (by (with_reducible repeat (first | refine blk_drewN ?_ _ | refine blk_drew ?_ | refine blk_alloc ?_ _)); refine blk_put (cs := #[.int .i64 t158, .string t159, .int .i64 t160, .int .i64 t161, .int .u64 t162, .string t163, .int .i64 0]) ?_ 6 _ rfl; (with_reducible repeat (first | refine blk_drewN ?_ _ | refine blk_drew ?_ | refine blk_alloc ?_ _)); refine blk_put (cs := #[.int .i64 t158, .string t159, .int .i64 t160, .int .i64 t161, .int .u64 t162, .string (⟨#[]⟩ : ByteArray), .int .i64 0]) ?_ 5 _ rfl; (with_reducible repeat (first | refine blk_drewN ?_ _ | refine blk_drew ?_ | refine blk_alloc ?_ _)); refine blk_put (cs := #[.int .i64 t158, .string t159, .int .i64 t160, .int .i64 t161, .int .u64 0, .string (⟨#[]⟩ : ByteArray), .int .i64 0]) ?_ 4 _ rfl; (with_reducible repeat (first | refine blk_drewN ?_ _ | refine blk_drew ?_ | refine blk_alloc ?_ _)); refine blk_put (cs := #[.int .i64 t158, .string t159, .int .i64 t160, .int .i64 0, .int .u64 0, .string (⟨#[]⟩ : ByteArray), .int .i64 0]) ?_ 3 _ rfl; (with_reducible repeat (first | refine blk_drewN ?_ _ | refine blk_drew ?_ | refine blk_alloc ?_ _)); refine blk_put (cs := #[.int .i64 t158, .string t159, .int .i64 0, .int .i64 0, .int .u64 0, .string (⟨#[]⟩ : ByteArray), .int .i64 0]) ?_ 2 _ rfl; (with_reducible repeat (first | refine blk_drewN ?_ _ | refine blk_drew ?_ | refine blk_alloc ?_ _)); refine blk_put (cs := #[.int .i64 t158, .string (⟨#[]⟩ : ByteArray), .int .i64 0, .int .i64 0, .int .u64 0, .string (⟨#[]⟩ : ByteArray), .int .i64 0]) ?_ 1 _ rfl; (with_reducible repeat (first | refine blk_drewN ?_ _ | refine blk_drew ?_ | refine blk_alloc ?_ _)); refine blk_put (cs := #[.int .i64 0, .string (⟨#[]⟩ : ByteArray), .int .i64 0, .int .i64 0, .int .u64 0, .string (⟨#[]⟩ : ByteArray), .int .i64 0]) ?_ 0 _ rfl; (with_reducible repeat (first | refine blk_drewN ?_ _ | refine blk_drew ?_ | refine blk_alloc ?_ _)); exact BK131.out) Tryd.underlying39 rfl (by kernel_rfl)) rfl ?_
          exact ⟨by first | rfl | (simp [errW_none, errW_some] <;> rfl) | (simp [*, errW_none, errW_some] <;> rfl), by repeat (first | (with_reducible first | exact HB.out | apply below_alloc | apply pw_below_drewN | apply below_drew1 | refine below_set ?_ GE131.out) | exact HB.out)⟩
         ·rw [if_neg c30] at H
          have c30b0 : ((bt a0 0) == 39) = false := beq_eq_false_iff_ne.mpr c30
          have c30b1 : ((bt a0 0) != 39) = true := bne_iff_ne.mpr c30
          replace H := Option.bind_eq_some_iff.mp H
          obtain ⟨t166, A340, H⟩ := H
          replace H : (if t166 ≥ 0 then (if 0 ≤ 1 then (if 1 ≤ (a0.size : Int) then (some (4, a0.extract 0 1, 0, 0, 0, (⟨#[]⟩ : ByteArray), 0, 1)) else (none)) else (none)) else (some (0, (⟨#[]⟩ : ByteArray), 0, 0, 0, (⟨#[]⟩ : ByteArray), 0, 0))) = some (r1, r2, r3, r4, r5, r6, r7, r8) := H
          have A34 := Aside0.mk A340
          clear A340
          by_cases c35 : t166 ≥ 0
          ·rw [if_pos c35] at H
           have c35b0 : decide (0 ≤ t166) = true := decide_eq_true c35
           clear c35
           by_cases c36 : 0 ≤ 1
           ·rw [if_pos c36] at H
            have c36b0 := eq_true c36
            have c36b1 : decide (0 ≤ 1) = true := decide_eq_true c36
            clear c36
            by_cases c37 : 1 ≤ (a0.size : Int)
            ·rw [if_pos c37] at H
             have c37b0 := eq_true c37
             have c37b1 : decide (1 ≤ (a0.size : Int)) = true := decide_eq_true c37
             clear c37
             simp only [Option.some.injEq, Prod.mk.injEq] at H
             obtain ⟨rfl, rfl, rfl, rfl, rfl, rfl, rfl, rfl⟩ := H
             go_wp2_with (first | ((with_reducible refine gate_callee (f := 32) rfl ?_); refine goesL_ (some 53) rfl rfl Tryd.func32 (by kernel_rfl) rfl #[.string (⟨#[40, 41, 44, 59, 61, 60, 62, 43, 42]⟩ : ByteArray), .int .u8 (bt a0 0)] rfl (by (try simp only [List.map_toArray, List.map_cons, List.map_nil]); first | done | rfl | (simp only [List.length_drop, List.length_take]; rfl)) ?_; (with_reducible refine (strings_IndexByte.calls (⟨#[40, 41, 44, 59, 61, 60, 62, 43, 42]⟩ : ByteArray) (bt a0 0) t166 _ A34.out).mono ?_); rintro e w' ⟨rfl, ⟨nd, rfl⟩⟩; refine ⟨_, rfl, ?_⟩; (try (rw [drewN_self wc]; generalize hq_ : World.drewN wc _ = wc; have n0_ : Aside0 (wc.heap[gb131]? = some (.cells #[.int .i64 0, .string (⟨#[]⟩ : ByteArray), .int .i64 0, .int .i64 0, .int .u64 0, .string (⟨#[]⟩ : ByteArray), .int .i64 0] 39 (0, 0))) := ⟨by rw [← hq_]; exact (by (with_reducible repeat (first | refine blk_drewN ?_ _ | refine blk_drew ?_ | refine blk_alloc ?_ _)); exact BK131.out)⟩; have n1_ : Aside0 (Below w.heap.size w wc) := ⟨by rw [← hq_]; exact (by repeat (first | (with_reducible first | exact HB.out | apply below_alloc | apply pw_below_drewN | apply below_drew1 | refine below_set ?_ GE131.out) | exact HB.out))⟩; clear BK131 HB hq_; have BK131 := n0_; have HB := n1_; clear n0_ n1_)); have hcz38_0 : wc.cell? ⟨gb131, 0, none⟩ = some (.int .i64 0) := (blk_cell BK131.out 0).trans rfl; have hcz38_1 : wc.cell? ⟨gb131, 1, none⟩ = some (.string (⟨#[]⟩ : ByteArray)) := (blk_cell BK131.out 1).trans rfl; have hcz38_2 : wc.cell? ⟨gb131, 2, none⟩ = some (.int .i64 0) := (blk_cell BK131.out 2).trans rfl; have hcz38_3 : wc.cell? ⟨gb131, 3, none⟩ = some (.int .i64 0) := (blk_cell BK131.out 3).trans rfl; have hcz38_4 : wc.cell? ⟨gb131, 4, none⟩ = some (.int .u64 0) := (blk_cell BK131.out 4).trans rfl; have hcz38_5 : wc.cell? ⟨gb131, 5, none⟩ = some (.string (⟨#[]⟩ : ByteArray)) := (blk_cell BK131.out 5).trans rfl; have hcz38_6 : wc.cell? ⟨gb131, 6, none⟩ = some (.int .i64 0) := (blk_cell BK131.out 6).trans rfl; have hfz38_0 := blk_frozen BK131.out 0; have hfz38_1 := blk_frozen BK131.out 1; have hfz38_2 := blk_frozen BK131.out 2; have hfz38_3 := blk_frozen BK131.out 3; have hfz38_4 := blk_frozen BK131.out 4; have hfz38_5 := blk_frozen BK131.out 5; have hfz38_6 := blk_frozen BK131.out 6))
             refine bodyPost_ret (results_ct rfl _ _ gb131 39 #[.int .i64 4, .string (a0.extract 0 1), .int .i64 0, .int .i64 0, .int .u64 0, .string (⟨#[]⟩ : ByteArray), .int .i64 0] (0, 0) _ rfl (by (with_reducible repeat (first | refine blk_drewN ?_ _ | refine blk_drew ?_ | refine blk_alloc ?_ _)); refine blk_put (cs := #[.int .i64 4, .string (a0.extract 0 1), .int .i64 0, .int .i64 0, .int .u64 0, .string (⟨#[]⟩ : ByteArray), .int .i64 0]) ?_ 6 _ rfl; (with_reducible repeat (first | refine blk_drewN ?_ _ | refine blk_drew ?_ | refine blk_alloc ?_ _)); refine blk_put (cs := #[.int .i64 4, .string (a0.extract 0 1), .int .i64 0, .int .i64 0, .int .u64 0, .string (⟨#[]⟩ : ByteArray), .int .i64 0]) ?_ 5 _ rfl; (with_reducible repeat (first | refine blk_drewN ?_ _ | refine blk_drew ?_ | refine blk_alloc ?_ _)); refine blk_put (cs := #[.int .i64 4, .string (a0.extract 0 1), .int .i64 0, .int .i64 0, .int .u64 0, .string (⟨#[]⟩ : ByteArray), .int .i64 0]) ?_ 4 _ rfl; (with_reducible repeat (first | refine blk_drewN ?_ _ | refine blk_drew ?_ | refine blk_alloc ?_ _)); refine blk_put (cs := #[.int .i64 4, .string (a0.extract 0 1), .int .i64 0, .int .i64 0, .int .u64 0, .string (⟨#[]⟩ : ByteArray), .int .i64 0]) ?_ 3 _ rfl; (with_reducible repeat (first | refine blk_drewN ?_ _ | refine blk_drew ?_ | refine blk_alloc ?_ _)); refine blk_put (cs := #[.int .i64 4, .string (a0.extract 0 1), .int .i64 0, .int .i64 0, .int .u64 0, .string (⟨#[]⟩ : ByteArray), .int .i64 0]) ?_ 2 _ rfl; (with_reducible repeat (first | refine blk_drewN ?_ _ | refine blk_drew ?_ | refine blk_alloc ?_ _)); refine blk_put (cs := #[.int .i64 4, .string (⟨#[]⟩ : ByteArray), .int .i64 0, .int .i64 0, .int .u64 0, .string (⟨#[]⟩ : ByteArray), .int .i64 0]) ?_ 1 _ rfl; (with_reducible repeat (first | refine blk_drewN ?_ _ | refine blk_drew ?_ | refine blk_alloc ?_ _)); refine blk_put (cs := #[.int .i64 0, .string (⟨#[]⟩ : ByteArray), .int .i64 0, .int .i64 0, .int .u64 0, .string (⟨#[]⟩ : ByteArray), .int .i64 0]) ?_ 0 _ rfl; (with_reducible repeat (first | refine blk_drewN ?_ _ | refine blk_drew ?_ | refine blk_alloc ?_ _)); exact BK131.out) Tryd.underlying39 rfl (by kernel_rfl)) rfl ?_
             exact ⟨by first | rfl | (simp [errW_none, errW_some] <;> rfl) | (simp [*, errW_none, errW_some] <;> rfl), by repeat (first | (with_reducible first | exact HB.out | apply below_alloc | apply pw_below_drewN | apply below_drew1 | refine below_set ?_ GE131.out) | exact HB.out)⟩
            ·rw [if_neg c37] at H
             exact absurd H (by simp)
           ·rw [if_neg c36] at H
            exact absurd H (by simp)
          ·rw [if_neg c35] at H
           have c35b0 : decide (0 ≤ t166) = false := decide_eq_false c35
           clear c35
           simp only [Option.some.injEq, Prod.mk.injEq] at H
           obtain ⟨rfl, rfl, rfl, rfl, rfl, rfl, rfl, rfl⟩ := H
           go_wp2_with (first | ((with_reducible refine gate_callee (f := 32) rfl ?_); refine goesL_ (some 53) rfl rfl Tryd.func32 (by kernel_rfl) rfl #[.string (⟨#[40, 41, 44, 59, 61, 60, 62, 43, 42]⟩ : ByteArray), .int .u8 (bt a0 0)] rfl (by (try simp only [List.map_toArray, List.map_cons, List.map_nil]); first | done | rfl | (simp only [List.length_drop, List.length_take]; rfl)) ?_; (with_reducible refine (strings_IndexByte.calls (⟨#[40, 41, 44, 59, 61, 60, 62, 43, 42]⟩ : ByteArray) (bt a0 0) t166 _ A34.out).mono ?_); rintro e w' ⟨rfl, ⟨nd, rfl⟩⟩; refine ⟨_, rfl, ?_⟩; (try (rw [drewN_self wc]; generalize hq_ : World.drewN wc _ = wc; have n0_ : Aside0 (wc.heap[gb131]? = some (.cells #[.int .i64 0, .string (⟨#[]⟩ : ByteArray), .int .i64 0, .int .i64 0, .int .u64 0, .string (⟨#[]⟩ : ByteArray), .int .i64 0] 39 (0, 0))) := ⟨by rw [← hq_]; exact (by (with_reducible repeat (first | refine blk_drewN ?_ _ | refine blk_drew ?_ | refine blk_alloc ?_ _)); exact BK131.out)⟩; have n1_ : Aside0 (Below w.heap.size w wc) := ⟨by rw [← hq_]; exact (by repeat (first | (with_reducible first | exact HB.out | apply below_alloc | apply pw_below_drewN | apply below_drew1 | refine below_set ?_ GE131.out) | exact HB.out))⟩; clear BK131 HB hq_; have BK131 := n0_; have HB := n1_; clear n0_ n1_)); have hcz39_0 : wc.cell? ⟨gb131, 0, none⟩ = some (.int .i64 0) := (blk_cell BK131.out 0).trans rfl; have hcz39_1 : wc.cell? ⟨gb131, 1, none⟩ = some (.string (⟨#[]⟩ : ByteArray)) := (blk_cell BK131.out 1).trans rfl; have hcz39_2 : wc.cell? ⟨gb131, 2, none⟩ = some (.int .i64 0) := (blk_cell BK131.out 2).trans rfl; have hcz39_3 : wc.cell? ⟨gb131, 3, none⟩ = some (.int .i64 0) := (blk_cell BK131.out 3).trans rfl; have hcz39_4 : wc.cell? ⟨gb131, 4, none⟩ = some (.int .u64 0) := (blk_cell BK131.out 4).trans rfl; have hcz39_5 : wc.cell? ⟨gb131, 5, none⟩ = some (.string (⟨#[]⟩ : ByteArray)) := (blk_cell BK131.out 5).trans rfl; have hcz39_6 : wc.cell? ⟨gb131, 6, none⟩ = some (.int .i64 0) := (blk_cell BK131.out 6).trans rfl; have hfz39_0 := blk_frozen BK131.out 0; have hfz39_1 := blk_frozen BK131.out 1; have hfz39_2 := blk_frozen BK131.out 2; have hfz39_3 := blk_frozen BK131.out 3; have hfz39_4 := blk_frozen BK131.out 4; have hfz39_5 := blk_frozen BK131.out 5; have hfz39_6 := blk_frozen BK131.out 6))
           refine bodyPost_ret (results_ct rfl _ _ gb131 39 #[.int .i64 0, .string (⟨#[]⟩ : ByteArray), .int .i64 0, .int .i64 0, .int .u64 0, .string (⟨#[]⟩ : ByteArray), .int .i64 0] (0, 0) _ rfl (by (with_reducible repeat (first | refine blk_drewN ?_ _ | refine blk_drew ?_ | refine blk_alloc ?_ _)); refine blk_put (cs := #[.int .i64 0, .string (⟨#[]⟩ : ByteArray), .int .i64 0, .int .i64 0, .int .u64 0, .string (⟨#[]⟩ : ByteArray), .int .i64 0]) ?_ 6 _ rfl; (with_reducible repeat (first | refine blk_drewN ?_ _ | refine blk_drew ?_ | refine blk_alloc ?_ _)); refine blk_put (cs := #[.int .i64 0, .string (⟨#[]⟩ : ByteArray), .int .i64 0, .int .i64 0, .int .u64 0, .string (⟨#[]⟩ : ByteArray), .int .i64 0]) ?_ 5 _ rfl; (with_reducible repeat (first | refine blk_drewN ?_ _ | refine blk_drew ?_ | refine blk_alloc ?_ _)); refine blk_put (cs := #[.int .i64 0, .string (⟨#[]⟩ : ByteArray), .int .i64 0, .int .i64 0, .int .u64 0, .string (⟨#[]⟩ : ByteArray), .int .i64 0]) ?_ 4 _ rfl; (with_reducible repeat (first | refine blk_drewN ?_ _ | refine blk_drew ?_ | refine blk_alloc ?_ _)); refine blk_put (cs := #[.int .i64 0, .string (⟨#[]⟩ : ByteArray), .int .i64 0, .int .i64 0, .int .u64 0, .string (⟨#[]⟩ : ByteArray), .int .i64 0]) ?_ 3 _ rfl; (with_reducible repeat (first | refine blk_drewN ?_ _ | refine blk_drew ?_ | refine blk_alloc ?_ _)); refine blk_put (cs := #[.int .i64 0, .string (⟨#[]⟩ : ByteArray), .int .i64 0, .int .i64 0, .int .u64 0, .string (⟨#[]⟩ : ByteArray), .int .i64 0]) ?_ 2 _ rfl; (with_reducible repeat (first | refine blk_drewN ?_ _ | refine blk_drew ?_ | refine blk_alloc ?_ _)); refine blk_put (cs := #[.int .i64 0, .string (⟨#[]⟩ : ByteArray), .int .i64 0, .int .i64 0, .int .u64 0, .string (⟨#[]⟩ : ByteArray), .int .i64 0]) ?_ 1 _ rfl; (with_reducible repeat (first | refine blk_drewN ?_ _ | refine blk_drew ?_ | refine blk_alloc ?_ _)); refine blk_put (cs := #[.int .i64 0, .string (⟨#[]⟩ : ByteArray), .int .i64 0, .int .i64 0, .int .u64 0, .string (⟨#[]⟩ : ByteArray), .int .i64 0]) ?_ 0 _ rfl; (with_reducible repeat (first | refine blk_drewN ?_ _ | refine blk_drew ?_ | refine blk_alloc ?_ _)); exact BK131.out) Tryd.underlying39 rfl (by kernel_rfl)) rfl ?_
           exact ⟨by first | rfl | (simp [errW_none, errW_some] <;> rfl) | (simp [*, errW_none, errW_some] <;> rfl), by repeat (first | (with_reducible first | exact HB.out | apply below_alloc | apply pw_below_drewN | apply below_drew1 | refine below_set ?_ GE131.out) | exact HB.out)⟩
 ·rw [if_neg c2] at H
  exact absurd H (by simp)
end Go.Proofs.YtjehfmimbbdnkaaDoor.L
namespace Go.Proofs.YtjehfmimbbdnkaaDoor.L
open Go.RowKit Go.Proofs.YtjehfmimbbdnkaaDoorW.PrintWords Go.Proofs.YtjehfmimbbdnkaaDoorW.PrintLast Go.Proofs.YtjehfmimbbdnkaaDoorW.PrintMore
attribute [local go_sem] max2_int min2_int max_two min_two max_three min_three max_four min_four
set_option linter.unusedVariables false
set_option linter.unusedSimpArgs false
mutual
def lex_Lex.l0 : Nat → ByteArray → List (S39) → Int → Int → Int → Option ((List (S39)) × Int × Int)
 | 0, _, _, _, _, _ => none
 | k + 1, x0, x5, x6, x14, x15 => if x15 < x14 then (if x15 < x6 then (lex_Lex.j1 k x0 x5 x6 x15 x14 x15 true) else (if 0 ≤ x15 then (if x15 < (x0.size : Int) then (if (bt x0 x15) = 32 then (lex_Lex.j1 k x0 x5 x6 x15 x14 x15 true) else (if (bt x0 x15) = 9 then (lex_Lex.j1 k x0 x5 x6 x15 x14 x15 true) else (lex_Lex.j1 k x0 x5 x6 x15 x14 x15 ((bt x0 x15) == 10)))) else (none)) else (none))) else (if x5.length < 1954687338268 then (some ((x5 ++ [(⟨0, (⟨#[]⟩ : ByteArray), (⟨0, 0, 0, (⟨#[]⟩ : ByteArray)⟩ : S37), (x0.size : Int)⟩ : S39)]), 0, 0)) else (none))
def lex_Lex.j1 : Nat → ByteArray → List (S39) → Int → Int → Int → Int → Bool → Option ((List (S39)) × Int × Int)
 | 0, _, _, _, _, _, _, _ => none
 | k + 1, x0, x5, x6, x7, x14, x15, x38 => if x38 = true then (lex_Lex.l0 k x0 x5 x6 x14 (wrap64 (x15 + 1))) else (if 0 ≤ x7 then (if x7 ≤ (x0.size : Int) then ((lex_one.f k (x0.extract (x7 : Int).toNat x0.size)).bind fun bt170 => (if bt170.2.2.2.2.2.2.2 = 0 then (some (([] : List (S39)), x7, 3)) else (if x5.length < 1954687338268 then (lex_Lex.l0 k x0 (x5 ++ [(⟨bt170.1, bt170.2.1, (⟨bt170.2.2.1, bt170.2.2.2.1, bt170.2.2.2.2.1, bt170.2.2.2.2.2.1⟩ : S37), x7⟩ : S39)]) (wrap64 (x7 + bt170.2.2.2.2.2.2.2)) x14 (wrap64 (x15 + 1))) else (none)))) else (none)) else (none))
end
def lex_Lex.f (k : Nat) (a0 : ByteArray) : Option ((List (S39)) × Int × Int) := if (a0.size : Int) > 400 then (some (([] : List (S39)), 0, 2)) else (lex_Lex.l0 k a0 ([] : List (S39)) 0 (a0.size : Int) 0)
theorem lex_Lex.mono_l : ∀ k, (∀ y0 y1 y2 y3 y4, LeO (lex_Lex.l0 k y0 y1 y2 y3 y4) (lex_Lex.l0 (k + 1) y0 y1 y2 y3 y4)) ∧ (∀ y0 y1 y2 y3 y4 y5 y6, LeO (lex_Lex.j1 k y0 y1 y2 y3 y4 y5 y6) (lex_Lex.j1 (k + 1) y0 y1 y2 y3 y4 y5 y6))
 | 0 => ⟨fun _ _ _ _ _ r h => by simp [lex_Lex.l0] at h, fun _ _ _ _ _ _ _ r h => by simp [lex_Lex.j1] at h⟩
 | k + 1 => by
  obtain ⟨ih0, ih1⟩ := lex_Lex.mono_l k
  refine ⟨?_, ?_⟩
  ·intro y0 y1 y2 y3 y4
   unfold lex_Lex.l0
   repeat' first
   | (with_reducible exact ih0 _ _ _ _ _)
   | (with_reducible exact ih1 _ _ _ _ _ _ _)
   | (with_reducible exact lex_one.mono _ _)
   | (with_reducible exact LeO.refl _)
   | (with_reducible exact LeO.none _)
   | (with_reducible refine LeO.ite ?_ ?_)
   | (with_reducible refine LeO.bind ?_ (fun _ => ?_))
   | exact ih0 _ _ _ _ _
   | exact ih1 _ _ _ _ _ _ _
   | exact lex_one.mono _ _
   | exact LeO.none _
   | refine LeO.ite ?_ ?_
   | refine LeO.bind ?_ (fun _ => ?_)
  ·intro y0 y1 y2 y3 y4 y5 y6
   unfold lex_Lex.j1
   repeat' first
   | (with_reducible exact ih0 _ _ _ _ _)
   | (with_reducible exact ih1 _ _ _ _ _ _ _)
   | (with_reducible exact lex_one.mono _ _)
   | (with_reducible exact LeO.refl _)
   | (with_reducible exact LeO.none _)
   | (with_reducible refine LeO.ite ?_ ?_)
   | (with_reducible refine LeO.bind ?_ (fun _ => ?_))
   | exact ih0 _ _ _ _ _
   | exact ih1 _ _ _ _ _ _ _
   | exact lex_one.mono _ _
   | exact LeO.none _
   | refine LeO.ite ?_ ?_
   | refine LeO.bind ?_ (fun _ => ?_)
theorem lex_Lex.mono : ∀ a0 k, LeO (lex_Lex.f k a0) (lex_Lex.f (k + 1) a0) := by
 intro a0 k
 obtain ⟨ih0, ih1⟩ := lex_Lex.mono_l k
 unfold lex_Lex.f
 repeat' first
   | (with_reducible exact ih0 _ _ _ _ _)
   | (with_reducible exact ih1 _ _ _ _ _ _ _)
   | (with_reducible exact lex_one.mono _ _)
   | (with_reducible exact LeO.refl _)
   | (with_reducible exact LeO.none _)
   | (with_reducible refine LeO.ite ?_ ?_)
   | (with_reducible refine LeO.bind ?_ (fun _ => ?_))
   | exact ih0 _ _ _ _ _
   | exact ih1 _ _ _ _ _ _ _
   | exact lex_one.mono _ _
   | exact LeO.none _
   | refine LeO.ite ?_ ?_
   | refine LeO.bind ?_ (fun _ => ?_)
set_option maxHeartbeats 8000000 in
set_option maxRecDepth 100000 in
theorem lex_Lex.calls (k : Nat) (a0 : ByteArray) (r1 : List (S39)) (r2 : Int) (r3 : Int) (w : World) (h : lex_Lex.f k a0 = some (r1, r2, r3)) (hG : GL w) :
  Calls Tryd.prog 9 #[.string a0] w fun e w' => ∃ v0_ : Value, e = .returned (.tuple #[v0_, .int .i64 r2, .int .i64 r3]) ∧ Kd.R k39 39 w' w.heap.size (fun _ => True) v0_ r1 ∧ Below w.heap.size w w' := by
 have hu39 := Tryd.underlying39
 have HB := Aside0.mk (Below.refl w.heap.size w)
 have HG := Aside0.mk hG
 clear hG
 have H : (if (a0.size : Int) > 400 then (some (([] : List (S39)), 0, 2)) else (lex_Lex.l0 k a0 ([] : List (S39)) 0 (a0.size : Int) 0)) = some (r1, r2, r3) := h
 clear h
 by_cases c2 : (a0.size : Int) > 400
 ·rw [if_pos c2] at H
  have c2b0 : decide (400 < (a0.size : Int)) = true := decide_eq_true c2
  have c2b1 : decide (400 < a0.size) = true := decide_eq_true (by omega)
  clear c2
  simp only [Option.some.injEq, Prod.mk.injEq] at H
  obtain ⟨rfl, rfl, rfl⟩ := H
  go_enter Tryd.func9, Tryd.ntmps9
  go_wp2
  go_ret3
  exact ⟨_, by first | rfl | (simp [errW_none, errW_some] <;> rfl) | (simp [*, errW_none, errW_some] <;> rfl), by first | exact Kd.R_nil _ _ _ _ _ | exact Kd.N_nil _ _ _ _ _ | exact Kd.V_nil _ _ _ _ _ | exact Kd.Q_nil _ _ _ _ _ | exact Kd.S_nil _ _ _ _ _, by repeat (first | (with_reducible first | exact HB.out | apply below_alloc | apply pw_below_drewN | apply below_drew1) | exact HB.out)⟩
 ·rw [if_neg c2] at H
  have c2b0 : decide (400 < (a0.size : Int)) = false := decide_eq_false c2
  have c2b1 : decide (400 < a0.size) = false := decide_eq_false (by omega)
  clear c2
  have H' := Aside0.mk H
  clear H
  go_enter Tryd.func9, Tryd.ntmps9
  go_wp2
  go_loopg [5, 6, 15] k (fun kq v5 v6 v15 w' => ∃ (x5_1 : List (S39)) (x6_1 : Int) (x15_1 : Int), v6 = .int .i64 x6_1 ∧ v15 = .int .i64 x15_1 ∧ Aside0 (lex_Lex.l0 kq a0 x5_1 x6_1 (a0.size : Int) x15_1 = some (r1, r2, r3)) ∧ Aside0 (kq ≤ k) ∧ Aside0 (Kd.R k39 39 w' w.heap.size (fun _ => True) v5 x5_1) ∧ Aside0 (Below w.heap.size w w'))
  case atStart => exact ⟨(([] : List (S39))), (0), (0), (by first | rfl | (simp; done) | (simp [*]; done)), (by first | rfl | (simp; done) | (simp [*]; done)), H', ⟨Nat.le_refl _⟩, ⟨by first | exact Kd.R_nil _ _ _ _ _ | exact Kd.N_nil _ _ _ _ _ | exact Kd.V_nil _ _ _ _ _ | exact Kd.Q_nil _ _ _ _ _ | exact Kd.S_nil _ _ _ _ _⟩, ⟨by repeat (first | (with_reducible first | exact HB.out | apply below_alloc | apply pw_below_drewN | apply below_drew1) | exact HB.out)⟩⟩
  case round =>
   clear H'
   try clear c2
   try clear c2b0
   try clear c2b1
   try clear p2
   obtain ⟨x5_1, x6_1, x15_1, rfl, rfl, HA, HK1, HO_5, HB⟩ := hrel
   cases gk with
   | zero => exact absurd HA.out (by simp [lex_Lex.l0])
   | succ k1 =>
    have H := HA.out
    clear HA
    simp only [lex_Lex.l0] at H
    by_cases c3 : x15_1 < (a0.size : Int)
    ·rw [if_pos c3] at H
     have c3b0 : decide (x15_1 < (a0.size : Int)) = true := decide_eq_true c3
     clear c3
     have HC4 := Aside0.mk H
     clear H
     go_upto_region 8 with (fail)
     go_cut [38] (fun v38 wc => ∃ (kq : Nat) (x38_3 : Bool), v38 = .bool x38_3 ∧ Aside0 (lex_Lex.j1 kq a0 x5_1 x6_1 x15_1 (a0.size : Int) x15_1 x38_3 = some (r1, r2, r3)) ∧ Aside0 (kq ≤ k1) ∧ Aside0 (Kd.R k39 39 wc w.heap.size (fun _ => True) u5 x5_1) ∧ Aside0 (Below w.heap.size w wc))
     case first =>
      have H := HC4.out
      clear HC4
      by_cases c5 : x15_1 < x6_1
      ·rw [if_pos c5] at H
       have c5b0 : decide (x15_1 < x6_1) = true := decide_eq_true c5
       clear c5
       (first | rw [c5b0] | (simp only [i64_w, i32_w]; rw [c5b0]) | skip)
       have H' := Aside0.mk H
       clear H
       go_wp2
       go_meet
       case rel => exact ⟨_, (true), (by first | rfl | (simp; done) | (simp [*]; done)), H', ⟨by have := HK1.out; first | omega | exact Nat.le_refl _⟩, ⟨by (with_reducible repeat (first | apply Kd.R_alloc | apply Kd.R_drewN | apply Kd.R_drew)); exact HO_5.out⟩, ⟨by repeat (first | (with_reducible first | exact HB.out | apply below_alloc | apply pw_below_drewN | apply below_drew1) | exact HB.out)⟩⟩
      ·rw [if_neg c5] at H
       have c5b0 : decide (x15_1 < x6_1) = false := decide_eq_false c5
       clear c5
       (first | rw [c5b0] | (simp only [i64_w, i32_w]; rw [c5b0]) | skip)
       by_cases c6 : 0 ≤ x15_1
       ·rw [if_pos c6] at H
        have c6b0 : decide (0 ≤ x15_1) = true := decide_eq_true c6
        clear c6
        by_cases c7 : x15_1 < (a0.size : Int)
        ·rw [if_pos c7] at H
         have c7b0 : decide (x15_1 < (a0.size : Int)) = true := decide_eq_true c7
         clear c7
         by_cases c9 : (bt a0 x15_1) = 32
         ·rw [if_pos c9] at H
          have c9b0 : ((bt a0 x15_1) == 32) = true := beq_iff_eq.mpr c9
          have c9b1 : ((bt a0 x15_1) != 32) = false := bne_eq_false_iff_eq.mpr c9
          clear c9
          have H' := Aside0.mk H
          clear H
          have p8 : 0 ≤ (x15_1 : Int) := of_decide_eq_true (by first | (with_reducible assumption) | assumption)
          have q8 : x15_1 < (a0.size : Int) := of_decide_eq_true (by first | (with_reducible assumption) | assumption)
          have hx8 := bt_at a0 x15_1
          replace p8 := eq_true p8
          replace q8 := eq_true q8
          go_wp2
          go_meet
          case rel => exact ⟨_, (true), (by first | rfl | (simp; done) | (simp [*]; done)), H', ⟨by have := HK1.out; first | omega | exact Nat.le_refl _⟩, ⟨by (with_reducible repeat (first | apply Kd.R_alloc | apply Kd.R_drewN | apply Kd.R_drew)); exact HO_5.out⟩, ⟨by repeat (first | (with_reducible first | exact HB.out | apply below_alloc | apply pw_below_drewN | apply below_drew1) | exact HB.out)⟩⟩
         ·rw [if_neg c9] at H
          have c9b0 : ((bt a0 x15_1) == 32) = false := beq_eq_false_iff_ne.mpr c9
          have c9b1 : ((bt a0 x15_1) != 32) = true := bne_iff_ne.mpr c9
          by_cases c11 : (bt a0 x15_1) = 9
          ·rw [if_pos c11] at H
           have c11b0 : ((bt a0 x15_1) == 9) = true := beq_iff_eq.mpr c11
           have c11b1 : ((bt a0 x15_1) != 9) = false := bne_eq_false_iff_eq.mpr c11
           clear c11
           have H' := Aside0.mk H
           clear H
           have p8 : 0 ≤ (x15_1 : Int) := of_decide_eq_true (by first | (with_reducible assumption) | assumption)
           have q8 : x15_1 < (a0.size : Int) := of_decide_eq_true (by first | (with_reducible assumption) | assumption)
           have hx8 := bt_at a0 x15_1
           replace p8 := eq_true p8
           replace q8 := eq_true q8
           have p10 : 0 ≤ (x15_1 : Int) := of_decide_eq_true (by first | (with_reducible assumption) | assumption)
           have q10 : x15_1 < (a0.size : Int) := of_decide_eq_true (by first | (with_reducible assumption) | assumption)
           have hx10 := bt_at a0 x15_1
           replace p10 := eq_true p10
           replace q10 := eq_true q10
           go_wp2
           go_meet
           case rel => exact ⟨_, (true), (by first | rfl | (simp; done) | (simp [*]; done)), H', ⟨by have := HK1.out; first | omega | exact Nat.le_refl _⟩, ⟨by (with_reducible repeat (first | apply Kd.R_alloc | apply Kd.R_drewN | apply Kd.R_drew)); exact HO_5.out⟩, ⟨by repeat (first | (with_reducible first | exact HB.out | apply below_alloc | apply pw_below_drewN | apply below_drew1) | exact HB.out)⟩⟩
          ·rw [if_neg c11] at H
           have c11b0 : ((bt a0 x15_1) == 9) = false := beq_eq_false_iff_ne.mpr c11
           have c11b1 : ((bt a0 x15_1) != 9) = true := bne_iff_ne.mpr c11
           have H' := Aside0.mk H
           clear H
           have p8 : 0 ≤ (x15_1 : Int) := of_decide_eq_true (by first | (with_reducible assumption) | assumption)
           have q8 : x15_1 < (a0.size : Int) := of_decide_eq_true (by first | (with_reducible assumption) | assumption)
           have hx8 := bt_at a0 x15_1
           replace p8 := eq_true p8
           replace q8 := eq_true q8
           have p10 : 0 ≤ (x15_1 : Int) := of_decide_eq_true (by first | (with_reducible assumption) | assumption)
           have q10 : x15_1 < (a0.size : Int) := of_decide_eq_true (by first | (with_reducible assumption) | assumption)
           have hx10 := bt_at a0 x15_1
           replace p10 := eq_true p10
           replace q10 := eq_true q10
           have p12 : 0 ≤ (x15_1 : Int) := of_decide_eq_true (by first | (with_reducible assumption) | assumption)
           have q12 : x15_1 < (a0.size : Int) := of_decide_eq_true (by first | (with_reducible assumption) | assumption)
           have hx12 := bt_at a0 x15_1
           replace p12 := eq_true p12
           replace q12 := eq_true q12
           go_wp2
           go_meet
           case rel => exact ⟨_, (((bt a0 x15_1) == 10)), (by first | rfl | (simp; done) | (simp [*]; done)), H', ⟨by have := HK1.out; first | omega | exact Nat.le_refl _⟩, ⟨by (with_reducible repeat (first | apply Kd.R_alloc | apply Kd.R_drewN | apply Kd.R_drew)); exact HO_5.out⟩, ⟨by repeat (first | (with_reducible first | exact HB.out | apply below_alloc | apply pw_below_drewN | apply below_drew1) | exact HB.out)⟩⟩
        ·rw [if_neg c7] at H
         exact absurd H (by simp)
       ·rw [if_neg c6] at H
        exact absurd H (by simp)
     case rest =>
      clear HC4
      try clear c1
      try clear p1
      try clear q1
      try clear hx1
      try clear c2
      try clear c2b0
      try clear c2b1
      try clear p2
      try clear c3
      try clear c3b0
      try clear c5
      try clear c5b0
      try clear c6
      try clear c6b0
      try clear c7
      try clear c7b0
      try clear p8
      try clear q8
      try clear hx8
      try clear c9
      try clear c9b0
      try clear c9b1
      try clear p10
      try clear q10
      try clear hx10
      try clear c11
      try clear c11b0
      try clear c11b1
      try clear p12
      try clear q12
      try clear hx12
      try clear p10
      try clear p12
      try clear p2
      try clear p8
      try clear q10
      try clear q12
      try clear q8
      obtain ⟨kq, x38_3, rfl, HA, HJ3, HO_5, HB⟩ := hcut
      cases kq with
      | zero => exact absurd HA.out (by simp [lex_Lex.j1])
      | succ kj3 =>
       have H := HA.out
       clear HA
       simp only [lex_Lex.j1] at H
       by_cases c13 : x38_3 = true
       ·subst c13
        have H1 : (lex_Lex.l0 kj3 a0 x5_1 x6_1 (a0.size : Int) (wrap64 (x15_1 + 1))) = some (r1, r2, r3) := by rw [if_pos rfl] at H; exact H
        clear H
        have H := H1
        clear H1
        have H' := Aside0.mk H
        clear H
        go_wp2
        go_roundg kj3
        case measure => have := HK1.out; have := HJ3.out; omega
        case rel => exact ⟨(x5_1), (x6_1), (wrap64 (x15_1 + 1)), (by first | rfl | (simp; done) | (simp [*]; done)), (by first | rfl | (simp; done) | (simp [*]; done)), H', ⟨by have := HK1.out; have := HJ3.out; omega⟩, ⟨by (with_reducible repeat (first | apply Kd.R_alloc | apply Kd.R_drewN | apply Kd.R_drew)); exact HO_5.out⟩, ⟨by repeat (first | (with_reducible first | exact HB.out | apply below_alloc | apply pw_below_drewN | apply below_drew1) | exact HB.out)⟩⟩
       ·replace c13 := Bool.eq_false_iff.mpr c13
        subst c13
        have H1 : (if 0 ≤ x15_1 then (if x15_1 ≤ (a0.size : Int) then ((lex_one.f kj3 (a0.extract (x15_1 : Int).toNat a0.size)).bind fun bt170 => (if bt170.2.2.2.2.2.2.2 = 0 then (some (([] : List (S39)), x15_1, 3)) else (if x5_1.length < 1954687338268 then (lex_Lex.l0 kj3 a0 (x5_1 ++ [(⟨bt170.1, bt170.2.1, (⟨bt170.2.2.1, bt170.2.2.2.1, bt170.2.2.2.2.1, bt170.2.2.2.2.2.1⟩ : S37), x15_1⟩ : S39)]) (wrap64 (x15_1 + bt170.2.2.2.2.2.2.2)) (a0.size : Int) (wrap64 (x15_1 + 1))) else (none)))) else (none)) else (none)) = some (r1, r2, r3) := by rw [if_neg (show ¬ (false = true) by decide)] at H; exact H
        clear H
        have H := H1
        clear H1
        by_cases c14 : 0 ≤ x15_1
        ·rw [if_pos c14] at H
         have c14b0 := eq_true c14
         have c14b1 : decide (0 ≤ x15_1) = true := decide_eq_true c14
         clear c14
         by_cases c15 : x15_1 ≤ (a0.size : Int)
         ·rw [if_pos c15] at H
          have c15b0 := eq_true c15
          have c15b1 : decide (x15_1 ≤ (a0.size : Int)) = true := decide_eq_true c15
          clear c15
          replace H := Option.bind_eq_some_iff.mp H
          obtain ⟨⟨t170, t171, t172, t173, t174, t175, t176, t177⟩, A160, H⟩ := H
          replace H : (if t177 = 0 then (some (([] : List (S39)), x15_1, 3)) else (if x5_1.length < 1954687338268 then (lex_Lex.l0 kj3 a0 (x5_1 ++ [(⟨t170, t171, (⟨t172, t173, t174, t175⟩ : S37), x15_1⟩ : S39)]) (wrap64 (x15_1 + t177)) (a0.size : Int) (wrap64 (x15_1 + 1))) else (none))) = some (r1, r2, r3) := H
          have A16 := Aside0.mk A160
          clear A160
          by_cases c17 : t177 = 0
          ·rw [if_pos c17] at H
           have c17b0 : (t177 == 0) = true := beq_iff_eq.mpr c17
           have c17b1 : (t177 != 0) = false := bne_eq_false_iff_eq.mpr c17
           clear c17
           simp only [Option.some.injEq, Prod.mk.injEq] at H
           obtain ⟨rfl, rfl, rfl⟩ := H
           go_wp2_with (first | ((with_reducible refine gate_callee (f := 19) rfl ?_); refine goesL_ (some 43) rfl rfl Tryd.func19 (by kernel_rfl) rfl #[.string (a0.extract (x15_1 : Int).toNat a0.size)] rfl (by (try simp only [List.map_toArray, List.map_cons, List.map_nil]); first | done | rfl | (simp only [List.length_drop, List.length_take]; rfl)) ?_; (with_reducible refine (lex_one.calls kj3 (a0.extract (x15_1 : Int).toNat a0.size) t170 t171 t172 t173 t174 t175 t176 t177 _ A16.out ?side1).mono ?_); (case side1 => exact GL.of_below HG.out (by repeat (first | (with_reducible first | exact HB.out | apply below_alloc | apply pw_below_drewN | apply below_drew1) | exact HB.out))); rintro e w18 ⟨rfl, hb⟩; refine ⟨_, rfl, ?_⟩; have n0_ := Aside0.mk (Kd.R_below (by (with_reducible repeat (first | apply Kd.R_alloc | apply Kd.R_drewN | apply Kd.R_drew)); exact HO_5.out) hb); have n1_ := Aside0.mk (below_step (by repeat (first | (with_reducible first | exact HB.out | apply below_alloc | apply pw_below_drewN | apply below_drew1) | exact HB.out)) hb); clear HO_5; clear HB; have HO_5 := n0_; have HB := n1_; clear n0_ n1_; (try clear hb); (try clear hb2); (try clear hk); (try clear hi)) | ((with_reducible refine gate_dst (N := 8) rfl ?_); refine box_event ?hg (N := 8) ?hd (cs := #[.int .i64 0, .string (⟨#[]⟩ : ByteArray), .int .i64 0, .int .i64 0, .int .u64 0, .string (⟨#[]⟩ : ByteArray), .int .i64 0]) (t := 39) ?hr ?_; (case hd => rfl); (case hg => rfl); (case hr => first | (go_simp; done) | (go_simp; rfl)); intro gb178 hg w19 hbox hb; have n0_ := Aside0.mk (Kd.R_below (Kd.R_elderB (by (with_reducible repeat (first | apply Kd.R_alloc | apply Kd.R_drewN | apply Kd.R_drew)); exact HO_5.out) gb178 (Nat.le_of_eq hg.symm)) hb); have n1_ := Aside0.mk (below_step (by repeat (first | (with_reducible first | exact HB.out | apply below_alloc | apply pw_below_drewN | apply below_drew1) | exact HB.out)) hb); have n2_ := Aside0.mk (hbox); have n3_ := Aside0.mk ((by rw [hg]; exact (below_size (by repeat (first | (with_reducible first | exact HB.out | apply below_alloc | apply pw_below_drewN | apply below_drew1) | exact HB.out))) : w.heap.size ≤ gb178)); have n4_ := Aside0.mk ((by rw [hg]; exact (below_size (by repeat (first | (with_reducible first | exact HB.out | apply below_alloc | apply pw_below_drewN | apply below_drew1) | exact HB.out))) : w.heap.size ≤ gb178)); clear HO_5; clear HB; have HO_5 := n0_; have HB := n1_; have BK178 := n2_; have GW178 := n3_; have GE178 := n4_; clear n0_ n1_ n2_ n3_ n4_; clear hb hbox hg; have hcz20_0 : w19.cell? ⟨gb178, 0, none⟩ = some (.int .i64 0) := (blk_cell BK178.out 0).trans rfl; have hcz20_1 : w19.cell? ⟨gb178, 1, none⟩ = some (.string (⟨#[]⟩ : ByteArray)) := (blk_cell BK178.out 1).trans rfl; have hcz20_2 : w19.cell? ⟨gb178, 2, none⟩ = some (.int .i64 0) := (blk_cell BK178.out 2).trans rfl; have hcz20_3 : w19.cell? ⟨gb178, 3, none⟩ = some (.int .i64 0) := (blk_cell BK178.out 3).trans rfl; have hcz20_4 : w19.cell? ⟨gb178, 4, none⟩ = some (.int .u64 0) := (blk_cell BK178.out 4).trans rfl; have hcz20_5 : w19.cell? ⟨gb178, 5, none⟩ = some (.string (⟨#[]⟩ : ByteArray)) := (blk_cell BK178.out 5).trans rfl; have hcz20_6 : w19.cell? ⟨gb178, 6, none⟩ = some (.int .i64 0) := (blk_cell BK178.out 6).trans rfl; have hfz20_0 := blk_frozen BK178.out 0; have hfz20_1 := blk_frozen BK178.out 1; have hfz20_2 := blk_frozen BK178.out 2; have hfz20_3 := blk_frozen BK178.out 3; have hfz20_4 := blk_frozen BK178.out 4; have hfz20_5 := blk_frozen BK178.out 5; have hfz20_6 := blk_frozen BK178.out 6))
           go_ret3
           exact ⟨_, by first | rfl | (simp [errW_none, errW_some] <;> rfl) | (simp [*, errW_none, errW_some] <;> rfl), by first | exact Kd.R_nil _ _ _ _ _ | exact Kd.N_nil _ _ _ _ _ | exact Kd.V_nil _ _ _ _ _ | exact Kd.Q_nil _ _ _ _ _ | exact Kd.S_nil _ _ _ _ _, by repeat (first | (with_reducible first | exact HB.out | apply below_alloc | apply pw_below_drewN | apply below_drew1 | refine below_set ?_ GE178.out) | exact HB.out)⟩
          ·rw [if_neg c17] at H
           have c17b0 : (t177 == 0) = false := beq_eq_false_iff_ne.mpr c17
           have c17b1 : (t177 != 0) = true := bne_iff_ne.mpr c17
           by_cases c21 : x5_1.length < 1954687338268
           ·rw [if_pos c21] at H
            have LMc21 := Aside0.mk c21
            clear c21
            obtain ⟨y179, hy179⟩ : ∃ y_ : List (S39), y_ = (x5_1 ++ [(⟨t170, t171, (⟨t172, t173, t174, t175⟩ : S37), x15_1⟩ : S39)]) := ⟨_, rfl⟩
            replace H : (lex_Lex.l0 kj3 a0 y179 (wrap64 (x15_1 + t177)) (a0.size : Int) (wrap64 (x15_1 + 1))) = some (r1, r2, r3) := by first | (rw [hy179]; with_reducible exact H) | (have H2_ := (Option.bind_some _ _).symm.trans H; rw [hy179]; with_reducible exact H2_) | (have H2_ := (Option.bind_some _ _).symm.trans H; with_reducible exact H2_) | with_reducible exact H | (rw [hy179]; exact H) | exact H
            have Ny179 := Aside0.mk hy179
            clear hy179
            have H' := Aside0.mk H
            clear H
            have hgen_ : True := trivial
            go_wp2_with (first | ((with_reducible refine gate_dst (N := 47) rfl ?_); have chk_ := hgen_; clear chk_ hgen_; obtain ⟨W1, hW1⟩ : ∃ W1 : World, W1 = (((((((w23).setCell ⟨gb178, 0, none⟩ (.int .i64 t170)).setCell ⟨gb178, 1, none⟩ (.string t171)).setCell ⟨gb178, 2, none⟩ (.int .i64 t172)).setCell ⟨gb178, 3, none⟩ (.int .i64 t173)).setCell ⟨gb178, 4, none⟩ (.int .u64 t174)).setCell ⟨gb178, 5, none⟩ (.string t175)).setCell ⟨gb178, 6, none⟩ (.int .i64 t176) := ⟨_, rfl⟩; rw [← hW1]; have m0_ : W1.heap[gb178]? = some (.cells #[.int .i64 t170, .string t171, .int .i64 t172, .int .i64 t173, .int .u64 t174, .string t175, .int .i64 t176] 39 (0, 0)) := (by rw [hW1]; refine blk_put (cs := #[.int .i64 t170, .string t171, .int .i64 t172, .int .i64 t173, .int .u64 t174, .string t175, .int .i64 0]) ?_ 6 _ rfl; refine blk_put (cs := #[.int .i64 t170, .string t171, .int .i64 t172, .int .i64 t173, .int .u64 t174, .string (⟨#[]⟩ : ByteArray), .int .i64 0]) ?_ 5 _ rfl; refine blk_put (cs := #[.int .i64 t170, .string t171, .int .i64 t172, .int .i64 t173, .int .u64 0, .string (⟨#[]⟩ : ByteArray), .int .i64 0]) ?_ 4 _ rfl; refine blk_put (cs := #[.int .i64 t170, .string t171, .int .i64 t172, .int .i64 0, .int .u64 0, .string (⟨#[]⟩ : ByteArray), .int .i64 0]) ?_ 3 _ rfl; refine blk_put (cs := #[.int .i64 t170, .string t171, .int .i64 0, .int .i64 0, .int .u64 0, .string (⟨#[]⟩ : ByteArray), .int .i64 0]) ?_ 2 _ rfl; refine blk_put (cs := #[.int .i64 t170, .string (⟨#[]⟩ : ByteArray), .int .i64 0, .int .i64 0, .int .u64 0, .string (⟨#[]⟩ : ByteArray), .int .i64 0]) ?_ 1 _ rfl; refine blk_put (cs := #[.int .i64 0, .string (⟨#[]⟩ : ByteArray), .int .i64 0, .int .i64 0, .int .u64 0, .string (⟨#[]⟩ : ByteArray), .int .i64 0]) ?_ 0 _ rfl; exact BK178.out); have m1_ : Below w.heap.size w W1 := (by rw [hW1]; (repeat (with_reducible refine below_set ?_ GE178.out)); exact HB.out); have m2_ := Kd.R_far (p := ⟨gb178, 6, none⟩) (Kd.R_far (p := ⟨gb178, 5, none⟩) (Kd.R_far (p := ⟨gb178, 4, none⟩) (Kd.R_far (p := ⟨gb178, 3, none⟩) (Kd.R_far (p := ⟨gb178, 2, none⟩) (Kd.R_far (p := ⟨gb178, 1, none⟩) (Kd.R_far (p := ⟨gb178, 0, none⟩) (Kd.R_mono HO_5.out (fun k_ hk => (⟨hk, hk.2⟩ : _ ∧ k_ ≠ gb178))) (fun _ hk => hk.2) (.int .i64 t170)) (fun _ hk => hk.2) (.string t171)) (fun _ hk => hk.2) (.int .i64 t172)) (fun _ hk => hk.2) (.int .i64 t173)) (fun _ hk => hk.2) (.int .u64 t174)) (fun _ hk => hk.2) (.string t175)) (fun _ hk => hk.2) (.int .i64 t176); rw [← hW1] at m2_; clear hW1 BK178 HB HO_5; (try clear hcz24_0); (try clear hcz24_1); (try clear hcz24_2); (try clear hcz24_3); (try clear hcz24_4); (try clear hcz24_5); (try clear hcz24_6); (try clear hfz24_0); (try clear hfz24_1); (try clear hfz24_2); (try clear hfz24_3); (try clear hfz24_4); (try clear hfz24_5); (try clear hfz24_6); have BK178 := Aside0.mk m0_; have HB := Aside0.mk m1_; have HO_5 := Aside0.mk m2_; clear m0_ m1_ m2_; have hc178_0 : W1.cell? ⟨gb178, 0, none⟩ = some (.int .i64 t170) := (blk_cell BK178.out 0).trans rfl; have hf178_0 := blk_frozen BK178.out 0; have hc178_1 : W1.cell? ⟨gb178, 1, none⟩ = some (.string t171) := (blk_cell BK178.out 1).trans rfl; have hf178_1 := blk_frozen BK178.out 1; have hc178_2 : W1.cell? ⟨gb178, 2, none⟩ = some (.int .i64 t172) := (blk_cell BK178.out 2).trans rfl; have hf178_2 := blk_frozen BK178.out 2; have hc178_3 : W1.cell? ⟨gb178, 3, none⟩ = some (.int .i64 t173) := (blk_cell BK178.out 3).trans rfl; have hf178_3 := blk_frozen BK178.out 3; have hc178_4 : W1.cell? ⟨gb178, 4, none⟩ = some (.int .u64 t174) := (blk_cell BK178.out 4).trans rfl; have hf178_4 := blk_frozen BK178.out 4; have hc178_5 : W1.cell? ⟨gb178, 5, none⟩ = some (.string t175) := (blk_cell BK178.out 5).trans rfl; have hf178_5 := blk_frozen BK178.out 5; have hc178_6 : W1.cell? ⟨gb178, 6, none⟩ = some (.int .i64 t176) := (blk_cell BK178.out 6).trans rfl; have hf178_6 := blk_frozen BK178.out 6) | ((with_reducible refine gate_callee (f := 19) rfl ?_); refine goesL_ (some 43) rfl rfl Tryd.func19 (by kernel_rfl) rfl #[.string (a0.extract (x15_1 : Int).toNat a0.size)] rfl (by (try simp only [List.map_toArray, List.map_cons, List.map_nil]); first | done | rfl | (simp only [List.length_drop, List.length_take]; rfl)) ?_; (with_reducible refine (lex_one.calls kj3 (a0.extract (x15_1 : Int).toNat a0.size) t170 t171 t172 t173 t174 t175 t176 t177 _ A16.out ?side1).mono ?_); (case side1 => exact GL.of_below HG.out (by repeat (first | (with_reducible first | exact HB.out | apply below_alloc | apply pw_below_drewN | apply below_drew1) | exact HB.out))); rintro e w22 ⟨rfl, hb⟩; refine ⟨_, rfl, ?_⟩; have n0_ := Aside0.mk (Kd.R_below (by (with_reducible repeat (first | apply Kd.R_alloc | apply Kd.R_drewN | apply Kd.R_drew)); exact HO_5.out) hb); have n1_ := Aside0.mk (below_step (by repeat (first | (with_reducible first | exact HB.out | apply below_alloc | apply pw_below_drewN | apply below_drew1) | exact HB.out)) hb); clear HO_5; clear HB; have HO_5 := n0_; have HB := n1_; clear n0_ n1_; (try clear hb); (try clear hb2); (try clear hk); (try clear hi)) | ((with_reducible refine gate_dst (N := 8) rfl ?_); refine box_event ?hg (N := 8) ?hd (cs := #[.int .i64 0, .string (⟨#[]⟩ : ByteArray), .int .i64 0, .int .i64 0, .int .u64 0, .string (⟨#[]⟩ : ByteArray), .int .i64 0]) (t := 39) ?hr ?_; (case hd => rfl); (case hg => rfl); (case hr => first | (go_simp; done) | (go_simp; rfl)); intro gb178 hg w23 hbox hb; have n0_ := Aside0.mk (Kd.R_below (Kd.R_elderB (by (with_reducible repeat (first | apply Kd.R_alloc | apply Kd.R_drewN | apply Kd.R_drew)); exact HO_5.out) gb178 (Nat.le_of_eq hg.symm)) hb); have n1_ := Aside0.mk (below_step (by repeat (first | (with_reducible first | exact HB.out | apply below_alloc | apply pw_below_drewN | apply below_drew1) | exact HB.out)) hb); have n2_ := Aside0.mk (hbox); have n3_ := Aside0.mk ((by rw [hg]; exact (below_size (by repeat (first | (with_reducible first | exact HB.out | apply below_alloc | apply pw_below_drewN | apply below_drew1) | exact HB.out))) : w.heap.size ≤ gb178)); have n4_ := Aside0.mk ((by rw [hg]; exact (below_size (by repeat (first | (with_reducible first | exact HB.out | apply below_alloc | apply pw_below_drewN | apply below_drew1) | exact HB.out))) : w.heap.size ≤ gb178)); clear HO_5; clear HB; have HO_5 := n0_; have HB := n1_; have BK178 := n2_; have GW178 := n3_; have GE178 := n4_; clear n0_ n1_ n2_ n3_ n4_; clear hb hbox hg; have hcz24_0 : w23.cell? ⟨gb178, 0, none⟩ = some (.int .i64 0) := (blk_cell BK178.out 0).trans rfl; have hcz24_1 : w23.cell? ⟨gb178, 1, none⟩ = some (.string (⟨#[]⟩ : ByteArray)) := (blk_cell BK178.out 1).trans rfl; have hcz24_2 : w23.cell? ⟨gb178, 2, none⟩ = some (.int .i64 0) := (blk_cell BK178.out 2).trans rfl; have hcz24_3 : w23.cell? ⟨gb178, 3, none⟩ = some (.int .i64 0) := (blk_cell BK178.out 3).trans rfl; have hcz24_4 : w23.cell? ⟨gb178, 4, none⟩ = some (.int .u64 0) := (blk_cell BK178.out 4).trans rfl; have hcz24_5 : w23.cell? ⟨gb178, 5, none⟩ = some (.string (⟨#[]⟩ : ByteArray)) := (blk_cell BK178.out 5).trans rfl; have hcz24_6 : w23.cell? ⟨gb178, 6, none⟩ = some (.int .i64 0) := (blk_cell BK178.out 6).trans rfl; have hfz24_0 := blk_frozen BK178.out 0; have hfz24_1 := blk_frozen BK178.out 1; have hfz24_2 := blk_frozen BK178.out 2; have hfz24_3 := blk_frozen BK178.out 3; have hfz24_4 := blk_frozen BK178.out 4; have hfz24_5 := blk_frozen BK178.out 5; have hfz24_6 := blk_frozen BK178.out 6) | ((with_reducible refine gate_builtin (b := .append) (xs := #[.tmp 51, .tmp 53]) rfl ?_); at_builtin; refine Kd.R_append k39 (w0 := w) w.heap.size rfl (.tmp 51) (.tmp 53) 22 39 (.agg #[(.int .i64 0), (.string ⟨#[]⟩), (.int .i64 0), (.int .i64 0), (.int .u64 0), (.string ⟨#[]⟩), (.int .i64 0)]) 72 rfl Tryd.underlying22 info39 rfl (by decide) (by omega) u5 x5_1 (⟨t170, t171, (⟨t172, t173, t174, t175⟩ : S37), x15_1⟩ : S39) [.int .i64 t170, .string t171, .int .i64 t172, .int .i64 t173, .int .u64 t174, .string t175, .int .i64 x15_1] (fun k_ => k_ ≠ gb178) (fun _ => False) rfl (by first | (go_simp; done) | (go_simp; rfl)) ?aP (fun _ hk => hk.elim) ?aF ?aO ?aB ?aS ?aL ?_; (case aP => exact k39_mkM _ _ _ (⟨t170, t171, (⟨t172, t173, t174, t175⟩ : S37), x15_1⟩ : S39)); (case aB => exact (by repeat (first | (with_reducible first | exact HB.out | apply below_alloc | apply pw_below_drewN | apply below_drew1 | refine below_set ?_ GE178.out) | exact HB.out))); (case aF => exact (fun k_ hk => Kd.freshB (g := gb178) (o := .cells #[.int .i64 t170, .string t171, .int .i64 t172, .int .i64 t173, .int .u64 t174, .string t175, .int .i64 x15_1] 39 (0, 0)) (by (with_reducible repeat (first | refine blk_drewN ?_ _ | refine blk_drew ?_ | refine blk_alloc ?_ _)); refine blk_put (cs := #[.int .i64 t170, .string t171, .int .i64 t172, .int .i64 t173, .int .u64 t174, .string t175, .int .i64 t176]) ?_ 6 _ rfl; (with_reducible repeat (first | refine blk_drewN ?_ _ | refine blk_drew ?_ | refine blk_alloc ?_ _)); exact BK178.out) k_ hk)); (case aO => exact (by (with_reducible repeat (first | apply Kd.R_alloc | apply Kd.R_drewN | apply Kd.R_drew)); exact Kd.R_mono (Kd.R_far (p := ⟨gb178, 6, none⟩) HO_5.out (fun _ hk => hk.2) (.int .i64 x15_1)) (fun _ hk => hk.1.2))); (case aS => exact (below_size (by repeat (first | (with_reducible first | exact HB.out | apply below_alloc | apply pw_below_drewN | apply below_drew1 | refine below_set ?_ GE178.out) | exact HB.out)))); (case aL => have := LMc21.out; omega); intro v180 w25 ho hb hg hat; rw [← Ny179.out] at ho; have n0_ := Aside0.mk (blk_grown (g := gb178) (o := .cells #[.int .i64 t170, .string t171, .int .i64 t172, .int .i64 t173, .int .u64 t174, .string t175, .int .i64 x15_1] 39 (0, 0)) (by (with_reducible repeat (first | refine blk_drewN ?_ _ | refine blk_drew ?_ | refine blk_alloc ?_ _)); refine blk_put (cs := #[.int .i64 t170, .string t171, .int .i64 t172, .int .i64 t173, .int .u64 t174, .string t175, .int .i64 t176]) ?_ 6 _ rfl; (with_reducible repeat (first | refine blk_drewN ?_ _ | refine blk_drew ?_ | refine blk_alloc ?_ _)); exact BK178.out) hg (Kd.R_away HO_5.out (fun _ hk => hk.2))); have n1_ := Aside0.mk (hb); have n2_ := Aside0.mk (ho); clear BK178; clear HB; clear HO_5; have BK178 := n0_; have HB := n1_; have HO181 := n2_; clear n0_ n1_ n2_; clear ho hb hg hat))
            go_roundg kj3
            case measure => have := HK1.out; have := HJ3.out; omega
            case rel => exact ⟨(y179), (wrap64 (x15_1 + t177)), (wrap64 (x15_1 + 1)), (by first | rfl | (simp; done) | (simp [*]; done)), (by first | rfl | (simp; done) | (simp [*]; done)), H', ⟨by have := HK1.out; have := HJ3.out; omega⟩, ⟨by (with_reducible repeat (first | apply Kd.R_alloc | apply Kd.R_drewN | apply Kd.R_drew)); exact Kd.R_mono HO181.out (fun _ hk => trivial)⟩, ⟨by repeat (first | (with_reducible first | exact HB.out | apply below_alloc | apply pw_below_drewN | apply below_drew1 | refine below_set ?_ GE178.out) | exact HB.out)⟩⟩
           ·rw [if_neg c21] at H
            exact absurd H (by simp)
         ·rw [if_neg c15] at H
          exact absurd H (by simp)
        ·rw [if_neg c14] at H
         exact absurd H (by simp)
    ·rw [if_neg c3] at H
     have c3b0 : decide (x15_1 < (a0.size : Int)) = false := decide_eq_false c3
     clear c3
     by_cases c26 : x5_1.length < 1954687338268
     ·rw [if_pos c26] at H
      have LMc26 := Aside0.mk c26
      clear c26
      obtain ⟨y167, hy167⟩ : ∃ y_ : List (S39), y_ = (x5_1 ++ [(⟨0, (⟨#[]⟩ : ByteArray), (⟨0, 0, 0, (⟨#[]⟩ : ByteArray)⟩ : S37), (a0.size : Int)⟩ : S39)]) := ⟨_, rfl⟩
      replace H : (some (y167, 0, 0)) = some (r1, r2, r3) := by first | (rw [hy167]; with_reducible exact H) | (have H2_ := (Option.bind_some _ _).symm.trans H; rw [hy167]; with_reducible exact H2_) | (have H2_ := (Option.bind_some _ _).symm.trans H; with_reducible exact H2_) | with_reducible exact H | (rw [hy167]; exact H) | exact H
      have Ny167 := Aside0.mk hy167
      clear hy167
      simp only [Option.some.injEq, Prod.mk.injEq] at H
      obtain ⟨rfl, rfl, rfl⟩ := H
      go_wp2_with (first | ((with_reducible refine gate_builtin (b := .append) (xs := #[.tmp 59, .tmp 63]) rfl ?_); at_builtin; refine Kd.R_append k39 (w0 := w) w.heap.size rfl (.tmp 59) (.tmp 63) 22 39 (.agg #[(.int .i64 0), (.string ⟨#[]⟩), (.int .i64 0), (.int .i64 0), (.int .u64 0), (.string ⟨#[]⟩), (.int .i64 0)]) 72 rfl Tryd.underlying22 info39 rfl (by decide) (by omega) u5 x5_1 (⟨0, (⟨#[]⟩ : ByteArray), (⟨0, 0, 0, (⟨#[]⟩ : ByteArray)⟩ : S37), (a0.size : Int)⟩ : S39) [.int .i64 0, .string (⟨#[]⟩ : ByteArray), .int .i64 0, .int .i64 0, .int .u64 0, .string (⟨#[]⟩ : ByteArray), .int .i64 (a0.size : Int)] (fun _ => True) (fun _ => False) rfl rfl ?aP (fun _ hk => hk.elim) ?aF ?aO ?aB ?aS ?aL ?_; (case aP => exact k39_mkM _ _ _ (⟨0, (⟨#[]⟩ : ByteArray), (⟨0, 0, 0, (⟨#[]⟩ : ByteArray)⟩ : S37), (a0.size : Int)⟩ : S39)); (case aB => exact (by repeat (first | (with_reducible first | exact HB.out | apply below_alloc | apply pw_below_drewN | apply below_drew1) | exact HB.out))); (case aF => exact (fun _ _ => trivial)); (case aO => exact (by (with_reducible repeat (first | apply Kd.R_alloc | apply Kd.R_drewN | apply Kd.R_drew)); exact HO_5.out)); (case aS => exact (below_size (by repeat (first | (with_reducible first | exact HB.out | apply below_alloc | apply pw_below_drewN | apply below_drew1) | exact HB.out)))); (case aL => have := LMc26.out; omega); intro v168 w27 ho hb hg hat; rw [← Ny167.out] at ho; have n0_ := Aside0.mk (hb); have n1_ := Aside0.mk (ho); clear HB; clear HO_5; have HB := n0_; have HO169 := n1_; clear n0_ n1_; clear ho hb hg hat))
      go_ret3
      exact ⟨_, by first | rfl | (simp [errW_none, errW_some] <;> rfl) | (simp [*, errW_none, errW_some] <;> rfl), by (with_reducible repeat (first | apply Kd.R_alloc | apply Kd.R_drewN | apply Kd.R_drew)); exact HO169.out, by repeat (first | (with_reducible first | exact HB.out | apply below_alloc | apply pw_below_drewN | apply below_drew1) | exact HB.out)⟩
     ·rw [if_neg c26] at H
      exact absurd H (by simp)
end Go.Proofs.YtjehfmimbbdnkaaDoor.L
namespace Go.Proofs.YtjehfmimbbdnkaaDoor.LexPure
open Go.RowKit Go.Proofs.YtjehfmimbbdnkaaDoorW.PrintWords Go.Proofs.YtjehfmimbbdnkaaDoorW.PrintLast Go.Proofs.YtjehfmimbbdnkaaDoorW.PrintMore
open Go.Proofs.YtjehfmimbbdnkaaDoor.L Go.Proofs.YtjehfmimbbdnkaaDoor
theorem wrap_small {i : Int} (h0 : -9223372036854775808 ≤ i) (h1 : i < 9223372036854775808) : wrap64 i = i := by unfold wrap64; omega
abbrev L8 (s : ByteArray) : List UInt8 := s.data.toList
theorem L8_len (s : ByteArray) : (L8 s).length = s.size := by unfold L8; rw [Array.length_toList]; rfl
theorem bt_L8 (s : ByteArray) (i : Nat) (h : i < s.size) : bt s (i : Int) = (((L8 s)[i]'(by rw [L8_len]; exact h)).toNat : Int) := by
  unfold bt
  rw [dif_pos (by simpa using h)]
  simp [L8, ByteArray.getElem_eq_getElem_data]
theorem drop_L8 (s : ByteArray) (i : Nat) (h : i < s.size) : (L8 s).drop i = (L8 s)[i]'(by rw [L8_len]; exact h) :: (L8 s).drop (i + 1) := List.drop_eq_getElem_cons (by rw [L8_len]; exact h)
def textS : List UInt8 → Option (List UInt8 × Nat)
  | [] => none
  | c :: r =>
    if c = 39 then
      match r with
      | d :: r' => if d = 39 then (textS r').map fun x => (39 :: x.1, x.2 + 2) else some ([], 1)
      | [] => some ([], 1)
    else if c < 32 ∨ 126 < c then none else (textS r).map fun x => (c :: x.1, x.2 + 1)
def textR (s : ByteArray) (b : List Int) (i : Nat) : Option (List UInt8 × Nat) → Int × ByteArray × Int × Int × Int × ByteArray × Int × Int
  | none => (0, ⟨#[]⟩, 0, 0, 0, ⟨#[]⟩, 0, 0)
  | some (l, n) => if 40 < b.length + l.length then (0, ⟨#[]⟩, 0, 0, 0, ⟨#[]⟩, 0, 0)
    else (3, s.extract 0 (i + n), 5, 0, 0, strOfNums (b ++ l.map fun c => (c.toNat : Int)), 0, ((i + n : Nat) : Int))
theorem len_small {b : List Int} {i : Nat} {s : ByteArray} (hs : s.size ≤ 1000) (hi : i < s.size) (hb : b.length ≤ i) : b.length < 140737488355328 := by omega
theorem text_stop (k : Nat) (s : ByteArray) (b : List Int) (i : Nat) (hs : s.size ≤ 1000) (hi : i < s.size) (hc : bt s (i : Int) = 39) :
    lex_text.j1 (k + 1) s b (i : Int) false = some (textR s b i (some ([], 1))) := by
  unfold lex_text.j1
  rw [if_neg (by simp), if_pos (by omega), if_pos (by omega), if_pos hc]
  have hw : wrap64 ((i : Int) + 1) = ((i + 1 : Nat) : Int) := by rw [wrap_small (by omega) (by omega)]; omega
  by_cases h : 40 < b.length
  · rw [if_pos (by omega)]
    simp [textR, h]
  · rw [if_neg (by omega), hw, if_pos (by omega), if_pos (by omega)]
    simp only [textR, List.length_nil, Nat.add_zero, if_neg h, List.map_nil, List.append_nil, Int.toNat_natCast]
theorem textR_cons (s : ByteArray) (b : List Int) (i n : Nat) (c : UInt8) (x : Option (List UInt8 × Nat)) :
    textR s b i (x.map fun y => (c :: y.1, y.2 + n)) = textR s (b ++ [(c.toNat : Int)]) (i + n) x := by
  cases x with
  | none => rfl
  | some y =>
    obtain ⟨l, m⟩ := y
    have e1 : b.length + (c :: l).length = (b ++ [(c.toNat : Int)]).length + l.length := by simp; omega
    have e2 : i + (m + n) = i + n + m := by omega
    simp only [Option.map_some, textR, e1, e2, List.map_cons, List.append_assoc, List.singleton_append]
set_option maxRecDepth 4000 in
theorem text_loop (s : ByteArray) (hs : s.size ≤ 1000) : ∀ (m k i : Nat) (b : List Int), s.size ≤ i + m → 1 ≤ i → b.length ≤ i → 2 * m < k →
    lex_text.l0 k s b (i : Int) = some (textR s b i (textS ((L8 s).drop i)))
  | m, 0, i, b, h, h1, hb, hk => by omega
  | 0, k + 1, i, b, h, h1, hb, hk => by
    have : (L8 s).drop i = [] := List.drop_eq_nil_of_le (by rw [L8_len]; omega)
    rw [this]
    unfold lex_text.l0
    rw [if_neg (by omega)]
    rfl
  | m + 1, 1, i, b, h, h1, hb, hk => by omega
  | m + 1, k + 2, i, b, h, h1, hb, hk => by
    by_cases hi : i < s.size
    · have hw : wrap64 ((i : Int) + 1) = ((i + 1 : Nat) : Int) := by rw [wrap_small (by omega) (by omega)]; omega
      rw [drop_L8 s i hi]
      have hbi := bt_L8 s i hi
      generalize hc : (L8 s)[i]'(by rw [L8_len]; exact hi) = c at hbi ⊢
      unfold lex_text.l0
      rw [if_pos (by omega), if_pos (by omega)]
      by_cases hq : c = 39
      · subst hq
        have hbi' : bt s (i : Int) = 39 := hbi
        rw [if_pos hbi', hw]
        by_cases h2 : i + 1 < s.size
        · rw [if_pos (by omega), if_pos (by omega), drop_L8 s (i + 1) h2]
          have hbd := bt_L8 s (i + 1) h2
          generalize hd : (L8 s)[i + 1]'(by rw [L8_len]; exact h2) = d at hbd ⊢
          by_cases hq2 : d = 39
          · subst hq2
            have hbd' : bt s ((i + 1 : Nat) : Int) = 39 := hbd
            rw [hbd']
            have hw2 : wrap64 (((i + 1 : Nat) : Int) + 1) = ((i + 2 : Nat) : Int) := by rw [wrap_small (by omega) (by omega)]; omega
            have e : textS (39 :: 39 :: (L8 s).drop (i + 1 + 1)) = (textS ((L8 s).drop (i + 2))).map fun x => (39 :: x.1, x.2 + 2) := by simp [textS]
            rw [e, textR_cons]
            show lex_text.j1 (k + 1) s b (i : Int) true = _
            unfold lex_text.j1
            rw [if_pos rfl, hw, if_pos (by omega), if_pos (by omega), if_pos (len_small hs hi hb), hw2, hbd']
            exact text_loop s hs m k (i + 2) (b ++ [39]) (by omega) (by omega) (by simp; omega) (by omega)
          · have hbd' : (bt s ((i + 1 : Nat) : Int) == 39) = false := by
              rw [hbd, beq_eq_false_iff_ne]
              intro hh
              exact hq2 (UInt8.toNat_inj.1 (by have : d.toNat = 39 := by omega
                                               exact this))
            rw [hbd', text_stop k s b i hs hi hbi']
            have e : textS (39 :: d :: (L8 s).drop (i + 1 + 1)) = some ([], 1) := by simp [textS, hq2]
            rw [e]
        · rw [if_neg (by omega), text_stop k s b i hs hi hbi']
          have e0 : (L8 s).drop (i + 1) = [] := List.drop_eq_nil_of_le (by rw [L8_len]; omega)
          rw [e0]
          simp [textS]
      · have hne : ¬ bt s (i : Int) = 39 := by
          rw [hbi]
          intro hh
          exact hq (UInt8.toNat_inj.1 (by have : c.toNat = 39 := by omega
                                          exact this))
        rw [if_neg hne]
        have e : textS (c :: (L8 s).drop (i + 1)) = if c < 32 ∨ 126 < c then none else (textS ((L8 s).drop (i + 1))).map fun x => (c :: x.1, x.2 + 1) := by
          rw [textS.eq_def]; simp only [if_neg hq]
        unfold lex_text.j1
        rw [if_neg (by simp), if_pos (by omega), if_pos (by omega), if_neg hne, e]
        have l1 : (c < 32) ↔ c.toNat < 32 := UInt8.lt_iff_toNat_lt
        have l2 : (126 < c) ↔ 126 < c.toNat := UInt8.lt_iff_toNat_lt
        by_cases h3 : c.toNat < 32
        · rw [if_pos (by omega), if_pos (.inl (l1.2 h3))]
          rfl
        · rw [if_neg (by omega)]
          by_cases h4 : 126 < c.toNat
          · rw [if_pos (by omega), if_pos (.inr (l2.2 h4))]
            rfl
          · rw [if_neg (by omega), if_pos (len_small hs hi hb), if_neg (by rw [l1, l2]; omega), textR_cons, hbi, hw]
            exact text_loop s hs m k (i + 1) (b ++ [(c.toNat : Int)]) (by omega) (by omega) (by simp; omega) (by omega)
    · have : (L8 s).drop i = [] := List.drop_eq_nil_of_le (by rw [L8_len]; omega)
      rw [this]
      unfold lex_text.l0
      rw [if_neg (by omega)]
      rfl
theorem lex_text_eq (s : ByteArray) (hs : s.size ≤ 1000) (k : Nat) (hk : 2000 < k) :
    lex_text.f k s = some (textR s [] 1 (textS ((L8 s).drop 1))) := by
  unfold lex_text.f
  exact text_loop s hs 999 k 1 [] (by omega) (by omega) (by simp) (by omega)
end Go.Proofs.YtjehfmimbbdnkaaDoor.LexPure
namespace Go.Proofs.YtjehfmimbbdnkaaDoor.LexPure
open Go.RowKit Go.Proofs.YtjehfmimbbdnkaaDoorW.PrintWords Go.Proofs.YtjehfmimbbdnkaaDoorW.PrintLast Go.Proofs.YtjehfmimbbdnkaaDoorW.PrintMore
open Go.Proofs.YtjehfmimbbdnkaaDoor.L Go.Proofs.YtjehfmimbbdnkaaDoor
theorem L8_ext (s : ByteArray) (i j : Nat) : L8 (s.extract i j) = ((L8 s).drop i).take (j - i) := by
  unfold L8
  rw [ByteArray.data_extract, Array.toList_extract, List.extract_eq_take_drop]
theorem size_ext (s : ByteArray) (i j : Nat) (h : j ≤ s.size) : (s.extract i j).size = j - i := by
  rw [← L8_len, L8_ext, List.length_take, List.length_drop, L8_len]; omega
def pairsS : List UInt8 → List Int
  | a :: b :: r => ((16 * hexVal a + hexVal b : Nat) : Int) :: pairsS r
  | _ => []
theorem hexVal_lt {c : UInt8} (h : isHex c = true) : hexVal c < 16 := by
  rcases hex_cases h with ⟨h1, h2, h3⟩ | ⟨h1, h2, h3⟩ <;> omega
theorem puint_pair (s : ByteArray) (i : Nat) (hi : i + 2 ≤ s.size) (a b : UInt8) (hd : ((L8 s).drop i).take 2 = [a, b]) (ha : isHex a = true) (hb : isHex b = true) :
    strconv_ParseUint.f (s.extract i (i + 2)) 16 8 = some (((16 * hexVal a + hexVal b : Nat) : Int), none) := by
  have hz := size_ext s i (i + 2) hi
  have hl : (s.extract i (i + 2)).data.toList = [a, b] := by
    have := L8_ext s i (i + 2)
    rw [show i + 2 - i = 2 from by omega] at this
    exact this.trans hd
  unfold strconv_ParseUint.f
  have hx := hexVal_lt ha
  have hy := hexVal_lt hb
  rw [if_pos ⟨rfl, .inr rfl, by omega, by rw [hl]; simp [ha, hb]⟩, if_neg (by omega), hl, pmax8]
  have e : h16 255 0 [a, b] = .ok (16 * hexVal a + hexVal b) := by
    unfold h16
    rw [if_neg (by omega), if_neg (by omega)]
    unfold h16
    rw [if_neg (by omega), if_neg (by omega)]
    unfold h16
    congr 1
    omega
  rw [e]
theorem pairs_loop (s : ByteArray) (hs : s.size ≤ 1000) (stop : Nat) (hst : stop ≤ s.size) (hall : ∀ c ∈ ((L8 s).drop 2).take (stop - 2), isHex c = true)
    (c0 : Int) (c1 : ByteArray) (c2 c3 c4 : Int) (c5 : ByteArray) (c6 : Int) : ∀ (m k j : Nat) (b : List Int), j + 2 * m = stop → 2 ≤ j → b.length ≤ j → m < k →
    lex_coded.l0 k s (stop : Int) b (j : Int) c0 c1 c2 c3 c4 c5 c6 = some (c0, c1, 4, 0, 0, strOfNums (b ++ pairsS (((L8 s).drop j).take (stop - j))), c6, wrap64 ((stop : Int) + 1))
  | _, 0, _, _, _, _, _, hk => by omega
  | 0, k + 1, j, b, h, h2, hb, hk => by
    obtain rfl : j = stop := by omega
    unfold lex_coded.l0
    rw [if_neg (by omega), Nat.sub_self]
    simp [pairsS]
  | m + 1, k + 1, j, b, h, h2, hb, hk => by
    have hw : wrap64 ((j : Int) + 2) = ((j + 2 : Nat) : Int) := by rw [wrap_small (by omega) (by omega)]; omega
    have d1 := drop_L8 s j (by omega)
    have d2 := drop_L8 s (j + 1) (by omega)
    generalize ha : (L8 s)[j]'(by rw [L8_len]; omega) = a at d1
    generalize hc : (L8 s)[j + 1]'(by rw [L8_len]; omega) = c at d2
    have hd : (L8 s).drop j = a :: c :: (L8 s).drop (j + 2) := by rw [d1, d2]
    have ht : ((L8 s).drop j).take (stop - j) = a :: c :: ((L8 s).drop (j + 2)).take (stop - (j + 2)) := by
      rw [hd, show stop - j = (stop - (j + 2)) + 1 + 1 from by omega]; rfl
    have hin : ∀ x ∈ ((L8 s).drop j).take (stop - j), isHex x = true := by
      intro x hx
      refine hall x ?_
      have e : ((L8 s).drop j).take (stop - j) = (((L8 s).drop 2).take (stop - 2)).drop (j - 2) := by
        rw [List.drop_take, List.drop_drop]
        congr 1
        · omega
        · congr 1; omega
      rw [e] at hx
      exact List.mem_of_mem_drop hx
    have hxa : isHex a = true := hin a (by rw [ht]; simp)
    have hxc : isHex c = true := hin c (by rw [ht]; simp)
    have hv := hexVal_lt hxa
    have hv2 := hexVal_lt hxc
    unfold lex_coded.l0
    rw [if_pos (by omega), if_pos (by omega), hw, if_pos (by omega), if_pos (by omega), Int.toNat_natCast, Int.toNat_natCast,
      puint_pair s j (by omega) a c (by rw [hd]; rfl) hxa hxc, Option.bind_some, if_pos (by omega)]
    simp only []
    have hmod : (((16 * hexVal a + hexVal c : Nat) : Int)) % 256 = ((16 * hexVal a + hexVal c : Nat) : Int) := by omega
    rw [hmod, pairs_loop s hs stop hst hall c0 c1 c2 c3 c4 c5 c6 m k (j + 2) _ (by omega) (by omega) (by simp; omega) (by omega), ht]
    simp only [pairsS, List.append_assoc, List.singleton_append]
def none8 : Int × ByteArray × Int × Int × Int × ByteArray × Int × Int := (0, ⟨#[]⟩, 0, 0, 0, ⟨#[]⟩, 0, 0)
def hexN (s : ByteArray) : Nat := (((L8 s).drop 2).takeWhile isHex).length
def digitsS (s : ByteArray) : List UInt8 := ((L8 s).drop 2).takeWhile isHex
def codedR (s : ByteArray) : Int × ByteArray × Int × Int × Int × ByteArray × Int × Int :=
  if s.size ≤ 2 + hexN s then none8
  else if bt s ((2 + hexN s : Nat) : Int) ≠ 39 then none8
  else if bt s 0 = 102 then
    (if hexN s = 16 then
      (match h16 18446744073709551615 0 (digitsS s) with
        | .ok v => (3, s.extract 0 (2 + hexN s + 1), 3, 0, canonI (v : Int), ⟨#[]⟩, 0, ((2 + hexN s + 1 : Nat) : Int))
        | _ => none8)
    else none8)
  else if hexN s % 2 = 1 ∨ 40 < hexN s / 2 then none8
  else (3, s.extract 0 (2 + hexN s + 1), 4, 0, 0, strOfNums (pairsS (digitsS s)), 0, ((2 + hexN s + 1 : Nat) : Int))
theorem take_takeWhile {α : Type} (p : α → Bool) : ∀ l : List α, l.take (l.takeWhile p).length = l.takeWhile p
  | [] => rfl
  | a :: l => by
    by_cases h : p a = true
    · simp [h, take_takeWhile p l]
    · simp [h]
theorem takeWhile_all {α : Type} (p : α → Bool) : ∀ l : List α, ∀ x ∈ l.takeWhile p, p x = true
  | [], x, h => by cases h
  | a :: l, x, h => by
    by_cases hp : p a = true
    · rw [List.takeWhile_cons, if_pos hp] at h
      rcases List.mem_cons.1 h with rfl | h
      · exact hp
      · exact takeWhile_all p l x h
    · rw [List.takeWhile_cons, if_neg hp] at h
      cases h
theorem digits_eq (s : ByteArray) : ((L8 s).drop 2).take (hexN s) = digitsS s := take_takeWhile _ _
theorem digits_all (s : ByteArray) : ∀ c ∈ digitsS s, isHex c = true := takeWhile_all _ _
theorem hexN_le (s : ByteArray) (h : 2 ≤ s.size) : 2 + hexN s ≤ s.size := by
  have h1 : hexN s ≤ ((L8 s).drop 2).length := (List.takeWhile_sublist _).length_le
  rw [List.length_drop, L8_len] at h1
  omega
theorem h16_bound (M : Nat) : ∀ (l : List UInt8) (acc v : Nat), acc ≤ M → h16 M acc l = .ok v → v ≤ M
  | [], acc, v, h, e => by
    unfold h16 at e
    cases e
    exact h
  | c :: l, acc, v, h, e => by
    unfold h16 at e
    split at e
    · cases e
    · split at e
      · cases e
      · exact h16_bound M l _ v (by omega) e
theorem h16_some (M : Nat) : ∀ (l : List UInt8) (acc : Nat), (∃ v, h16 M acc l = .ok v) ∨ h16 M acc l = .range
  | [], acc => .inl ⟨acc, by unfold h16; rfl⟩
  | c :: l, acc => by
    unfold h16
    split
    · exact .inr rfl
    · split
      · exact .inr rfl
      · exact h16_some M l _
set_option maxRecDepth 4000 in
theorem lex_coded_eq (s : ByteArray) (hs : s.size ≤ 1000) (h2 : 2 ≤ s.size) (k : Nat) (hk : 2000 < k) : lex_coded.f k s = some (codedR s) := by
  obtain ⟨k, rfl⟩ : ∃ k', k = k' + 1 + 1 := ⟨k - 2, by omega⟩
  have hle := hexN_le s h2
  have hrun : lex_run.f (s.extract 2 s.size) 43 = some (hexN s : Int) := by
    unfold lex_run.f
    rw [if_pos (by rw [size_ext s 2 s.size (Nat.le_refl _)]; omega)]
    have e : headLen isHex (s.extract 2 s.size) = hexN s := by
      unfold headLen hexN
      have := L8_ext s 2 s.size
      unfold L8 at this
      rw [this, List.take_of_length_le (by rw [List.length_drop, Array.length_toList]; exact Nat.le_refl _)]
    simp [kindOf, e]
  have hw : wrap64 (2 + (hexN s : Int)) = ((2 + hexN s : Nat) : Int) := by rw [wrap_small (by omega) (by omega)]; omega
  have hw1 : wrap64 (((2 + hexN s : Nat) : Int) + 1) = ((2 + hexN s + 1 : Nat) : Int) := by rw [wrap_small (by omega) (by omega)]; omega
  unfold lex_coded.f codedR
  rw [if_pos (by omega), hrun, Option.bind_some, hw]
  by_cases h3 : s.size ≤ 2 + hexN s
  · rw [if_pos (by omega), if_pos h3]
    rw [lex_coded.j0]
    rw [if_pos rfl]
    rfl
  · rw [if_neg (by omega), if_neg h3, if_pos (by omega), if_pos (by omega)]
    by_cases h4 : bt s ((2 + hexN s : Nat) : Int) = 39
    · rw [if_neg (fun h => h h4)]
      have hb : (bt s ((2 + hexN s : Nat) : Int) != 39) = false := bne_eq_false_iff_eq.2 h4
      rw [hb]
      rw [lex_coded.j0]
      rw [if_neg (by simp), hw1, if_pos (by omega), if_pos (by omega), if_pos (by omega)]
      by_cases h5 : bt s 0 = 102
      · rw [if_pos h5, if_pos h5, if_pos (by omega), if_pos (by omega), Int.toNat_natCast, Int.toNat_natCast]
        have hdl : (s.extract 2 (2 + hexN s)).data.toList = digitsS s := by
          have := L8_ext s 2 (2 + hexN s)
          rw [show 2 + hexN s - 2 = hexN s from by omega, digits_eq] at this
          exact this
        have hsz : (s.extract 2 (2 + hexN s)).size = hexN s := by rw [size_ext _ _ _ (by omega)]; omega
        have hp : strconv_ParseUint.f (s.extract 2 (2 + hexN s)) 16 64 = ((if hexN s = 0 then some (0, some 0) else match h16 18446744073709551615 0 (digitsS s) with
            | .ok n => some ((n : Int), none)
            | .range => some (((18446744073709551615 : Nat) : Int), some 0)
            | _ => none) : Option (Int × Option Int)) := by
          unfold strconv_ParseUint.f
          rw [if_pos ⟨rfl, .inl rfl, by omega, by rw [hdl]; exact List.all_eq_true.2 (digits_all s)⟩, hdl, hsz, pmax64]
          rcases h16_some 18446744073709551615 (digitsS s) 0 with ⟨v, hv⟩ | hv <;> rw [hv]
        rw [hp]
        by_cases h6 : hexN s = 16
        · rw [if_neg (by omega), if_pos h6]
          rcases h16_some 18446744073709551615 (digitsS s) 0 with ⟨v, hv⟩ | hv
          · have hv2 := h16_bound _ _ _ _ (by omega) hv
            rw [hv]
            simp only [Option.bind_some]
            rw [if_pos (by omega), if_pos (show (none : Option Int).isNone = true from rfl)]
            unfold flo_Canon.f
            rw [if_pos (by omega), if_pos (by omega)]
            rfl
          · rw [hv]
            simp only [Option.bind_some]
            rw [if_pos (by omega), if_neg (by simp)]
            rfl
        · rw [if_neg h6]
          by_cases h7 : hexN s = 0
          · rw [if_pos h7]
            simp only [Option.bind_some]
            rw [if_neg (by omega)]
            rfl
          · rw [if_neg h7]
            rcases h16_some 18446744073709551615 (digitsS s) 0 with ⟨v, hv⟩ | hv
            · rw [hv]
              simp only [Option.bind_some]
              rw [if_neg (by omega)]
              rfl
            · rw [hv]
              simp only [Option.bind_some]
              rw [if_neg (by omega)]
              rfl
      · rw [if_neg h5, if_neg h5]
        have hm : Int.tmod (hexN s : Int) 2 = ((hexN s % 2 : Nat) : Int) := by rw [Int.tmod_eq_emod_of_nonneg (by omega)]; omega
        have hq : wrap64 (Int.tdiv (hexN s : Int) 2) = ((hexN s / 2 : Nat) : Int) := by rw [Int.tdiv_eq_ediv_of_nonneg (by omega), wrap_small (by omega) (by omega)]; omega
        rw [hm, hq, Int.toNat_natCast]
        by_cases h6 : hexN s % 2 = 1
        · rw [if_pos (by omega), if_pos (.inl h6)]
          rw [lex_coded.j1]
          rw [if_pos rfl]
          rfl
        · rw [if_neg (by omega)]
          rw [lex_coded.j1]
          by_cases h7 : 40 < hexN s / 2
          · rw [if_pos (decide_eq_true (by omega)), if_pos (.inr h7)]
            rfl
          · rw [if_neg (by rw [decide_eq_true_eq]; omega), if_neg (by omega)]
            have := pairs_loop s hs (2 + hexN s) (by omega) (by rw [show 2 + hexN s - 2 = hexN s from by omega, digits_eq]; exact digits_all s) 3 (s.extract 0 (2 + hexN s + 1)) 0 0 0 ⟨#[]⟩ 0 (hexN s / 2) k 2 [] (by omega) (by omega) (by simp) (by omega)
            rw [show 2 + hexN s - 2 = hexN s from by omega, digits_eq, hw1, List.nil_append] at this
            exact this
    · rw [if_pos h4]
      have hb : (bt s ((2 + hexN s : Nat) : Int) != 39) = true := bne_iff_ne.2 h4
      rw [hb]
      rw [lex_coded.j0]
      rw [if_pos rfl]
      rfl
end Go.Proofs.YtjehfmimbbdnkaaDoor.LexPure
