/- Own texts of this session, packed by its program wip/pp/pack.py: lemmas and walks of functions. -/
import Derived.Lib.AtoiErrMem
import Derived.Test.YtjehfmimbbdnkaaDoorKInts1
namespace Go.Proofs.YtjehfmimbbdnkaaDoor.L
open Go.RowKit Go.Proofs.YtjehfmimbbdnkaaDoorW.PrintWords Go.Proofs.YtjehfmimbbdnkaaDoorW.PrintLast Go.Proofs.YtjehfmimbbdnkaaDoorW.PrintMore
attribute [local go_sem] max2_int min2_int max_two min_two max_three min_three max_four min_four
set_option linter.unusedVariables false
set_option linter.unusedSimpArgs false
mutual
def lex_text.l0 : Nat → ByteArray → List Int → Int → Option (Int × ByteArray × Int × Int × Int × ByteArray × Int × Int)
 | 0, _, _, _ => none
 | k + 1, x0, x4, x5 => if x5 < (x0.size : Int) then (if 0 ≤ x5 then (if (bt x0 x5) = 39 then (if (wrap64 (x5 + 1)) < (x0.size : Int) then (if 0 ≤ (wrap64 (x5 + 1)) then (lex_text.j1 k x0 x4 x5 ((bt x0 (wrap64 (x5 + 1))) == 39)) else (none)) else (lex_text.j1 k x0 x4 x5 false)) else (lex_text.j1 k x0 x4 x5 false)) else (none)) else (some (0, (⟨#[]⟩ : ByteArray), 0, 0, 0, (⟨#[]⟩ : ByteArray), 0, 0))
def lex_text.j1 : Nat → ByteArray → List Int → Int → Bool → Option (Int × ByteArray × Int × Int × Int × ByteArray × Int × Int)
 | 0, _, _, _, _ => none
 | k + 1, x0, x4, x5, x12 => if x12 = true then (if 0 ≤ (wrap64 (x5 + 1)) then (if (wrap64 (x5 + 1)) < (x0.size : Int) then (if x4.length < 140737488355328 then (lex_text.l0 k x0 (x4 ++ [bt x0 (wrap64 (x5 + 1))]) (wrap64 ((wrap64 (x5 + 1)) + 1))) else (none)) else (none)) else (none)) else (if 0 ≤ x5 then (if x5 < (x0.size : Int) then (if (bt x0 x5) = 39 then (if (x4.length : Int) > 40 then (some (0, (⟨#[]⟩ : ByteArray), 0, 0, 0, (⟨#[]⟩ : ByteArray), 0, 0)) else (if 0 ≤ (wrap64 (x5 + 1)) then (if (wrap64 (x5 + 1)) ≤ (x0.size : Int) then (some (3, x0.extract 0 ((wrap64 (x5 + 1)) : Int).toNat, 5, 0, 0, strOfNums x4, 0, wrap64 (x5 + 1))) else (none)) else (none))) else (if (bt x0 x5) < 32 then (some (0, (⟨#[]⟩ : ByteArray), 0, 0, 0, (⟨#[]⟩ : ByteArray), 0, 0)) else (if (bt x0 x5) > 126 then (some (0, (⟨#[]⟩ : ByteArray), 0, 0, 0, (⟨#[]⟩ : ByteArray), 0, 0)) else (if x4.length < 140737488355328 then (lex_text.l0 k x0 (x4 ++ [bt x0 x5]) (wrap64 (x5 + 1))) else (none))))) else (none)) else (none))
end
def lex_text.f (k : Nat) (a0 : ByteArray) : Option (Int × ByteArray × Int × Int × Int × ByteArray × Int × Int) := lex_text.l0 k a0 ([] : List Int) 1
theorem lex_text.mono_l : ∀ k, (∀ y0 y1 y2, LeO (lex_text.l0 k y0 y1 y2) (lex_text.l0 (k + 1) y0 y1 y2)) ∧ (∀ y0 y1 y2 y3, LeO (lex_text.j1 k y0 y1 y2 y3) (lex_text.j1 (k + 1) y0 y1 y2 y3))
 | 0 => ⟨fun _ _ _ r h => by simp [lex_text.l0] at h, fun _ _ _ _ r h => by simp [lex_text.j1] at h⟩
 | k + 1 => by
  obtain ⟨ih0, ih1⟩ := lex_text.mono_l k
  refine ⟨?_, ?_⟩
  ·intro y0 y1 y2
   unfold lex_text.l0
   repeat' first
   | (with_reducible exact ih0 _ _ _)
   | (with_reducible exact ih1 _ _ _ _)
   | (with_reducible exact LeO.refl _)
   | (with_reducible exact LeO.none _)
   | (with_reducible refine LeO.ite ?_ ?_)
   | (with_reducible refine LeO.bind ?_ (fun _ => ?_))
   | exact ih0 _ _ _
   | exact ih1 _ _ _ _
   | exact LeO.none _
   | refine LeO.ite ?_ ?_
   | refine LeO.bind ?_ (fun _ => ?_)
  ·intro y0 y1 y2 y3
   unfold lex_text.j1
   repeat' first
   | (with_reducible exact ih0 _ _ _)
   | (with_reducible exact ih1 _ _ _ _)
   | (with_reducible exact LeO.refl _)
   | (with_reducible exact LeO.none _)
   | (with_reducible refine LeO.ite ?_ ?_)
   | (with_reducible refine LeO.bind ?_ (fun _ => ?_))
   | exact ih0 _ _ _
   | exact ih1 _ _ _ _
   | exact LeO.none _
   | refine LeO.ite ?_ ?_
   | refine LeO.bind ?_ (fun _ => ?_)
theorem lex_text.mono : ∀ a0 k, LeO (lex_text.f k a0) (lex_text.f (k + 1) a0) := by
 intro a0 k
 obtain ⟨ih0, ih1⟩ := lex_text.mono_l k
 unfold lex_text.f
 repeat' first
   | (with_reducible exact ih0 _ _ _)
   | (with_reducible exact ih1 _ _ _ _)
   | (with_reducible exact LeO.refl _)
   | (with_reducible exact LeO.none _)
   | (with_reducible refine LeO.ite ?_ ?_)
   | (with_reducible refine LeO.bind ?_ (fun _ => ?_))
   | exact ih0 _ _ _
   | exact ih1 _ _ _ _
   | exact LeO.none _
   | refine LeO.ite ?_ ?_
   | refine LeO.bind ?_ (fun _ => ?_)
def lex_text.T10 : Bool × List (List Nat × List Nat) := (true, [([], []), ([], []), ([1], [1]), ([0, 2], [0, 2]), ([], []), ([4], [4]), ([5], [5]), ([3, 6], [3, 6]), ([], []), ([8], [8]), ([7, 0, 1, 2, 3, 4, 5, 6, 7], [7]), ([9, 10, 0, 1, 2, 3, 4, 5, 6, 7, 8, 9, 10], [9])])
def lex_text.B10 : List Nat := [0, 0, 2, 7, 0, 16, 48, 127, 0, 256, 255, 2047]
theorem lex_text.tab10 : rtab .any (opsOf Tryd.f31 10) = lex_text.T10 := by kernel_rfl
theorem lex_text.bits10 : waitsOk lex_text.T10.2 lex_text.B10 = true := by kernel_rfl
set_option maxHeartbeats 8000000 in
set_option maxRecDepth 100000 in
theorem lex_text.calls (k : Nat) (a0 : ByteArray) (r1 : Int) (r2 : ByteArray) (r3 : Int) (r4 : Int) (r5 : Int) (r6 : ByteArray) (r7 : Int) (r8 : Int) (w : World) (h : lex_text.f k a0 = some (r1, r2, r3, r4, r5, r6, r7, r8)) :
  Calls Tryd.prog 31 #[.string a0] w fun e w' => e = .returned (.tuple #[.agg #[.int .i64 r1, .string r2, .int .i64 r3, .int .i64 r4, .int .u64 r5, .string r6, .int .i64 r7], .int .i64 r8]) ∧ Below w.heap.size w w' := by
 have hu39 := Tryd.underlying39
 have hu37 := Tryd.underlying37
 have HB := Aside0.mk (Below.refl w.heap.size w)
 have H : (lex_text.l0 k a0 ([] : List Int) 1) = some (r1, r2, r3, r4, r5, r6, r7, r8) := h
 clear h
 have H' := Aside0.mk H
 clear H
 go_enter Tryd.func31, Tryd.ntmps31
 go_wp2_with (first | ((with_reducible refine gate_dst (N := 2) rfl ?_); (try (refine gate_guard (by rfl) ?_; dsimp only)); refine box_event ?hg (N := 2) ?hd (cs := #[.int .i64 0, .string (⟨#[]⟩ : ByteArray), .int .i64 0, .int .i64 0, .int .u64 0, .string (⟨#[]⟩ : ByteArray), .int .i64 0]) (t := 39) ?hr ?_; (case hd => rfl); (case hg => rfl); (case hr => first | (go_simp; done) | (go_simp; rfl)); intro gb124 hg w2 hbox hb; have n0_ := Aside0.mk (below_step (by repeat (first | (with_reducible first | exact HB.out | apply below_alloc | apply pw_below_drewN | apply below_drew1) | exact HB.out)) hb); have n1_ := Aside0.mk (hbox); have n2_ := Aside0.mk ((by rw [hg]; exact (below_size (by repeat (first | (with_reducible first | exact HB.out | apply below_alloc | apply pw_below_drewN | apply below_drew1) | exact HB.out))) : w.heap.size ≤ gb124)); have n3_ := Aside0.mk ((by rw [hg]; exact (below_size (by repeat (first | (with_reducible first | exact HB.out | apply below_alloc | apply pw_below_drewN | apply below_drew1) | exact HB.out))) : w.heap.size ≤ gb124)); clear HB; have HB := n0_; have BK124 := n1_; have GW124 := n2_; have GE124 := n3_; clear n0_ n1_ n2_ n3_; clear hb hbox hg))
 go_loopg [4, 5] k (fun kq v4 v5 w' => ∃ (x4_1 : List Int) (x5_1 : Int) (x125000_1 : Int) (x125001_1 : ByteArray) (x125002_1 : Int) (x125003_1 : Int) (x125004_1 : Int) (x125005_1 : ByteArray) (x125006_1 : Int), v5 = .int .i64 x5_1 ∧ Aside0 (lex_text.l0 kq a0 x4_1 x5_1 = some (r1, r2, r3, r4, r5, r6, r7, r8)) ∧ Aside0 (kq ≤ k) ∧ Aside0 (Kd.R (Kd.int .u8) 5 w' w.heap.size (fun _ => True) v4 x4_1) ∧ Aside0 (w'.heap[gb124]? = some (.cells #[.int .i64 x125000_1, .string x125001_1, .int .i64 x125002_1, .int .i64 x125003_1, .int .u64 x125004_1, .string x125005_1, .int .i64 x125006_1] 39 (0, 0))) ∧ Aside0 (Below w.heap.size w w'))
 case atStart => exact ⟨(([] : List Int)), (1), (0), ((⟨#[]⟩ : ByteArray)), (0), (0), (0), ((⟨#[]⟩ : ByteArray)), (0), (by first | rfl | (simp; done) | (simp [*]; done)), H', ⟨Nat.le_refl _⟩, ⟨by first | exact Kd.R_nil _ _ _ _ _ | exact Kd.N_nil _ _ _ _ _ | exact Kd.V_nil _ _ _ _ _ | exact Kd.Q_nil _ _ _ _ _ | exact Kd.S_nil _ _ _ _ _⟩, ⟨by (with_reducible repeat (first | refine blk_drewN ?_ _ | refine blk_drew ?_ | refine blk_alloc ?_ _)); exact BK124.out⟩, ⟨by repeat (first | (with_reducible first | exact HB.out | apply below_alloc | apply pw_below_drewN | apply below_drew1 | refine below_set ?_ GE124.out) | exact HB.out)⟩⟩
 case round =>
  clear H'
  try clear p2
  obtain ⟨x4_1, x5_1, x125000_1, x125001_1, x125002_1, x125003_1, x125004_1, x125005_1, x125006_1, rfl, HA, HK1, HO_4, BK124, HB⟩ := hrel
  cases gk with
  | zero => exact absurd HA.out (by simp [lex_text.l0])
  | succ k1 =>
   have H := HA.out
   clear HA
   simp only [lex_text.l0] at H
   by_cases c3 : x5_1 < (a0.size : Int)
   ·rw [if_pos c3] at H
    have c3b0 : decide (x5_1 < (a0.size : Int)) = true := decide_eq_true c3
    clear c3
    have HC4 := Aside0.mk H
    clear H
    go_upto_region 5 with (fail)
    go_cut [12] (fun v12 wc => ∃ (kq : Nat) (x12_3 : Bool), v12 = .bool x12_3 ∧ Aside0 (lex_text.j1 kq a0 x4_1 x5_1 x12_3 = some (r1, r2, r3, r4, r5, r6, r7, r8)) ∧ Aside0 (kq ≤ k1) ∧ Aside0 (Kd.R (Kd.int .u8) 5 wc w.heap.size (fun _ => True) u4 x4_1) ∧ Aside0 (wc.heap[gb124]? = some (.cells #[.int .i64 x125000_1, .string x125001_1, .int .i64 x125002_1, .int .i64 x125003_1, .int .u64 x125004_1, .string x125005_1, .int .i64 x125006_1] 39 (0, 0))) ∧ Aside0 (Below w.heap.size w wc))
    case first =>
     have H := HC4.out
     clear HC4
     by_cases c5 : 0 ≤ x5_1
     ·rw [if_pos c5] at H
      have c5b0 : decide (0 ≤ x5_1) = true := decide_eq_true c5
      clear c5
      (first | rw [c5b0] | (simp only [i64_w, i32_w]; rw [c5b0]) | skip)
      by_cases c7 : (bt a0 x5_1) = 39
      ·rw [if_pos c7] at H
       have c7b0 : ((bt a0 x5_1) == 39) = true := beq_iff_eq.mpr c7
       have c7b1 : ((bt a0 x5_1) != 39) = false := bne_eq_false_iff_eq.mpr c7
       clear c7
       by_cases c8 : (wrap64 (x5_1 + 1)) < (a0.size : Int)
       ·rw [if_pos c8] at H
        have c8b0 : decide ((wrap64 (x5_1 + 1)) < (a0.size : Int)) = true := decide_eq_true c8
        clear c8
        obtain ⟨ji9, hji9⟩ : ∃ j_ : Int, (wrap64 (x5_1 + 1)) = j_ := ⟨_, rfl⟩
        replace H : (if 0 ≤ (ji9) then (lex_text.j1 k1 a0 x4_1 x5_1 ((bt a0 (ji9)) == 39)) else (none)) = some (r1, r2, r3, r4, r5, r6, r7, r8) := by first | (rw [hji9] at H; exact H) | (simp only [hji9] at H ⊢; exact H)
        (try rw [hji9] at c8b0)
        have hji9w : (IntKind.i64.wrap (x5_1 + 1)) = ji9 := (i64_w _).trans hji9
        by_cases c10 : 0 ≤ (ji9)
        ·rw [if_pos c10] at H
         have c10b0 : decide (0 ≤ (ji9)) = true := decide_eq_true c10
         clear c10
         have H' := Aside0.mk H
         clear H
         have p6 : 0 ≤ (x5_1 : Int) := of_decide_eq_true (by first | (with_reducible assumption) | assumption)
         have q6 : x5_1 < (a0.size : Int) := of_decide_eq_true (by first | (with_reducible assumption) | assumption)
         have hx6 := bt_at a0 x5_1
         replace p6 := eq_true p6
         replace q6 := eq_true q6
         have p11 : 0 ≤ ((ji9) : Int) := of_decide_eq_true (by first | (with_reducible assumption) | assumption)
         have q11 : (ji9) < (a0.size : Int) := of_decide_eq_true (by first | (with_reducible assumption) | assumption)
         have hx11 := bt_at a0 (ji9)
         replace p11 := eq_true p11
         replace q11 := eq_true q11
         go_wp2
         go_meet
         case rel => exact ⟨_, (((bt a0 (ji9)) == 39)), (by first | rfl | (simp; done) | (simp only [← hji9] <;> (first | rfl | simp)) | (simp [*]; done)), H', ⟨by have := HK1.out; first | omega | exact Nat.le_refl _⟩, ⟨by (with_reducible repeat (first | apply Kd.R_alloc | apply Kd.R_drewN | apply Kd.R_drew)); exact HO_4.out⟩, ⟨by (with_reducible repeat (first | refine blk_drewN ?_ _ | refine blk_drew ?_ | refine blk_alloc ?_ _)); exact BK124.out⟩, ⟨by repeat (first | (with_reducible first | exact HB.out | apply below_alloc | apply pw_below_drewN | apply below_drew1 | refine below_set ?_ GE124.out) | exact HB.out)⟩⟩
        ·rw [if_neg c10] at H
         exact absurd H (by simp)
       ·rw [if_neg c8] at H
        have c8b0 : decide ((wrap64 (x5_1 + 1)) < (a0.size : Int)) = false := decide_eq_false c8
        clear c8
        have H' := Aside0.mk H
        clear H
        have p6 : 0 ≤ (x5_1 : Int) := of_decide_eq_true (by first | (with_reducible assumption) | assumption)
        have q6 : x5_1 < (a0.size : Int) := of_decide_eq_true (by first | (with_reducible assumption) | assumption)
        have hx6 := bt_at a0 x5_1
        replace p6 := eq_true p6
        replace q6 := eq_true q6
        go_wp2
        go_meet
        case rel => exact ⟨_, (false), (by first | rfl | (simp; done) | (simp [*]; done)), H', ⟨by have := HK1.out; first | omega | exact Nat.le_refl _⟩, ⟨by (with_reducible repeat (first | apply Kd.R_alloc | apply Kd.R_drewN | apply Kd.R_drew)); exact HO_4.out⟩, ⟨by (with_reducible repeat (first | refine blk_drewN ?_ _ | refine blk_drew ?_ | refine blk_alloc ?_ _)); exact BK124.out⟩, ⟨by repeat (first | (with_reducible first | exact HB.out | apply below_alloc | apply pw_below_drewN | apply below_drew1 | refine below_set ?_ GE124.out) | exact HB.out)⟩⟩
      ·rw [if_neg c7] at H
       have c7b0 : ((bt a0 x5_1) == 39) = false := beq_eq_false_iff_ne.mpr c7
       have c7b1 : ((bt a0 x5_1) != 39) = true := bne_iff_ne.mpr c7
       have H' := Aside0.mk H
       clear H
       have p6 : 0 ≤ (x5_1 : Int) := of_decide_eq_true (by first | (with_reducible assumption) | assumption)
       have q6 : x5_1 < (a0.size : Int) := of_decide_eq_true (by first | (with_reducible assumption) | assumption)
       have hx6 := bt_at a0 x5_1
       replace p6 := eq_true p6
       replace q6 := eq_true q6
       go_wp2
       go_meet
       case rel => exact ⟨_, (false), (by first | rfl | (simp; done) | (simp [*]; done)), H', ⟨by have := HK1.out; first | omega | exact Nat.le_refl _⟩, ⟨by (with_reducible repeat (first | apply Kd.R_alloc | apply Kd.R_drewN | apply Kd.R_drew)); exact HO_4.out⟩, ⟨by (with_reducible repeat (first | refine blk_drewN ?_ _ | refine blk_drew ?_ | refine blk_alloc ?_ _)); exact BK124.out⟩, ⟨by repeat (first | (with_reducible first | exact HB.out | apply below_alloc | apply pw_below_drewN | apply below_drew1 | refine below_set ?_ GE124.out) | exact HB.out)⟩⟩
     ·rw [if_neg c5] at H
      exact absurd H (by simp)
    case rest =>
     clear HC4
     try clear c1
     try clear p1
     try clear q1
     try clear hx1
     try clear p2
     try clear c3
     try clear c3b0
     try clear c5
     try clear c5b0
     try clear p6
     try clear q6
     try clear hx6
     try clear c7
     try clear c7b0
     try clear c7b1
     try clear c8
     try clear c8b0
     try clear c10
     try clear c10b0
     try clear p11
     try clear q11
     try clear hx11
     try clear p11
     try clear p2
     try clear p6
     try clear q11
     try clear q6
     obtain ⟨kq, x12_3, rfl, HA, HJ3, HO_4, BK124, HB⟩ := hcut
     cases kq with
     | zero => exact absurd HA.out (by simp [lex_text.j1])
     | succ kj3 =>
      have H := HA.out
      clear HA
      simp only [lex_text.j1] at H
      by_cases c12 : x12_3 = true
      ·subst c12
       have H1 : (if 0 ≤ (wrap64 (x5_1 + 1)) then (if (wrap64 (x5_1 + 1)) < (a0.size : Int) then (if x4_1.length < 140737488355328 then (lex_text.l0 kj3 a0 (x4_1 ++ [bt a0 (wrap64 (x5_1 + 1))]) (wrap64 ((wrap64 (x5_1 + 1)) + 1))) else (none)) else (none)) else (none)) = some (r1, r2, r3, r4, r5, r6, r7, r8) := by rw [if_pos rfl] at H; exact H
       clear H
       have H := H1
       clear H1
       obtain ⟨ji13, hji13⟩ : ∃ j_ : Int, (wrap64 (x5_1 + 1)) = j_ := ⟨_, rfl⟩
       replace H : (if 0 ≤ (ji13) then (if (ji13) < (a0.size : Int) then (if x4_1.length < 140737488355328 then (lex_text.l0 kj3 a0 (x4_1 ++ [bt a0 (ji13)]) (wrap64 ((ji13) + 1))) else (none)) else (none)) else (none)) = some (r1, r2, r3, r4, r5, r6, r7, r8) := by first | (rw [hji13] at H; exact H) | (simp only [hji13] at H ⊢; exact H)
       have hji13w : (IntKind.i64.wrap (x5_1 + 1)) = ji13 := (i64_w _).trans hji13
       by_cases c14 : 0 ≤ (ji13)
       ·rw [if_pos c14] at H
        have c14b0 : decide (0 ≤ (ji13)) = true := decide_eq_true c14
        clear c14
        by_cases c15 : (ji13) < (a0.size : Int)
        ·rw [if_pos c15] at H
         have c15b0 : decide ((ji13) < (a0.size : Int)) = true := decide_eq_true c15
         clear c15
         by_cases c17 : x4_1.length < 140737488355328
         ·rw [if_pos c17] at H
          have LMc17 := Aside0.mk c17
          clear c17
          obtain ⟨y125, hy125⟩ : ∃ y_ : List Int, y_ = (x4_1 ++ [bt a0 (ji13)]) := ⟨_, rfl⟩
          replace H : (lex_text.l0 kj3 a0 y125 (wrap64 ((ji13) + 1))) = some (r1, r2, r3, r4, r5, r6, r7, r8) := by first | (rw [hy125]; with_reducible exact H) | (have H2_ := (Option.bind_some _ _).symm.trans H; rw [hy125]; with_reducible exact H2_) | (have H2_ := (Option.bind_some _ _).symm.trans H; with_reducible exact H2_) | with_reducible exact H | (rw [hy125]; exact H) | exact H
          have Ny125 := Aside0.mk hy125
          clear hy125
          have H' := Aside0.mk H
          clear H
          have p16 : 0 ≤ ((ji13) : Int) := of_decide_eq_true (by first | (with_reducible assumption) | assumption)
          have q16 : (ji13) < (a0.size : Int) := of_decide_eq_true (by first | (with_reducible assumption) | assumption)
          have hx16 := bt_at a0 (ji13)
          replace p16 := eq_true p16
          replace q16 := eq_true q16
          go_wp2_with (first | ((with_reducible refine gate_builtin (b := .append) (xs := #[.tmp 64, .tmp 68]) rfl ?_); (try (refine gate_guard (by rfl) ?_; dsimp only)); at_builtin; refine Kd.R_append (Kd.int .u8) (w0 := w) w.heap.size rfl (.tmp 64) (.tmp 68) 34 5 (.int .u8 0) 1 rfl Tryd.underlying34 info5 rfl (by decide) (by omega) u4 x4_1 (bt a0 (ji13)) [.int .u8 (bt a0 (ji13))] (fun _ => True) (fun _ => False) rfl rfl ?aP (fun _ hk => hk.elim) ?aF ?aO ?aB ?aS ?aL ?_; (case aP => exact rfl); (case aB => exact (by repeat (first | (with_reducible first | exact HB.out | apply below_alloc | apply pw_below_drewN | apply below_drew1 | refine below_set ?_ GE124.out) | exact HB.out))); (case aF => exact (fun _ _ => trivial)); (case aO => exact (by (with_reducible repeat (first | apply Kd.R_alloc | apply Kd.R_drewN | apply Kd.R_drew)); exact HO_4.out)); (case aS => exact (below_size (by repeat (first | (with_reducible first | exact HB.out | apply below_alloc | apply pw_below_drewN | apply below_drew1 | refine below_set ?_ GE124.out) | exact HB.out)))); (case aL => have := LMc17.out; omega); intro v126 w18 ho hb hg hat; rw [← Ny125.out] at ho; have n0_ := Aside0.mk (blk_grown (g := gb124) (o := .cells #[.int .i64 x125000_1, .string x125001_1, .int .i64 x125002_1, .int .i64 x125003_1, .int .u64 x125004_1, .string x125005_1, .int .i64 x125006_1] 39 (0, 0)) (by (with_reducible repeat (first | refine blk_drewN ?_ _ | refine blk_drew ?_ | refine blk_alloc ?_ _)); exact BK124.out) hg (Kd.R_ne HO_4.out BK124.out (by decide))); have n1_ := Aside0.mk (hb); have n2_ := Aside0.mk (ho); clear BK124; clear HB; clear HO_4; have BK124 := n0_; have HB := n1_; have HO127 := n2_; clear n0_ n1_ n2_; clear ho hb hg hat))
          go_roundg kj3
          case measure => have := HK1.out; have := HJ3.out; omega
          case rel => exact ⟨(y125), (wrap64 ((ji13) + 1)), (x125000_1), (x125001_1), (x125002_1), (x125003_1), (x125004_1), (x125005_1), (x125006_1), (by first | rfl | (simp; done) | (simp only [← hji13] <;> (first | rfl | simp)) | (simp [*]; done)), H', ⟨by have := HK1.out; have := HJ3.out; omega⟩, ⟨by (with_reducible repeat (first | apply Kd.R_alloc | apply Kd.R_drewN | apply Kd.R_drew)); exact HO127.out⟩, ⟨by (with_reducible repeat (first | refine blk_drewN ?_ _ | refine blk_drew ?_ | refine blk_alloc ?_ _)); exact BK124.out⟩, ⟨by repeat (first | (with_reducible first | exact HB.out | apply below_alloc | apply pw_below_drewN | apply below_drew1 | refine below_set ?_ GE124.out) | exact HB.out)⟩⟩
         ·rw [if_neg c17] at H
          exact absurd H (by simp)
        ·rw [if_neg c15] at H
         exact absurd H (by simp)
       ·rw [if_neg c14] at H
        exact absurd H (by simp)
      ·replace c12 := Bool.eq_false_iff.mpr c12
       subst c12
       have H1 : (if 0 ≤ x5_1 then (if x5_1 < (a0.size : Int) then (if (bt a0 x5_1) = 39 then (if (x4_1.length : Int) > 40 then (some (0, (⟨#[]⟩ : ByteArray), 0, 0, 0, (⟨#[]⟩ : ByteArray), 0, 0)) else (if 0 ≤ (wrap64 (x5_1 + 1)) then (if (wrap64 (x5_1 + 1)) ≤ (a0.size : Int) then (some (3, a0.extract 0 ((wrap64 (x5_1 + 1)) : Int).toNat, 5, 0, 0, strOfNums x4_1, 0, wrap64 (x5_1 + 1))) else (none)) else (none))) else (if (bt a0 x5_1) < 32 then (some (0, (⟨#[]⟩ : ByteArray), 0, 0, 0, (⟨#[]⟩ : ByteArray), 0, 0)) else (if (bt a0 x5_1) > 126 then (some (0, (⟨#[]⟩ : ByteArray), 0, 0, 0, (⟨#[]⟩ : ByteArray), 0, 0)) else (if x4_1.length < 140737488355328 then (lex_text.l0 kj3 a0 (x4_1 ++ [bt a0 x5_1]) (wrap64 (x5_1 + 1))) else (none))))) else (none)) else (none)) = some (r1, r2, r3, r4, r5, r6, r7, r8) := by rw [if_neg (show ¬ (false = true) by decide)] at H; exact H
       clear H
       have H := H1
       clear H1
       by_cases c19 : 0 ≤ x5_1
       ·rw [if_pos c19] at H
        have c19b0 : decide (0 ≤ x5_1) = true := decide_eq_true c19
        clear c19
        by_cases c20 : x5_1 < (a0.size : Int)
        ·rw [if_pos c20] at H
         have c20b0 : decide (x5_1 < (a0.size : Int)) = true := decide_eq_true c20
         clear c20
         by_cases c22 : (bt a0 x5_1) = 39
         ·rw [if_pos c22] at H
          have c22b0 : ((bt a0 x5_1) == 39) = true := beq_iff_eq.mpr c22
          have c22b1 : ((bt a0 x5_1) != 39) = false := bne_eq_false_iff_eq.mpr c22
          clear c22
          by_cases c23 : (x4_1.length : Int) > 40
          ·rw [if_pos c23] at H
           have c23b0 : decide (40 < (x4_1.length : Int)) = true := decide_eq_true c23
           have c23b1 : decide (40 < x4_1.length) = true := decide_eq_true (by omega)
           clear c23
           simp only [Option.some.injEq, Prod.mk.injEq] at H
           obtain ⟨rfl, rfl, rfl, rfl, rfl, rfl, rfl, rfl⟩ := H
           have p21 : 0 ≤ (x5_1 : Int) := of_decide_eq_true (by first | (with_reducible assumption) | assumption)
           have q21 : x5_1 < (a0.size : Int) := of_decide_eq_true (by first | (with_reducible assumption) | assumption)
           have hx21 := bt_at a0 x5_1
           replace p21 := eq_true p21
           replace q21 := eq_true q21
           obtain ⟨Ao24, co24, eo24⟩ := Kd.R_slice HO_4.out
           subst eo24
           have hcz25_0 : wc.cell? ⟨gb124, 0, none⟩ = some (.int .i64 x125000_1) := (blk_cell BK124.out 0).trans rfl
           have hcz25_1 : wc.cell? ⟨gb124, 1, none⟩ = some (.string x125001_1) := (blk_cell BK124.out 1).trans rfl
           have hcz25_2 : wc.cell? ⟨gb124, 2, none⟩ = some (.int .i64 x125002_1) := (blk_cell BK124.out 2).trans rfl
           have hcz25_3 : wc.cell? ⟨gb124, 3, none⟩ = some (.int .i64 x125003_1) := (blk_cell BK124.out 3).trans rfl
           have hcz25_4 : wc.cell? ⟨gb124, 4, none⟩ = some (.int .u64 x125004_1) := (blk_cell BK124.out 4).trans rfl
           have hcz25_5 : wc.cell? ⟨gb124, 5, none⟩ = some (.string x125005_1) := (blk_cell BK124.out 5).trans rfl
           have hcz25_6 : wc.cell? ⟨gb124, 6, none⟩ = some (.int .i64 x125006_1) := (blk_cell BK124.out 6).trans rfl
           have hfz25_0 := blk_frozen BK124.out 0
           have hfz25_1 := blk_frozen BK124.out 1
           have hfz25_2 := blk_frozen BK124.out 2
           have hfz25_3 := blk_frozen BK124.out 3
           have hfz25_4 := blk_frozen BK124.out 4
           have hfz25_5 := blk_frozen BK124.out 5
           have hfz25_6 := blk_frozen BK124.out 6
           go_wp2
           refine bodyPost_ret (results_ct rfl _ _ gb124 39 #[.int .i64 0, .string (⟨#[]⟩ : ByteArray), .int .i64 0, .int .i64 0, .int .u64 0, .string (⟨#[]⟩ : ByteArray), .int .i64 0] (0, 0) _ rfl (by (with_reducible repeat (first | refine blk_drewN ?_ _ | refine blk_drew ?_ | refine blk_alloc ?_ _)); refine blk_put (cs := #[.int .i64 0, .string (⟨#[]⟩ : ByteArray), .int .i64 0, .int .i64 0, .int .u64 0, .string (⟨#[]⟩ : ByteArray), .int .i64 x125006_1]) ?_ 6 _ rfl; (with_reducible repeat (first | refine blk_drewN ?_ _ | refine blk_drew ?_ | refine blk_alloc ?_ _)); refine blk_put (cs := #[.int .i64 0, .string (⟨#[]⟩ : ByteArray), .int .i64 0, .int .i64 0, .int .u64 0, .string x125005_1, .int .i64 x125006_1]) ?_ 5 _ rfl; (with_reducible repeat (first | refine blk_drewN ?_ _ | refine blk_drew ?_ | refine blk_alloc ?_ _)); refine blk_put (cs := #[.int .i64 0, .string (⟨#[]⟩ : ByteArray), .int .i64 0, .int .i64 0, .int .u64 x125004_1, .string x125005_1, .int .i64 x125006_1]) ?_ 4 _ rfl; (with_reducible repeat (first | refine blk_drewN ?_ _ | refine blk_drew ?_ | refine blk_alloc ?_ _)); refine blk_put (cs := #[.int .i64 0, .string (⟨#[]⟩ : ByteArray), .int .i64 0, .int .i64 x125003_1, .int .u64 x125004_1, .string x125005_1, .int .i64 x125006_1]) ?_ 3 _ rfl; (with_reducible repeat (first | refine blk_drewN ?_ _ | refine blk_drew ?_ | refine blk_alloc ?_ _)); refine blk_put (cs := #[.int .i64 0, .string (⟨#[]⟩ : ByteArray), .int .i64 x125002_1, .int .i64 x125003_1, .int .u64 x125004_1, .string x125005_1, .int .i64 x125006_1]) ?_ 2 _ rfl; (with_reducible repeat (first | refine blk_drewN ?_ _ | refine blk_drew ?_ | refine blk_alloc ?_ _)); refine blk_put (cs := #[.int .i64 0, .string x125001_1, .int .i64 x125002_1, .int .i64 x125003_1, .int .u64 x125004_1, .string x125005_1, .int .i64 x125006_1]) ?_ 1 _ rfl; (with_reducible repeat (first | refine blk_drewN ?_ _ | refine blk_drew ?_ | refine blk_alloc ?_ _)); refine blk_put (cs := #[.int .i64 x125000_1, .string x125001_1, .int .i64 x125002_1, .int .i64 x125003_1, .int .u64 x125004_1, .string x125005_1, .int .i64 x125006_1]) ?_ 0 _ rfl; (with_reducible repeat (first | refine blk_drewN ?_ _ | refine blk_drew ?_ | refine blk_alloc ?_ _)); exact BK124.out) Tryd.underlying39 rfl (by kernel_rfl)) rfl ?_
           exact ⟨by first | rfl | (simp [errW_none, errW_some] <;> rfl) | (simp [*, errW_none, errW_some] <;> rfl), by repeat (first | (with_reducible first | exact HB.out | apply below_alloc | apply pw_below_drewN | apply below_drew1 | refine below_set ?_ GE124.out) | exact HB.out)⟩
          ·rw [if_neg c23] at H
           have c23b0 : decide (40 < (x4_1.length : Int)) = false := decide_eq_false c23
           have c23b1 : decide (40 < x4_1.length) = false := decide_eq_false (by omega)
           clear c23
           obtain ⟨ji26, hji26⟩ : ∃ j_ : Int, (wrap64 (x5_1 + 1)) = j_ := ⟨_, rfl⟩
           replace H : (if 0 ≤ (ji26) then (if (ji26) ≤ (a0.size : Int) then (some (3, a0.extract 0 ((ji26) : Int).toNat, 5, 0, 0, strOfNums x4_1, 0, ji26)) else (none)) else (none)) = some (r1, r2, r3, r4, r5, r6, r7, r8) := by first | (rw [hji26] at H; exact H) | (simp only [hji26] at H ⊢; exact H)
           have hji26w : (IntKind.i64.wrap (x5_1 + 1)) = ji26 := (i64_w _).trans hji26
           by_cases c27 : 0 ≤ (ji26)
           ·rw [if_pos c27] at H
            have c27b0 := eq_true c27
            have c27b1 : decide (0 ≤ (ji26)) = true := decide_eq_true c27
            clear c27
            by_cases c28 : (ji26) ≤ (a0.size : Int)
            ·rw [if_pos c28] at H
             have c28b0 := eq_true c28
             have c28b1 : decide ((ji26) ≤ (a0.size : Int)) = true := decide_eq_true c28
             clear c28
             simp only [Option.some.injEq, Prod.mk.injEq] at H
             obtain ⟨rfl, rfl, rfl, rfl, rfl, rfl, rfl, rfl⟩ := H
             have p21 : 0 ≤ (x5_1 : Int) := of_decide_eq_true (by first | (with_reducible assumption) | assumption)
             have q21 : x5_1 < (a0.size : Int) := of_decide_eq_true (by first | (with_reducible assumption) | assumption)
             have hx21 := bt_at a0 x5_1
             replace p21 := eq_true p21
             replace q21 := eq_true q21
             obtain ⟨Ao29, co29, eo29⟩ := Kd.R_slice HO_4.out
             subst eo29
             try go_wp2
             have n0_ := Aside0.mk (Kd.R_drew HO_4.out)
             have n1_ := Aside0.mk (blk_drew BK124.out)
             have n2_ := Aside0.mk (below_drew1 HB.out)
             clear HO_4
             clear BK124
             clear HB
             have HO_4 := n0_
             have BK124 := n1_
             have HB := n2_
             clear n0_ n1_ n2_
             have hcv31 := own_string (P := Tryd.prog) Tryd.underlying34 Tryd.underlying5 Tryd.underlying9 (Kd.own_of_R HO_4.out)
             refine start_ (n := 12) (S := fun w' => (convert 34 9 (.slice Ao29 x4_1.length co29)).run Tryd.prog w' = .ok (.string (strOfNums x4_1)) w') (ds := [10]) #[false, false, false, false, false, false, false, false, false, false, false, false] (by kernel_rfl) rfl rfl (own_string (P := Tryd.prog) Tryd.underlying34 Tryd.underlying5 Tryd.underlying9 (Kd.own_of_R (Kd.R_drew HO_4.out))) (fun hHeld => ?_); refine with_tabW lex_text.tab10 lex_text.bits10 (fun HT_ HW_ => ?_)
             generalize wc.drew = w30 at HO_4 BK124 HB hHeld ⊢
             refine pure_ (i := 0) (N := some 42) (v := ?_) (a' := ?_) #[true, false, false, false, false, false, false, false, false, false, false, false] rfl rfl (any_of HT_.out (by kernel_rfl)) (fun _ _ _ h => h) (Or.inl ⟨by rfl, ?_⟩) ?_ ?_
             rotate_left
             ·intro w'
              go_simp
              with_reducible rfl
             rotate_left
             ·simp only [Act.put, List.setIfInBounds_toArray, List.set_cons_zero, List.set_cons_succ, i64_w, i32_w]
              rfl
             refine pure_ (i := 1) (N := some 43) (v := ?_) (a' := ?_) #[true, true, false, false, false, false, false, false, false, false, false, false] rfl rfl (any_of HT_.out (by kernel_rfl)) (fun _ _ _ h => h) (Or.inl ⟨by rfl, ?_⟩) ?_ ?_
             rotate_left
             ·intro w'
              go_simp
              with_reducible rfl
             rotate_left
             ·simp only [Act.put, List.setIfInBounds_toArray, List.set_cons_zero, List.set_cons_succ, i64_w, i32_w]
              rfl
             refine pure_ (i := 2) (N := some 44) (v := ?_) (a' := ?_) #[true, true, true, false, false, false, false, false, false, false, false, false] rfl rfl (any_of HT_.out (by kernel_rfl)) (fun _ _ _ h => h) (Or.inl ⟨by rfl, ?_⟩) ?_ ?_
             rotate_left
             ·intro w'
              go_simp
              with_reducible rfl
             rotate_left
             ·simp only [Act.put, List.setIfInBounds_toArray, List.set_cons_zero, List.set_cons_succ, i64_w, i32_w]
              rfl
             refine pure_ (i := 3) (N := some 45) (v := ?_) (a' := ?_) #[true, true, true, true, false, false, false, false, false, false, false, false] rfl rfl (any_of HT_.out (by kernel_rfl)) (fun _ _ _ h => h) (Or.inl ⟨by rfl, ?_⟩) ?_ ?_
             rotate_left
             ·intro w'
              go_simp
              with_reducible rfl
             rotate_left
             ·simp only [Act.put, List.setIfInBounds_toArray, List.set_cons_zero, List.set_cons_succ, i64_w, i32_w]
              rfl
             refine pure_ (i := 4) (N := some 46) (v := ?_) (a' := ?_) #[true, true, true, true, true, false, false, false, false, false, false, false] rfl rfl (any_of HT_.out (by kernel_rfl)) (fun _ _ _ h => h) (Or.inl ⟨by rfl, ?_⟩) ?_ ?_
             rotate_left
             ·intro w'
              go_simp
              with_reducible rfl
             rotate_left
             ·simp only [Act.put, List.setIfInBounds_toArray, List.set_cons_zero, List.set_cons_succ, i64_w, i32_w]
              rfl
             refine take_ (i := 5) (N := some 47) (v := ?_) (a' := ?_) #[true, true, true, true, true, true, false, false, false, false, false, false] rfl rfl (take_ofW HT_.out HW_.out (by kernel_rfl)) (fun _ _ _ h => h) (Or.inl ⟨by rfl, ?_⟩) hHeld ?_ ?_
             rotate_left
             ·intro w' hSw
              go_simp; (try rw [hSw]); go_simp
              all_goals (with_reducible rfl)
             rotate_left
             ·simp only [Act.put, List.setIfInBounds_toArray, List.set_cons_zero, List.set_cons_succ, i64_w, i32_w]
              rfl
             refine pure_ (i := 6) (N := some 48) (v := ?_) (a' := ?_) #[true, true, true, true, true, true, true, false, false, false, false, false] rfl rfl (any_of HT_.out (by kernel_rfl)) (fun _ _ _ h => h) (Or.inl ⟨by rfl, ?_⟩) ?_ ?_
             rotate_left
             ·intro w'
              go_simp
              with_reducible rfl
             rotate_left
             ·simp only [Act.put, List.setIfInBounds_toArray, List.set_cons_zero, List.set_cons_succ, i64_w, i32_w]
              rfl
             refine pure_ (i := 7) (N := some 49) (v := ?_) (a' := ?_) #[true, true, true, true, true, true, true, true, false, false, false, false] rfl rfl (any_of HT_.out (by kernel_rfl)) (fun _ _ _ h => h) (Or.inl ⟨by rfl, ?_⟩) ?_ ?_
             rotate_left
             ·intro w'
              go_simp
              with_reducible rfl
             rotate_left
             ·simp only [Act.put, List.setIfInBounds_toArray, List.set_cons_zero, List.set_cons_succ, i64_w, i32_w]
              rfl
             refine pure_ (i := 8) (N := some 50) (v := ?_) (a' := ?_) #[true, true, true, true, true, true, true, true, true, false, false, false] rfl rfl (any_of HT_.out (by kernel_rfl)) (fun _ _ _ h => h) (Or.inl ⟨by rfl, ?_⟩) ?_ ?_
             rotate_left
             ·intro w'
              go_simp
              with_reducible rfl
             rotate_left
             ·simp only [Act.put, List.setIfInBounds_toArray, List.set_cons_zero, List.set_cons_succ, i64_w, i32_w]
              rfl
             refine pure_ (i := 9) (N := some 51) (v := ?_) (a' := ?_) #[true, true, true, true, true, true, true, true, true, true, false, false] rfl rfl (any_of HT_.out (by kernel_rfl)) (fun _ _ _ h => h) (Or.inl ⟨by rfl, ?_⟩) ?_ ?_
             rotate_left
             ·intro w'
              go_simp
              with_reducible rfl
             rotate_left
             ·simp only [Act.put, List.setIfInBounds_toArray, List.set_cons_zero, List.set_cons_succ, i64_w, i32_w]
              rfl
             refine last_ (i := 10) (N := none) #[true, true, true, true, true, true, true, true, true, true, true, false] rfl rfl (one_of HT_.out (by kernel_rfl)) (by decide) (fun K hK => ?_)
             have hs32 : w30.cell? ⟨gb124, 0, none⟩ = some (.int .i64 x125000_1) := (blk_cell BK124.out 0).trans rfl
             have hfs32 := blk_frozen BK124.out 0
             have hs33 : w30.cell? ⟨gb124, 1, none⟩ = some (.string x125001_1) := (blk_cell BK124.out 1).trans rfl
             have hfs33 := blk_frozen BK124.out 1
             have hs34 : w30.cell? ⟨gb124, 2, none⟩ = some (.int .i64 x125002_1) := (blk_cell BK124.out 2).trans rfl
             have hfs34 := blk_frozen BK124.out 2
             have hs35 : w30.cell? ⟨gb124, 3, none⟩ = some (.int .i64 x125003_1) := (blk_cell BK124.out 3).trans rfl
             have hfs35 := blk_frozen BK124.out 3
             have hs36 : w30.cell? ⟨gb124, 4, none⟩ = some (.int .u64 x125004_1) := (blk_cell BK124.out 4).trans rfl
             have hfs36 := blk_frozen BK124.out 4
             have hs37 : w30.cell? ⟨gb124, 5, none⟩ = some (.string x125005_1) := (blk_cell BK124.out 5).trans rfl
             have hfs37 := blk_frozen BK124.out 5
             have hs38 : w30.cell? ⟨gb124, 6, none⟩ = some (.int .i64 x125006_1) := (blk_cell BK124.out 6).trans rfl
             have hfs38 := blk_frozen BK124.out 6
             refine skip_ (w1 := ?_) (by rfl) rfl ?_ ?_
             rotate_left
             ·go_simp
              rfl
             refine hK.out _ _ ?_
             clear hK K
             refine pure_ (i := 11) (N := some 3) (v := ?_) (a' := ?_) #[true, true, true, true, true, true, true, true, true, true, true, true] rfl rfl (any_of HT_.out (by kernel_rfl)) (fun _ _ _ h => h) (Or.inl ⟨by rfl, ?_⟩) ?_ ?_
             rotate_left
             ·intro w'
              go_simp
              with_reducible rfl
             rotate_left
             ·simp only [Act.put, List.setIfInBounds_toArray, List.set_cons_zero, List.set_cons_succ, i64_w, i32_w]
              rfl
             refine done_ (done_of HT_.out (by kernel_rfl)) ?_
             try go_wp2
             refine bodyPost_ret (results_ct rfl _ _ gb124 39 #[.int .i64 3, .string (a0.extract 0 ((ji26) : Int).toNat), .int .i64 5, .int .i64 0, .int .u64 0, .string (strOfNums x4_1), .int .i64 0] (0, 0) _ rfl (by (with_reducible repeat (first | refine blk_drewN ?_ _ | refine blk_drew ?_ | refine blk_alloc ?_ _)); refine blk_put (cs := #[.int .i64 3, .string (a0.extract 0 ((ji26) : Int).toNat), .int .i64 5, .int .i64 0, .int .u64 0, .string (strOfNums x4_1), .int .i64 x125006_1]) ?_ 6 _ rfl; (with_reducible repeat (first | refine blk_drewN ?_ _ | refine blk_drew ?_ | refine blk_alloc ?_ _)); refine blk_put (cs := #[.int .i64 3, .string (a0.extract 0 ((ji26) : Int).toNat), .int .i64 5, .int .i64 0, .int .u64 0, .string x125005_1, .int .i64 x125006_1]) ?_ 5 _ rfl; (with_reducible repeat (first | refine blk_drewN ?_ _ | refine blk_drew ?_ | refine blk_alloc ?_ _)); refine blk_put (cs := #[.int .i64 3, .string (a0.extract 0 ((ji26) : Int).toNat), .int .i64 5, .int .i64 0, .int .u64 x125004_1, .string x125005_1, .int .i64 x125006_1]) ?_ 4 _ rfl; (with_reducible repeat (first | refine blk_drewN ?_ _ | refine blk_drew ?_ | refine blk_alloc ?_ _)); refine blk_put (cs := #[.int .i64 3, .string (a0.extract 0 ((ji26) : Int).toNat), .int .i64 5, .int .i64 x125003_1, .int .u64 x125004_1, .string x125005_1, .int .i64 x125006_1]) ?_ 3 _ rfl; (with_reducible repeat (first | refine blk_drewN ?_ _ | refine blk_drew ?_ | refine blk_alloc ?_ _)); refine blk_put (cs := #[.int .i64 3, .string (a0.extract 0 ((ji26) : Int).toNat), .int .i64 x125002_1, .int .i64 x125003_1, .int .u64 x125004_1, .string x125005_1, .int .i64 x125006_1]) ?_ 2 _ rfl; (with_reducible repeat (first | refine blk_drewN ?_ _ | refine blk_drew ?_ | refine blk_alloc ?_ _)); refine blk_put (cs := #[.int .i64 3, .string x125001_1, .int .i64 x125002_1, .int .i64 x125003_1, .int .u64 x125004_1, .string x125005_1, .int .i64 x125006_1]) ?_ 1 _ rfl; (with_reducible repeat (first | refine blk_drewN ?_ _ | refine blk_drew ?_ | refine blk_alloc ?_ _)); refine blk_put (cs := #[.int .i64 x125000_1, .string x125001_1, .int .i64 x125002_1, .int .i64 x125003_1, .int .u64 x125004_1, .string x125005_1, .int .i64 x125006_1]) ?_ 0 _ rfl; (with_reducible repeat (first | refine blk_drewN ?_ _ | refine blk_drew ?_ | refine blk_alloc ?_ _)); exact BK124.out) Tryd.underlying39 rfl (by kernel_rfl)) rfl ?_
             exact ⟨by first | rfl | (simp [errW_none, errW_some] <;> rfl) | (simp only [← hji26]; first | rfl | (simp [errW_none, errW_some] <;> rfl)) | (simp [*, errW_none, errW_some] <;> rfl), by repeat (first | (with_reducible first | exact HB.out | apply below_alloc | apply pw_below_drewN | apply below_drew1 | refine below_set ?_ GE124.out) | exact HB.out)⟩
            ·rw [if_neg c28] at H
             exact absurd H (by simp)
           ·rw [if_neg c27] at H
            exact absurd H (by simp)
         ·rw [if_neg c22] at H
          have c22b0 : ((bt a0 x5_1) == 39) = false := beq_eq_false_iff_ne.mpr c22
          have c22b1 : ((bt a0 x5_1) != 39) = true := bne_iff_ne.mpr c22
          by_cases c40 : (bt a0 x5_1) < 32
          ·rw [if_pos c40] at H
           have c40b0 : decide ((bt a0 x5_1) < 32) = true := decide_eq_true c40
           clear c40
           simp only [Option.some.injEq, Prod.mk.injEq] at H
           obtain ⟨rfl, rfl, rfl, rfl, rfl, rfl, rfl, rfl⟩ := H
           have p21 : 0 ≤ (x5_1 : Int) := of_decide_eq_true (by first | (with_reducible assumption) | assumption)
           have q21 : x5_1 < (a0.size : Int) := of_decide_eq_true (by first | (with_reducible assumption) | assumption)
           have hx21 := bt_at a0 x5_1
           replace p21 := eq_true p21
           replace q21 := eq_true q21
           have p39 : 0 ≤ (x5_1 : Int) := of_decide_eq_true (by first | (with_reducible assumption) | assumption)
           have q39 : x5_1 < (a0.size : Int) := of_decide_eq_true (by first | (with_reducible assumption) | assumption)
           have hx39 := bt_at a0 x5_1
           replace p39 := eq_true p39
           replace q39 := eq_true q39
           have hcz41_0 : wc.cell? ⟨gb124, 0, none⟩ = some (.int .i64 x125000_1) := (blk_cell BK124.out 0).trans rfl
           have hcz41_1 : wc.cell? ⟨gb124, 1, none⟩ = some (.string x125001_1) := (blk_cell BK124.out 1).trans rfl
           have hcz41_2 : wc.cell? ⟨gb124, 2, none⟩ = some (.int .i64 x125002_1) := (blk_cell BK124.out 2).trans rfl
           have hcz41_3 : wc.cell? ⟨gb124, 3, none⟩ = some (.int .i64 x125003_1) := (blk_cell BK124.out 3).trans rfl
           have hcz41_4 : wc.cell? ⟨gb124, 4, none⟩ = some (.int .u64 x125004_1) := (blk_cell BK124.out 4).trans rfl
           have hcz41_5 : wc.cell? ⟨gb124, 5, none⟩ = some (.string x125005_1) := (blk_cell BK124.out 5).trans rfl
           have hcz41_6 : wc.cell? ⟨gb124, 6, none⟩ = some (.int .i64 x125006_1) := (blk_cell BK124.out 6).trans rfl
           have hfz41_0 := blk_frozen BK124.out 0
           have hfz41_1 := blk_frozen BK124.out 1
           have hfz41_2 := blk_frozen BK124.out 2
           have hfz41_3 := blk_frozen BK124.out 3
           have hfz41_4 := blk_frozen BK124.out 4
           have hfz41_5 := blk_frozen BK124.out 5
           have hfz41_6 := blk_frozen BK124.out 6
           go_wp2
           refine bodyPost_ret (results_ct rfl _ _ gb124 39 #[.int .i64 0, .string (⟨#[]⟩ : ByteArray), .int .i64 0, .int .i64 0, .int .u64 0, .string (⟨#[]⟩ : ByteArray), .int .i64 0] (0, 0) _ rfl (by (with_reducible repeat (first | refine blk_drewN ?_ _ | refine blk_drew ?_ | refine blk_alloc ?_ _)); refine blk_put (cs := #[.int .i64 0, .string (⟨#[]⟩ : ByteArray), .int .i64 0, .int .i64 0, .int .u64 0, .string (⟨#[]⟩ : ByteArray), .int .i64 x125006_1]) ?_ 6 _ rfl; (with_reducible repeat (first | refine blk_drewN ?_ _ | refine blk_drew ?_ | refine blk_alloc ?_ _)); refine blk_put (cs := #[.int .i64 0, .string (⟨#[]⟩ : ByteArray), .int .i64 0, .int .i64 0, .int .u64 0, .string x125005_1, .int .i64 x125006_1]) ?_ 5 _ rfl; (with_reducible repeat (first | refine blk_drewN ?_ _ | refine blk_drew ?_ | refine blk_alloc ?_ _)); refine blk_put (cs := #[.int .i64 0, .string (⟨#[]⟩ : ByteArray), .int .i64 0, .int .i64 0, .int .u64 x125004_1, .string x125005_1, .int .i64 x125006_1]) ?_ 4 _ rfl; (with_reducible repeat (first | refine blk_drewN ?_ _ | refine blk_drew ?_ | refine blk_alloc ?_ _)); refine blk_put (cs := #[.int .i64 0, .string (⟨#[]⟩ : ByteArray), .int .i64 0, .int .i64 x125003_1, .int .u64 x125004_1, .string x125005_1, .int .i64 x125006_1]) ?_ 3 _ rfl; (with_reducible repeat (first | refine blk_drewN ?_ _ | refine blk_drew ?_ | refine blk_alloc ?_ _)); refine blk_put (cs := #[.int .i64 0, .string (⟨#[]⟩ : ByteArray), .int .i64 x125002_1, .int .i64 x125003_1, .int .u64 x125004_1, .string x125005_1, .int .i64 x125006_1]) ?_ 2 _ rfl; (with_reducible repeat (first | refine blk_drewN ?_ _ | refine blk_drew ?_ | refine blk_alloc ?_ _)); refine blk_put (cs := #[.int .i64 0, .string x125001_1, .int .i64 x125002_1, .int .i64 x125003_1, .int .u64 x125004_1, .string x125005_1, .int .i64 x125006_1]) ?_ 1 _ rfl; (with_reducible repeat (first | refine blk_drewN ?_ _ | refine blk_drew ?_ | refine blk_alloc ?_ _)); refine blk_put (cs := #[.int .i64 x125000_1, .string x125001_1, .int .i64 x125002_1, .int .i64 x125003_1, .int .u64 x125004_1, .string x125005_1, .int .i64 x125006_1]) ?_ 0 _ rfl; (with_reducible repeat (first | refine blk_drewN ?_ _ | refine blk_drew ?_ | refine blk_alloc ?_ _)); exact BK124.out) Tryd.underlying39 rfl (by kernel_rfl)) rfl ?_
           exact ⟨by first | rfl | (simp [errW_none, errW_some] <;> rfl) | (simp [*, errW_none, errW_some] <;> rfl), by repeat (first | (with_reducible first | exact HB.out | apply below_alloc | apply pw_below_drewN | apply below_drew1 | refine below_set ?_ GE124.out) | exact HB.out)⟩
          ·rw [if_neg c40] at H
           have c40b0 : decide ((bt a0 x5_1) < 32) = false := decide_eq_false c40
           clear c40
           by_cases c43 : (bt a0 x5_1) > 126
           ·rw [if_pos c43] at H
            have c43b0 : decide (126 < (bt a0 x5_1)) = true := decide_eq_true c43
            clear c43
            simp only [Option.some.injEq, Prod.mk.injEq] at H
            obtain ⟨rfl, rfl, rfl, rfl, rfl, rfl, rfl, rfl⟩ := H
            have p21 : 0 ≤ (x5_1 : Int) := of_decide_eq_true (by first | (with_reducible assumption) | assumption)
            have q21 : x5_1 < (a0.size : Int) := of_decide_eq_true (by first | (with_reducible assumption) | assumption)
            have hx21 := bt_at a0 x5_1
            replace p21 := eq_true p21
            replace q21 := eq_true q21
            have p39 : 0 ≤ (x5_1 : Int) := of_decide_eq_true (by first | (with_reducible assumption) | assumption)
            have q39 : x5_1 < (a0.size : Int) := of_decide_eq_true (by first | (with_reducible assumption) | assumption)
            have hx39 := bt_at a0 x5_1
            replace p39 := eq_true p39
            replace q39 := eq_true q39
            have p42 : 0 ≤ (x5_1 : Int) := of_decide_eq_true (by first | (with_reducible assumption) | assumption)
            have q42 : x5_1 < (a0.size : Int) := of_decide_eq_true (by first | (with_reducible assumption) | assumption)
            have hx42 := bt_at a0 x5_1
            replace p42 := eq_true p42
            replace q42 := eq_true q42
            have hcz44_0 : wc.cell? ⟨gb124, 0, none⟩ = some (.int .i64 x125000_1) := (blk_cell BK124.out 0).trans rfl
            have hcz44_1 : wc.cell? ⟨gb124, 1, none⟩ = some (.string x125001_1) := (blk_cell BK124.out 1).trans rfl
            have hcz44_2 : wc.cell? ⟨gb124, 2, none⟩ = some (.int .i64 x125002_1) := (blk_cell BK124.out 2).trans rfl
            have hcz44_3 : wc.cell? ⟨gb124, 3, none⟩ = some (.int .i64 x125003_1) := (blk_cell BK124.out 3).trans rfl
            have hcz44_4 : wc.cell? ⟨gb124, 4, none⟩ = some (.int .u64 x125004_1) := (blk_cell BK124.out 4).trans rfl
            have hcz44_5 : wc.cell? ⟨gb124, 5, none⟩ = some (.string x125005_1) := (blk_cell BK124.out 5).trans rfl
            have hcz44_6 : wc.cell? ⟨gb124, 6, none⟩ = some (.int .i64 x125006_1) := (blk_cell BK124.out 6).trans rfl
            have hfz44_0 := blk_frozen BK124.out 0
            have hfz44_1 := blk_frozen BK124.out 1
            have hfz44_2 := blk_frozen BK124.out 2
            have hfz44_3 := blk_frozen BK124.out 3
            have hfz44_4 := blk_frozen BK124.out 4
            have hfz44_5 := blk_frozen BK124.out 5
            have hfz44_6 := blk_frozen BK124.out 6
            go_wp2
            refine bodyPost_ret (results_ct rfl _ _ gb124 39 #[.int .i64 0, .string (⟨#[]⟩ : ByteArray), .int .i64 0, .int .i64 0, .int .u64 0, .string (⟨#[]⟩ : ByteArray), .int .i64 0] (0, 0) _ rfl (by (with_reducible repeat (first | refine blk_drewN ?_ _ | refine blk_drew ?_ | refine blk_alloc ?_ _)); refine blk_put (cs := #[.int .i64 0, .string (⟨#[]⟩ : ByteArray), .int .i64 0, .int .i64 0, .int .u64 0, .string (⟨#[]⟩ : ByteArray), .int .i64 x125006_1]) ?_ 6 _ rfl; (with_reducible repeat (first | refine blk_drewN ?_ _ | refine blk_drew ?_ | refine blk_alloc ?_ _)); refine blk_put (cs := #[.int .i64 0, .string (⟨#[]⟩ : ByteArray), .int .i64 0, .int .i64 0, .int .u64 0, .string x125005_1, .int .i64 x125006_1]) ?_ 5 _ rfl; (with_reducible repeat (first | refine blk_drewN ?_ _ | refine blk_drew ?_ | refine blk_alloc ?_ _)); refine blk_put (cs := #[.int .i64 0, .string (⟨#[]⟩ : ByteArray), .int .i64 0, .int .i64 0, .int .u64 x125004_1, .string x125005_1, .int .i64 x125006_1]) ?_ 4 _ rfl; (with_reducible repeat (first | refine blk_drewN ?_ _ | refine blk_drew ?_ | refine blk_alloc ?_ _)); refine blk_put (cs := #[.int .i64 0, .string (⟨#[]⟩ : ByteArray), .int .i64 0, .int .i64 x125003_1, .int .u64 x125004_1, .string x125005_1, .int .i64 x125006_1]) ?_ 3 _ rfl; (with_reducible repeat (first | refine blk_drewN ?_ _ | refine blk_drew ?_ | refine blk_alloc ?_ _)); refine blk_put (cs := #[.int .i64 0, .string (⟨#[]⟩ : ByteArray), .int .i64 x125002_1, .int .i64 x125003_1, .int .u64 x125004_1, .string x125005_1, .int .i64 x125006_1]) ?_ 2 _ rfl; (with_reducible repeat (first | refine blk_drewN ?_ _ | refine blk_drew ?_ | refine blk_alloc ?_ _)); refine blk_put (cs := #[.int .i64 0, .string x125001_1, .int .i64 x125002_1, .int .i64 x125003_1, .int .u64 x125004_1, .string x125005_1, .int .i64 x125006_1]) ?_ 1 _ rfl; (with_reducible repeat (first | refine blk_drewN ?_ _ | refine blk_drew ?_ | refine blk_alloc ?_ _)); refine blk_put (cs := #[.int .i64 x125000_1, .string x125001_1, .int .i64 x125002_1, .int .i64 x125003_1, .int .u64 x125004_1, .string x125005_1, .int .i64 x125006_1]) ?_ 0 _ rfl; (with_reducible repeat (first | refine blk_drewN ?_ _ | refine blk_drew ?_ | refine blk_alloc ?_ _)); exact BK124.out) Tryd.underlying39 rfl (by kernel_rfl)) rfl ?_
            exact ⟨by first | rfl | (simp [errW_none, errW_some] <;> rfl) | (simp [*, errW_none, errW_some] <;> rfl), by repeat (first | (with_reducible first | exact HB.out | apply below_alloc | apply pw_below_drewN | apply below_drew1 | refine below_set ?_ GE124.out) | exact HB.out)⟩
           ·rw [if_neg c43] at H
            have c43b0 : decide (126 < (bt a0 x5_1)) = false := decide_eq_false c43
            clear c43
            by_cases c46 : x4_1.length < 140737488355328
            ·rw [if_pos c46] at H
             have LMc46 := Aside0.mk c46
             clear c46
             obtain ⟨y128, hy128⟩ : ∃ y_ : List Int, y_ = (x4_1 ++ [bt a0 x5_1]) := ⟨_, rfl⟩
             replace H : (lex_text.l0 kj3 a0 y128 (wrap64 (x5_1 + 1))) = some (r1, r2, r3, r4, r5, r6, r7, r8) := by first | (rw [hy128]; with_reducible exact H) | (have H2_ := (Option.bind_some _ _).symm.trans H; rw [hy128]; with_reducible exact H2_) | (have H2_ := (Option.bind_some _ _).symm.trans H; with_reducible exact H2_) | with_reducible exact H | (rw [hy128]; exact H) | exact H
             have Ny128 := Aside0.mk hy128
             clear hy128
             have H' := Aside0.mk H
             clear H
             have p21 : 0 ≤ (x5_1 : Int) := of_decide_eq_true (by first | (with_reducible assumption) | assumption)
             have q21 : x5_1 < (a0.size : Int) := of_decide_eq_true (by first | (with_reducible assumption) | assumption)
             have hx21 := bt_at a0 x5_1
             replace p21 := eq_true p21
             replace q21 := eq_true q21
             have p39 : 0 ≤ (x5_1 : Int) := of_decide_eq_true (by first | (with_reducible assumption) | assumption)
             have q39 : x5_1 < (a0.size : Int) := of_decide_eq_true (by first | (with_reducible assumption) | assumption)
             have hx39 := bt_at a0 x5_1
             replace p39 := eq_true p39
             replace q39 := eq_true q39
             have p42 : 0 ≤ (x5_1 : Int) := of_decide_eq_true (by first | (with_reducible assumption) | assumption)
             have q42 : x5_1 < (a0.size : Int) := of_decide_eq_true (by first | (with_reducible assumption) | assumption)
             have hx42 := bt_at a0 x5_1
             replace p42 := eq_true p42
             replace q42 := eq_true q42
             have p45 : 0 ≤ (x5_1 : Int) := of_decide_eq_true (by first | (with_reducible assumption) | assumption)
             have q45 : x5_1 < (a0.size : Int) := of_decide_eq_true (by first | (with_reducible assumption) | assumption)
             have hx45 := bt_at a0 x5_1
             replace p45 := eq_true p45
             replace q45 := eq_true q45
             go_wp2_with (first | ((with_reducible refine gate_builtin (b := .append) (xs := #[.tmp 64, .tmp 68]) rfl ?_); (try (refine gate_guard (by rfl) ?_; dsimp only)); at_builtin; refine Kd.R_append (Kd.int .u8) (w0 := w) w.heap.size rfl (.tmp 64) (.tmp 68) 34 5 (.int .u8 0) 1 rfl Tryd.underlying34 info5 rfl (by decide) (by omega) u4 x4_1 (bt a0 x5_1) [.int .u8 (bt a0 x5_1)] (fun _ => True) (fun _ => False) rfl rfl ?aP (fun _ hk => hk.elim) ?aF ?aO ?aB ?aS ?aL ?_; (case aP => exact rfl); (case aB => exact (by repeat (first | (with_reducible first | exact HB.out | apply below_alloc | apply pw_below_drewN | apply below_drew1 | refine below_set ?_ GE124.out) | exact HB.out))); (case aF => exact (fun _ _ => trivial)); (case aO => exact (by (with_reducible repeat (first | apply Kd.R_alloc | apply Kd.R_drewN | apply Kd.R_drew)); exact HO_4.out)); (case aS => exact (below_size (by repeat (first | (with_reducible first | exact HB.out | apply below_alloc | apply pw_below_drewN | apply below_drew1 | refine below_set ?_ GE124.out) | exact HB.out)))); (case aL => have := LMc46.out; omega); intro v129 w47 ho hb hg hat; rw [← Ny128.out] at ho; have n0_ := Aside0.mk (blk_grown (g := gb124) (o := .cells #[.int .i64 x125000_1, .string x125001_1, .int .i64 x125002_1, .int .i64 x125003_1, .int .u64 x125004_1, .string x125005_1, .int .i64 x125006_1] 39 (0, 0)) (by (with_reducible repeat (first | refine blk_drewN ?_ _ | refine blk_drew ?_ | refine blk_alloc ?_ _)); exact BK124.out) hg (Kd.R_ne HO_4.out BK124.out (by decide))); have n1_ := Aside0.mk (hb); have n2_ := Aside0.mk (ho); clear BK124; clear HB; clear HO_4; have BK124 := n0_; have HB := n1_; have HO130 := n2_; clear n0_ n1_ n2_; clear ho hb hg hat))
             go_roundg kj3
             case measure => have := HK1.out; have := HJ3.out; omega
             case rel => exact ⟨(y128), (wrap64 (x5_1 + 1)), (x125000_1), (x125001_1), (x125002_1), (x125003_1), (x125004_1), (x125005_1), (x125006_1), (by first | rfl | (simp; done) | (simp [*]; done)), H', ⟨by have := HK1.out; have := HJ3.out; omega⟩, ⟨by (with_reducible repeat (first | apply Kd.R_alloc | apply Kd.R_drewN | apply Kd.R_drew)); exact HO130.out⟩, ⟨by (with_reducible repeat (first | refine blk_drewN ?_ _ | refine blk_drew ?_ | refine blk_alloc ?_ _)); exact BK124.out⟩, ⟨by repeat (first | (with_reducible first | exact HB.out | apply below_alloc | apply pw_below_drewN | apply below_drew1 | refine below_set ?_ GE124.out) | exact HB.out)⟩⟩
            ·rw [if_neg c46] at H
             exact absurd H (by simp)
        ·rw [if_neg c20] at H
         exact absurd H (by simp)
       ·rw [if_neg c19] at H
        exact absurd H (by simp)
   ·rw [if_neg c3] at H
    have c3b0 : decide (x5_1 < (a0.size : Int)) = false := decide_eq_false c3
    clear c3
    simp only [Option.some.injEq, Prod.mk.injEq] at H
    obtain ⟨rfl, rfl, rfl, rfl, rfl, rfl, rfl, rfl⟩ := H
    have hcz48_0 : wr.cell? ⟨gb124, 0, none⟩ = some (.int .i64 x125000_1) := (blk_cell BK124.out 0).trans rfl
    have hcz48_1 : wr.cell? ⟨gb124, 1, none⟩ = some (.string x125001_1) := (blk_cell BK124.out 1).trans rfl
    have hcz48_2 : wr.cell? ⟨gb124, 2, none⟩ = some (.int .i64 x125002_1) := (blk_cell BK124.out 2).trans rfl
    have hcz48_3 : wr.cell? ⟨gb124, 3, none⟩ = some (.int .i64 x125003_1) := (blk_cell BK124.out 3).trans rfl
    have hcz48_4 : wr.cell? ⟨gb124, 4, none⟩ = some (.int .u64 x125004_1) := (blk_cell BK124.out 4).trans rfl
    have hcz48_5 : wr.cell? ⟨gb124, 5, none⟩ = some (.string x125005_1) := (blk_cell BK124.out 5).trans rfl
    have hcz48_6 : wr.cell? ⟨gb124, 6, none⟩ = some (.int .i64 x125006_1) := (blk_cell BK124.out 6).trans rfl
    have hfz48_0 := blk_frozen BK124.out 0
    have hfz48_1 := blk_frozen BK124.out 1
    have hfz48_2 := blk_frozen BK124.out 2
    have hfz48_3 := blk_frozen BK124.out 3
    have hfz48_4 := blk_frozen BK124.out 4
    have hfz48_5 := blk_frozen BK124.out 5
    have hfz48_6 := blk_frozen BK124.out 6
    go_wp2
    refine bodyPost_ret (results_ct rfl _ _ gb124 39 #[.int .i64 0, .string (⟨#[]⟩ : ByteArray), .int .i64 0, .int .i64 0, .int .u64 0, .string (⟨#[]⟩ : ByteArray), .int .i64 0] (0, 0) _ rfl (by (with_reducible repeat (first | refine blk_drewN ?_ _ | refine blk_drew ?_ | refine blk_alloc ?_ _)); refine blk_put (cs := #[.int .i64 0, .string (⟨#[]⟩ : ByteArray), .int .i64 0, .int .i64 0, .int .u64 0, .string (⟨#[]⟩ : ByteArray), .int .i64 x125006_1]) ?_ 6 _ rfl; (with_reducible repeat (first | refine blk_drewN ?_ _ | refine blk_drew ?_ | refine blk_alloc ?_ _)); refine blk_put (cs := #[.int .i64 0, .string (⟨#[]⟩ : ByteArray), .int .i64 0, .int .i64 0, .int .u64 0, .string x125005_1, .int .i64 x125006_1]) ?_ 5 _ rfl; (with_reducible repeat (first | refine blk_drewN ?_ _ | refine blk_drew ?_ | refine blk_alloc ?_ _)); refine blk_put (cs := #[.int .i64 0, .string (⟨#[]⟩ : ByteArray), .int .i64 0, .int .i64 0, .int .u64 x125004_1, .string x125005_1, .int .i64 x125006_1]) ?_ 4 _ rfl; (with_reducible repeat (first | refine blk_drewN ?_ _ | refine blk_drew ?_ | refine blk_alloc ?_ _)); refine blk_put (cs := #[.int .i64 0, .string (⟨#[]⟩ : ByteArray), .int .i64 0, .int .i64 x125003_1, .int .u64 x125004_1, .string x125005_1, .int .i64 x125006_1]) ?_ 3 _ rfl; (with_reducible repeat (first | refine blk_drewN ?_ _ | refine blk_drew ?_ | refine blk_alloc ?_ _)); refine blk_put (cs := #[.int .i64 0, .string (⟨#[]⟩ : ByteArray), .int .i64 x125002_1, .int .i64 x125003_1, .int .u64 x125004_1, .string x125005_1, .int .i64 x125006_1]) ?_ 2 _ rfl; (with_reducible repeat (first | refine blk_drewN ?_ _ | refine blk_drew ?_ | refine blk_alloc ?_ _)); refine blk_put (cs := #[.int .i64 0, .string x125001_1, .int .i64 x125002_1, .int .i64 x125003_1, .int .u64 x125004_1, .string x125005_1, .int .i64 x125006_1]) ?_ 1 _ rfl; (with_reducible repeat (first | refine blk_drewN ?_ _ | refine blk_drew ?_ | refine blk_alloc ?_ _)); refine blk_put (cs := #[.int .i64 x125000_1, .string x125001_1, .int .i64 x125002_1, .int .i64 x125003_1, .int .u64 x125004_1, .string x125005_1, .int .i64 x125006_1]) ?_ 0 _ rfl; (with_reducible repeat (first | refine blk_drewN ?_ _ | refine blk_drew ?_ | refine blk_alloc ?_ _)); exact BK124.out) Tryd.underlying39 rfl (by kernel_rfl)) rfl ?_
    exact ⟨by first | rfl | (simp [errW_none, errW_some] <;> rfl) | (simp [*, errW_none, errW_some] <;> rfl), by repeat (first | (with_reducible first | exact HB.out | apply below_alloc | apply pw_below_drewN | apply below_drew1 | refine below_set ?_ GE124.out) | exact HB.out)⟩
end Go.Proofs.YtjehfmimbbdnkaaDoor.L
namespace Go.Proofs.YtjehfmimbbdnkaaDoor
open Go.RowKit Go.Proofs.YtjehfmimbbdnkaaDoorW.PrintWords
def strings_IndexByte.f (a0 : ByteArray) (a1 : Int) : Option Int := some (Lib.indexByte a0.data.toList a1.toNat.toUInt8)
theorem strings_IndexByte.calls (a0 : ByteArray) (a1 : Int) (r : Int) (w : World) (h : strings_IndexByte.f a0 a1 = some r) :
    Calls Tryd.prog 32 #[.string a0, .int .u8 a1] w fun e w' => e = .returned (.int .i64 r) ∧ Drawn0 w w' := by
  obtain rfl := Option.some.inj h
  refine (Tryd.strings_IndexByte a0 a1 w).mono ?_
  rintro e w' ⟨rfl, rfl⟩
  exact ⟨rfl, Drawn0.refl _⟩
end Go.Proofs.YtjehfmimbbdnkaaDoor
namespace Go.Proofs.YtjehfmimbbdnkaaDoor
open Go.RowKit Go.Proofs.YtjehfmimbbdnkaaDoorW.PrintWords Go.Proofs.YtjehfmimbbdnkaaDoorW.PrintLast
theorem pint_ok (s : ByteArray) (hs : s.size ≤ 281474976710656) (v : Int) (h : Lib.parseIntB 64 s.data.toList = .ok v) (w : World) :
  Calls Tryd.prog 47 #[.string s, .int .i64 10, .int .i64 64] w fun e w' => e = .returned (.tuple #[.int .i64 v, .nilIface]) ∧ Below w.heap.size w w' := by
 refine (Tryd.strconv_ParseInt_10_at64_ok s (by omega) v h w).mono ?_
 rintro e w' ⟨rfl, hw | ⟨t, hw⟩⟩
 ·exact ⟨rfl, hw ▸ Below.refl _ _⟩
 ·exact ⟨rfl, hw ▸ Lib.bytesWorld_below _ _ _⟩
theorem pint_bad (s : ByteArray) (hs : s.size ≤ 281474976710656) (h : ∀ v, Lib.parseIntB 64 s.data.toList ≠ .ok v) (w : World) (hG : GL w) :
  Calls Tryd.prog 47 #[.string s, .int .i64 10, .int .i64 64] w fun e w' => ∃ v te pe, e = .returned (.tuple #[.int .i64 v, .iface te pe]) ∧ Below w.heap.size w w' := by
 cases hp : Lib.parseIntB 64 s.data.toList with
 | ok v => exact absurd hp (h v)
 | range =>
  obtain ⟨ev, hc, he⟩ := hG.rng
  refine (Tryd.strconv_ParseInt_10_at64_range s hs hp ev w hc he).mono ?_
  rintro e w' ⟨N, rfl, _, _, hb⟩
  exact ⟨_, _, _, rfl, hb⟩
 | _ =>
  obtain ⟨ev, hc, he⟩ := hG.syn
  refine (Tryd.strconv_ParseInt_10_at64_syntax s hs (by rw [hp]; rfl) ev w hc he).mono ?_
  rintro e w' ⟨N, rfl, _, _, hb⟩
  exact ⟨_, _, _, rfl, hb⟩
abbrev Tok8 := Int × ByteArray × Int × Int × Int × ByteArray × Int × Int
def tokNone : Tok8 := (0, ⟨#[]⟩, 0, 0, 0, ⟨#[]⟩, 0, 0)
def tokCells (r : Tok8) : Array Value := #[.int .i64 r.1, .string r.2.1, .int .i64 r.2.2.1, .int .i64 r.2.2.2.1, .int .u64 r.2.2.2.2.1, .string r.2.2.2.2.2.1, .int .i64 r.2.2.2.2.2.2.1]
def tokV (r : Tok8) : Value := .tuple #[.agg (tokCells r), .int .i64 r.2.2.2.2.2.2.2]
def byteAt (s : ByteArray) (k : Nat) : UInt8 := s.data.toList.getD k 0
theorem byteAt_eq (s : ByteArray) (k : Nat) (h : k < s.size) : s[k] = byteAt s k := by
 unfold byteAt
 rw [List.getD_eq_getElem?_getD, List.getElem?_eq_getElem (by simpa using h)]
 rfl
def numAt (s : ByteArray) : Nat := if byteAt s 0 = 45 then 1 else 0
def numN (s : ByteArray) : Nat := headLen isDig (s.extract (numAt s) s.size)
def numBad (s : ByteArray) (at_ n : Nat) : Bool :=
 n == 0 || ((byteAt s at_ == 48 && (decide (1 < n) || at_ == 1)) || (decide (at_ + n < s.size) && (isLow (byteAt s (at_ + n)) || byteAt s (at_ + n) == 95)))
def numR (s : ByteArray) : Tok8 :=
 match Lib.parseIntB 64 (s.extract 0 (numAt s + numN s)).data.toList with
 | .ok v => if numBad s (numAt s) (numN s) = true then tokNone else (3, s.extract 0 (numAt s + numN s), 2, v, 0, ⟨#[]⟩, 0, ((numAt s + numN s : Nat) : Int))
 | _ => tokNone
theorem headLen_le (p : UInt8 → Bool) (s : ByteArray) : headLen p s ≤ s.size := by
 unfold headLen
 have h := (List.takeWhile_prefix p (l := s.data.toList)).length_le
 simpa using h
theorem numN_le (s : ByteArray) (h : numAt s ≤ s.size) : numAt s + numN s ≤ s.size := by
 have h1 := headLen_le isDig (s.extract (numAt s) s.size)
 have h2 : (s.extract (numAt s) s.size).size = s.size - numAt s := by simp
 unfold numN
 omega
theorem ext_at (s : ByteArray) (k : Nat) (h : k < s.size) : byteAt (s.extract k s.size) 0 = byteAt s k := by
 have h1 : 0 < (s.extract k s.size).size := by simp; omega
 rw [← byteAt_eq _ 0 h1, ← byteAt_eq _ k h]
 simp [ByteArray.getElem_extract]
theorem ext_size (s : ByteArray) (k : Nat) : (s.extract k s.size).size = s.size - k := by simp
theorem tok_set {w2 : World} {g : Nat} (hb : w2.heap[g]? = some (.cells #[.int .i64 0, .string ⟨#[]⟩, .int .i64 0, .int .i64 0, .int .u64 0, .string ⟨#[]⟩, .int .i64 0] 39 (0, 0))) (a b c d e f i : Value) :
  ((((((((w2.setCell ⟨g, 0, none⟩ a).setCell ⟨g, 1, none⟩ b).setCell ⟨g, 2, none⟩ c).setCell ⟨g, 3, none⟩ d).setCell ⟨g, 4, none⟩ e).setCell ⟨g, 5, none⟩ f).setCell ⟨g, 6, none⟩ i).heap[g]?) = some (.cells #[a, b, c, d, e, f, i] 39 (0, 0)) :=
 blk_put (blk_put (blk_put (blk_put (blk_put (blk_put (blk_put hb 0 a rfl) 1 b rfl) 2 c rfl) 3 d rfl) 4 e rfl) 5 f rfl) 6 i rfl
theorem tok_below {w w2 : World} (h : Below w.heap.size w w2) (a b c d e f i : Value) : Below w.heap.size w (((((((w2.setCell ⟨w.heap.size, 0, none⟩ a).setCell ⟨w.heap.size, 1, none⟩ b).setCell ⟨w.heap.size, 2, none⟩ c).setCell ⟨w.heap.size, 3, none⟩ d).setCell ⟨w.heap.size, 4, none⟩ e).setCell ⟨w.heap.size, 5, none⟩ f).setCell ⟨w.heap.size, 6, none⟩ i) :=
 below_set (below_set (below_set (below_set (below_set (below_set (below_set h (Nat.le_refl _)) (Nat.le_refl _)) (Nat.le_refl _)) (Nat.le_refl _)) (Nat.le_refl _)) (Nat.le_refl _)) (Nat.le_refl _)
theorem b_eq {x : UInt8} {k : Nat} (hk : k < 256) : ((x.toNat : Int) == (k : Int)) = (x == UInt8.ofNat k) := by
 rw [Bool.eq_iff_iff, beq_iff_eq, beq_iff_eq, ← UInt8.toNat_inj, UInt8.toNat_ofNat', Nat.mod_eq_of_lt hk]
 omega
set_option maxRecDepth 100000 in
set_option maxHeartbeats 4000000 in
theorem num_0_bad1 (s : ByteArray) (hs : s.size ≤ 1000) (h0 : 0 < s.size) (hat : numAt s = 0) (hm : (((s[0]'h0).toNat : Int) == 45) = false) (w : World) (hG : GL w) (n : Nat) (hn : numN s = n) (hle : 0 + n ≤ s.size) (hr : lex_run.f s 29 = some (n : Int)) (hp : ∀ v, Lib.parseIntB 64 (s.extract 0 n).data.toList ≠ .ok v) (b0 : ((n : Int) == 0) = true) :
  Calls Tryd.prog 30 #[.string s] w fun e w' => e = .returned (tokV (numR s)) ∧ Below w.heap.size w w' := by
 have h0i : (0 : Int) < (s.size : Int) := by omega
 have HR := Lib.hid hr
 have hts : (s.extract 0 n).size ≤ 281474976710656 := by simp; omega
 have HTS := Lib.hid hts
 have HG := Lib.hid hG
 rw [Nat.zero_add] at hle
 have hres : numR s = tokNone := by
  unfold numR
  rw [hat, hn]
  rw [Nat.zero_add]
  split
  ·rename_i v hv
   exact absurd hv (hp v)
  ·rfl
 have HRES := Lib.hid hres
 have HP := Lib.hid hp
 clear hr hts hG hn hat hres hp
 go_enter Tryd.func30, Tryd.ntmps30
 go_wp2_with fail
 refine (lex_run.calls _ 29 n _ HR.out).mono ?_
 rintro e w1 ⟨rfl, hd⟩
 obtain ⟨nd, rfl⟩ := hd.out
 clear hd
 go_wp2_with fail
 refine (pint_bad _ HTS.out HP.out _ (HG.out.of_below (pw_below_drewN (below_alloc (Below.refl _ _) _) _))).mono ?_
 rintro e w2 ⟨v, te, pe, rfl, hb2⟩
 have hbk := blk_below (blk_drewN (blk_new w (.cells #[.int .i64 0, .string ⟨#[]⟩, .int .i64 0, .int .i64 0, .int .u64 0, .string ⟨#[]⟩, .int .i64 0] 39)) nd) hb2
 have HB2 := Lib.hid (below_step (pw_below_drewN (below_alloc (Below.refl w.heap.size w) (.cells #[.int .i64 0, .string ⟨#[]⟩, .int .i64 0, .int .i64 0, .int .u64 0, .string ⟨#[]⟩, .int .i64 0] 39)) nd) hb2)
 have c0 : w2.cell? ⟨w.heap.size, 0, none⟩ = some (.int .i64 0) := (blk_cell hbk 0).trans rfl
 have f0 := blk_frozen hbk 0
 have c1 : w2.cell? ⟨w.heap.size, 1, none⟩ = some (.string ⟨#[]⟩) := (blk_cell hbk 1).trans rfl
 have f1 := blk_frozen hbk 1
 have c2 : w2.cell? ⟨w.heap.size, 2, none⟩ = some (.int .i64 0) := (blk_cell hbk 2).trans rfl
 have f2 := blk_frozen hbk 2
 have c3 : w2.cell? ⟨w.heap.size, 3, none⟩ = some (.int .i64 0) := (blk_cell hbk 3).trans rfl
 have f3 := blk_frozen hbk 3
 have c4 : w2.cell? ⟨w.heap.size, 4, none⟩ = some (.int .u64 0) := (blk_cell hbk 4).trans rfl
 have f4 := blk_frozen hbk 4
 have c5 : w2.cell? ⟨w.heap.size, 5, none⟩ = some (.string ⟨#[]⟩) := (blk_cell hbk 5).trans rfl
 have f5 := blk_frozen hbk 5
 have c6 : w2.cell? ⟨w.heap.size, 6, none⟩ = some (.int .i64 0) := (blk_cell hbk 6).trans rfl
 have f6 := blk_frozen hbk 6
 have HBK := Lib.hid hbk
 clear hbk hb2
 go_wp2
 refine bodyPost_ret (results_ct rfl _ _ w.heap.size 39 #[.int .i64 0, .string ⟨#[]⟩, .int .i64 0, .int .i64 0, .int .u64 0, .string ⟨#[]⟩, .int .i64 0] (0, 0) _ rfl (tok_set HBK.out (.int .i64 0) (.string ⟨#[]⟩) (.int .i64 0) (.int .i64 0) (.int .u64 0) (.string ⟨#[]⟩) (.int .i64 0)) Tryd.underlying39 rfl (by kernel_rfl)) rfl ⟨?_, ?_⟩
 ·rw [HRES.out]; rfl
 ·exact tok_below HB2.out _ _ _ _ _ _ _
set_option maxRecDepth 100000 in
set_option maxHeartbeats 4000000 in
theorem num_0_bad0 (s : ByteArray) (hs : s.size ≤ 1000) (h0 : 0 < s.size) (hat : numAt s = 0) (hm : (((s[0]'h0).toNat : Int) == 45) = false) (w : World) (hG : GL w) (n : Nat) (hn : numN s = n) (hle : 0 + n ≤ s.size) (hr : lex_run.f s 29 = some (n : Int)) (hp : ∀ v, Lib.parseIntB 64 (s.extract 0 n).data.toList ≠ .ok v) (b0 : ((n : Int) == 0) = false) :
  Calls Tryd.prog 30 #[.string s] w fun e w' => e = .returned (tokV (numR s)) ∧ Below w.heap.size w w' := by
 have h0i : (0 : Int) < (s.size : Int) := by omega
 have HR := Lib.hid hr
 have hts : (s.extract 0 n).size ≤ 281474976710656 := by simp; omega
 have HTS := Lib.hid hts
 have HG := Lib.hid hG
 rw [Nat.zero_add] at hle
 have hres : numR s = tokNone := by
  unfold numR
  rw [hat, hn]
  rw [Nat.zero_add]
  split
  ·rename_i v hv
   exact absurd hv (hp v)
  ·rfl
 have HRES := Lib.hid hres
 have HP := Lib.hid hp
 clear hr hts hG hn hat hres hp
 go_enter Tryd.func30, Tryd.ntmps30
 go_wp2_with fail
 refine (lex_run.calls _ 29 n _ HR.out).mono ?_
 rintro e w1 ⟨rfl, hd⟩
 obtain ⟨nd, rfl⟩ := hd.out
 clear hd
 go_wp2_with fail
 refine (pint_bad _ HTS.out HP.out _ (HG.out.of_below (pw_below_drewN (below_alloc (Below.refl _ _) _) _))).mono ?_
 rintro e w2 ⟨v, te, pe, rfl, hb2⟩
 have hbk := blk_below (blk_drewN (blk_new w (.cells #[.int .i64 0, .string ⟨#[]⟩, .int .i64 0, .int .i64 0, .int .u64 0, .string ⟨#[]⟩, .int .i64 0] 39)) nd) hb2
 have HB2 := Lib.hid (below_step (pw_below_drewN (below_alloc (Below.refl w.heap.size w) (.cells #[.int .i64 0, .string ⟨#[]⟩, .int .i64 0, .int .i64 0, .int .u64 0, .string ⟨#[]⟩, .int .i64 0] 39)) nd) hb2)
 have c0 : w2.cell? ⟨w.heap.size, 0, none⟩ = some (.int .i64 0) := (blk_cell hbk 0).trans rfl
 have f0 := blk_frozen hbk 0
 have c1 : w2.cell? ⟨w.heap.size, 1, none⟩ = some (.string ⟨#[]⟩) := (blk_cell hbk 1).trans rfl
 have f1 := blk_frozen hbk 1
 have c2 : w2.cell? ⟨w.heap.size, 2, none⟩ = some (.int .i64 0) := (blk_cell hbk 2).trans rfl
 have f2 := blk_frozen hbk 2
 have c3 : w2.cell? ⟨w.heap.size, 3, none⟩ = some (.int .i64 0) := (blk_cell hbk 3).trans rfl
 have f3 := blk_frozen hbk 3
 have c4 : w2.cell? ⟨w.heap.size, 4, none⟩ = some (.int .u64 0) := (blk_cell hbk 4).trans rfl
 have f4 := blk_frozen hbk 4
 have c5 : w2.cell? ⟨w.heap.size, 5, none⟩ = some (.string ⟨#[]⟩) := (blk_cell hbk 5).trans rfl
 have f5 := blk_frozen hbk 5
 have c6 : w2.cell? ⟨w.heap.size, 6, none⟩ = some (.int .i64 0) := (blk_cell hbk 6).trans rfl
 have f6 := blk_frozen hbk 6
 have HBK := Lib.hid hbk
 clear hbk hb2
 go_wp2
 refine bodyPost_ret (results_ct rfl _ _ w.heap.size 39 #[.int .i64 0, .string ⟨#[]⟩, .int .i64 0, .int .i64 0, .int .u64 0, .string ⟨#[]⟩, .int .i64 0] (0, 0) _ rfl (tok_set HBK.out (.int .i64 0) (.string ⟨#[]⟩) (.int .i64 0) (.int .i64 0) (.int .u64 0) (.string ⟨#[]⟩) (.int .i64 0)) Tryd.underlying39 rfl (by kernel_rfl)) rfl ⟨?_, ?_⟩
 ·rw [HRES.out]; rfl
 ·exact tok_below HB2.out _ _ _ _ _ _ _
set_option maxRecDepth 100000 in
set_option maxHeartbeats 4000000 in
theorem num_0_none (s : ByteArray) (hs : s.size ≤ 1000) (h0 : 0 < s.size) (hat : numAt s = 0) (hm : (((s[0]'h0).toNat : Int) == 45) = false) (w : World) (hG : GL w) (n : Nat) (hn : numN s = n) (hle : 0 + n ≤ s.size) (hr : lex_run.f s 29 = some (n : Int)) (v : Int) (hp : Lib.parseIntB 64 (s.extract 0 n).data.toList = .ok v) (b0 : ((n : Int) == 0) = true) (hb : numBad s 0 n = true) :
  Calls Tryd.prog 30 #[.string s] w fun e w' => e = .returned (tokV (numR s)) ∧ Below w.heap.size w w' := by
 have h0i : (0 : Int) < (s.size : Int) := by omega
 have HR := Lib.hid hr
 have hts : (s.extract 0 n).size ≤ 281474976710656 := by simp; omega
 have HTS := Lib.hid hts
 have HG := Lib.hid hG
 rw [Nat.zero_add] at hle
 have hres : numR s = tokNone := by
  unfold numR
  rw [hat, hn]
  rw [Nat.zero_add]
  rw [hp]
  simp only [hb, if_true]
 have HRES := Lib.hid hres
 have HP := Lib.hid hp
 clear hr hts hG hn hat hres hp hb
 go_enter Tryd.func30, Tryd.ntmps30
 go_wp2_with fail
 refine (lex_run.calls _ 29 n _ HR.out).mono ?_
 rintro e w1 ⟨rfl, hd⟩
 obtain ⟨nd, rfl⟩ := hd.out
 clear hd
 go_wp2_with fail
 refine (pint_ok _ HTS.out v HP.out _).mono ?_
 rintro e w2 ⟨rfl, hb2⟩
 have hbk := blk_below (blk_drewN (blk_new w (.cells #[.int .i64 0, .string ⟨#[]⟩, .int .i64 0, .int .i64 0, .int .u64 0, .string ⟨#[]⟩, .int .i64 0] 39)) nd) hb2
 have HB2 := Lib.hid (below_step (pw_below_drewN (below_alloc (Below.refl w.heap.size w) (.cells #[.int .i64 0, .string ⟨#[]⟩, .int .i64 0, .int .i64 0, .int .u64 0, .string ⟨#[]⟩, .int .i64 0] 39)) nd) hb2)
 have c0 : w2.cell? ⟨w.heap.size, 0, none⟩ = some (.int .i64 0) := (blk_cell hbk 0).trans rfl
 have f0 := blk_frozen hbk 0
 have c1 : w2.cell? ⟨w.heap.size, 1, none⟩ = some (.string ⟨#[]⟩) := (blk_cell hbk 1).trans rfl
 have f1 := blk_frozen hbk 1
 have c2 : w2.cell? ⟨w.heap.size, 2, none⟩ = some (.int .i64 0) := (blk_cell hbk 2).trans rfl
 have f2 := blk_frozen hbk 2
 have c3 : w2.cell? ⟨w.heap.size, 3, none⟩ = some (.int .i64 0) := (blk_cell hbk 3).trans rfl
 have f3 := blk_frozen hbk 3
 have c4 : w2.cell? ⟨w.heap.size, 4, none⟩ = some (.int .u64 0) := (blk_cell hbk 4).trans rfl
 have f4 := blk_frozen hbk 4
 have c5 : w2.cell? ⟨w.heap.size, 5, none⟩ = some (.string ⟨#[]⟩) := (blk_cell hbk 5).trans rfl
 have f5 := blk_frozen hbk 5
 have c6 : w2.cell? ⟨w.heap.size, 6, none⟩ = some (.int .i64 0) := (blk_cell hbk 6).trans rfl
 have f6 := blk_frozen hbk 6
 have HBK := Lib.hid hbk
 clear hbk hb2
 go_wp2
 refine bodyPost_ret (results_ct rfl _ _ w.heap.size 39 #[.int .i64 0, .string ⟨#[]⟩, .int .i64 0, .int .i64 0, .int .u64 0, .string ⟨#[]⟩, .int .i64 0] (0, 0) _ rfl (tok_set HBK.out (.int .i64 0) (.string ⟨#[]⟩) (.int .i64 0) (.int .i64 0) (.int .u64 0) (.string ⟨#[]⟩) (.int .i64 0)) Tryd.underlying39 rfl (by kernel_rfl)) rfl ⟨?_, ?_⟩
 ·rw [HRES.out]; rfl
 ·exact tok_below HB2.out _ _ _ _ _ _ _
set_option maxRecDepth 100000 in
set_option maxHeartbeats 4000000 in
theorem num_0_nought (s : ByteArray) (hs : s.size ≤ 1000) (h0 : 0 < s.size) (hat : numAt s = 0) (hm : (((s[0]'h0).toNat : Int) == 45) = false) (w : World) (hG : GL w) (n : Nat) (hn : numN s = n) (hle : 0 + n ≤ s.size) (hr : lex_run.f s 29 = some (n : Int)) (v : Int) (hp : Lib.parseIntB 64 (s.extract 0 n).data.toList = .ok v) (b0 : ((n : Int) == 0) = false) (h1 : 0 < s.size) (b1 : (((s[0]'h1).toNat : Int) == 48) = true) (b2 : decide ((1 : Int) < (n : Int)) = true) (hb : numBad s 0 n = true) :
  Calls Tryd.prog 30 #[.string s] w fun e w' => e = .returned (tokV (numR s)) ∧ Below w.heap.size w w' := by
 have h0i : (0 : Int) < (s.size : Int) := by omega
 have HR := Lib.hid hr
 have hts : (s.extract 0 n).size ≤ 281474976710656 := by simp; omega
 have HTS := Lib.hid hts
 have HG := Lib.hid hG
 rw [Nat.zero_add] at hle
 have h1i : (0 : Int) < (s.size : Int) := by omega
 have hres : numR s = tokNone := by
  unfold numR
  rw [hat, hn]
  rw [Nat.zero_add]
  rw [hp]
  simp only [hb, if_true]
 have HRES := Lib.hid hres
 have HP := Lib.hid hp
 clear hr hts hG hn hat hres hp hb
 go_enter Tryd.func30, Tryd.ntmps30
 go_wp2_with fail
 refine (lex_run.calls _ 29 n _ HR.out).mono ?_
 rintro e w1 ⟨rfl, hd⟩
 obtain ⟨nd, rfl⟩ := hd.out
 clear hd
 go_wp2_with fail
 refine (pint_ok _ HTS.out v HP.out _).mono ?_
 rintro e w2 ⟨rfl, hb2⟩
 have hbk := blk_below (blk_drewN (blk_new w (.cells #[.int .i64 0, .string ⟨#[]⟩, .int .i64 0, .int .i64 0, .int .u64 0, .string ⟨#[]⟩, .int .i64 0] 39)) nd) hb2
 have HB2 := Lib.hid (below_step (pw_below_drewN (below_alloc (Below.refl w.heap.size w) (.cells #[.int .i64 0, .string ⟨#[]⟩, .int .i64 0, .int .i64 0, .int .u64 0, .string ⟨#[]⟩, .int .i64 0] 39)) nd) hb2)
 have c0 : w2.cell? ⟨w.heap.size, 0, none⟩ = some (.int .i64 0) := (blk_cell hbk 0).trans rfl
 have f0 := blk_frozen hbk 0
 have c1 : w2.cell? ⟨w.heap.size, 1, none⟩ = some (.string ⟨#[]⟩) := (blk_cell hbk 1).trans rfl
 have f1 := blk_frozen hbk 1
 have c2 : w2.cell? ⟨w.heap.size, 2, none⟩ = some (.int .i64 0) := (blk_cell hbk 2).trans rfl
 have f2 := blk_frozen hbk 2
 have c3 : w2.cell? ⟨w.heap.size, 3, none⟩ = some (.int .i64 0) := (blk_cell hbk 3).trans rfl
 have f3 := blk_frozen hbk 3
 have c4 : w2.cell? ⟨w.heap.size, 4, none⟩ = some (.int .u64 0) := (blk_cell hbk 4).trans rfl
 have f4 := blk_frozen hbk 4
 have c5 : w2.cell? ⟨w.heap.size, 5, none⟩ = some (.string ⟨#[]⟩) := (blk_cell hbk 5).trans rfl
 have f5 := blk_frozen hbk 5
 have c6 : w2.cell? ⟨w.heap.size, 6, none⟩ = some (.int .i64 0) := (blk_cell hbk 6).trans rfl
 have f6 := blk_frozen hbk 6
 have HBK := Lib.hid hbk
 clear hbk hb2
 go_wp2
 refine bodyPost_ret (results_ct rfl _ _ w.heap.size 39 #[.int .i64 0, .string ⟨#[]⟩, .int .i64 0, .int .i64 0, .int .u64 0, .string ⟨#[]⟩, .int .i64 0] (0, 0) _ rfl (tok_set HBK.out (.int .i64 0) (.string ⟨#[]⟩) (.int .i64 0) (.int .i64 0) (.int .u64 0) (.string ⟨#[]⟩) (.int .i64 0)) Tryd.underlying39 rfl (by kernel_rfl)) rfl ⟨?_, ?_⟩
 ·rw [HRES.out]; rfl
 ·exact tok_below HB2.out _ _ _ _ _ _ _
set_option maxRecDepth 100000 in
set_option maxHeartbeats 4000000 in
theorem num_0_endz (s : ByteArray) (hs : s.size ≤ 1000) (h0 : 0 < s.size) (hat : numAt s = 0) (hm : (((s[0]'h0).toNat : Int) == 45) = false) (w : World) (hG : GL w) (n : Nat) (hn : numN s = n) (hle : 0 + n ≤ s.size) (hr : lex_run.f s 29 = some (n : Int)) (v : Int) (hp : Lib.parseIntB 64 (s.extract 0 n).data.toList = .ok v) (b0 : ((n : Int) == 0) = false) (h1 : 0 < s.size) (b1 : (((s[0]'h1).toNat : Int) == 48) = true) (b2 : decide ((1 : Int) < (n : Int)) = false) (b4 : (s.extract n s.size).toList.isEmpty = true) (b4e : (s.extract n s.size).toList = []) (hb : numBad s 0 n = false) :
  Calls Tryd.prog 30 #[.string s] w fun e w' => e = .returned (tokV (numR s)) ∧ Below w.heap.size w w' := by
 have h0i : (0 : Int) < (s.size : Int) := by omega
 have HR := Lib.hid hr
 have hts : (s.extract 0 n).size ≤ 281474976710656 := by simp; omega
 have HTS := Lib.hid hts
 have HG := Lib.hid hG
 rw [Nat.zero_add] at hle
 have h1i : (0 : Int) < (s.size : Int) := by omega
 have hres : numR s = (3, (s.extract 0 n), 2, v, 0, ⟨#[]⟩, 0, (n : Int)) := by
  unfold numR
  rw [hat, hn]
  rw [Nat.zero_add]
  rw [hp]
  simp only [hb, Bool.false_eq_true, if_false]
 have HE4 := Lib.hid b4e
 clear b4e
 have HRES := Lib.hid hres
 have HP := Lib.hid hp
 clear hr hts hG hn hat hres hp hb
 go_enter Tryd.func30, Tryd.ntmps30
 go_wp2_with fail
 refine (lex_run.calls _ 29 n _ HR.out).mono ?_
 rintro e w1 ⟨rfl, hd⟩
 obtain ⟨nd, rfl⟩ := hd.out
 clear hd
 go_wp2_with fail
 refine (pint_ok _ HTS.out v HP.out _).mono ?_
 rintro e w2 ⟨rfl, hb2⟩
 have hbk := blk_below (blk_drewN (blk_new w (.cells #[.int .i64 0, .string ⟨#[]⟩, .int .i64 0, .int .i64 0, .int .u64 0, .string ⟨#[]⟩, .int .i64 0] 39)) nd) hb2
 have HB2 := Lib.hid (below_step (pw_below_drewN (below_alloc (Below.refl w.heap.size w) (.cells #[.int .i64 0, .string ⟨#[]⟩, .int .i64 0, .int .i64 0, .int .u64 0, .string ⟨#[]⟩, .int .i64 0] 39)) nd) hb2)
 have c0 : w2.cell? ⟨w.heap.size, 0, none⟩ = some (.int .i64 0) := (blk_cell hbk 0).trans rfl
 have f0 := blk_frozen hbk 0
 have c1 : w2.cell? ⟨w.heap.size, 1, none⟩ = some (.string ⟨#[]⟩) := (blk_cell hbk 1).trans rfl
 have f1 := blk_frozen hbk 1
 have c2 : w2.cell? ⟨w.heap.size, 2, none⟩ = some (.int .i64 0) := (blk_cell hbk 2).trans rfl
 have f2 := blk_frozen hbk 2
 have c3 : w2.cell? ⟨w.heap.size, 3, none⟩ = some (.int .i64 0) := (blk_cell hbk 3).trans rfl
 have f3 := blk_frozen hbk 3
 have c4 : w2.cell? ⟨w.heap.size, 4, none⟩ = some (.int .u64 0) := (blk_cell hbk 4).trans rfl
 have f4 := blk_frozen hbk 4
 have c5 : w2.cell? ⟨w.heap.size, 5, none⟩ = some (.string ⟨#[]⟩) := (blk_cell hbk 5).trans rfl
 have f5 := blk_frozen hbk 5
 have c6 : w2.cell? ⟨w.heap.size, 6, none⟩ = some (.int .i64 0) := (blk_cell hbk 6).trans rfl
 have f6 := blk_frozen hbk 6
 have HBK := Lib.hid hbk
 clear hbk hb2
 go_wp2
 refine bodyPost_ret (results_ct rfl _ _ w.heap.size 39 #[.int .i64 3, .string (s.extract 0 n), .int .i64 2, .int .i64 v, .int .u64 0, .string ⟨#[]⟩, .int .i64 0] (0, 0) _ rfl (tok_set HBK.out (.int .i64 3) (.string (s.extract 0 n)) (.int .i64 2) (.int .i64 v) (.int .u64 0) (.string ⟨#[]⟩) (.int .i64 0)) Tryd.underlying39 rfl (by kernel_rfl)) rfl ⟨?_, ?_⟩
 ·rw [HRES.out]; rfl
 ·exact tok_below HB2.out _ _ _ _ _ _ _
set_option maxRecDepth 100000 in
set_option maxHeartbeats 4000000 in
theorem num_0_lowz (s : ByteArray) (hs : s.size ≤ 1000) (h0 : 0 < s.size) (hat : numAt s = 0) (hm : (((s[0]'h0).toNat : Int) == 45) = false) (w : World) (hG : GL w) (n : Nat) (hn : numN s = n) (hle : 0 + n ≤ s.size) (hr : lex_run.f s 29 = some (n : Int)) (v : Int) (hp : Lib.parseIntB 64 (s.extract 0 n).data.toList = .ok v) (b0 : ((n : Int) == 0) = false) (h1 : 0 < s.size) (b1 : (((s[0]'h1).toNat : Int) == 48) = true) (b2 : decide ((1 : Int) < (n : Int)) = false) (hr1 : 0 < (s.extract n s.size).size) (b4 : (s.extract n s.size).toList.isEmpty = false) (b5 : isLow ((s.extract n s.size)[0]'hr1) = true) (hb : numBad s 0 n = true) :
  Calls Tryd.prog 30 #[.string s] w fun e w' => e = .returned (tokV (numR s)) ∧ Below w.heap.size w w' := by
 have h0i : (0 : Int) < (s.size : Int) := by omega
 have HR := Lib.hid hr
 have hts : (s.extract 0 n).size ≤ 281474976710656 := by simp; omega
 have HTS := Lib.hid hts
 have HG := Lib.hid hG
 rw [Nat.zero_add] at hle
 have h1i : (0 : Int) < (s.size : Int) := by omega
 have hri : (0 : Int) < ((s.extract n s.size).size : Int) := by omega
 have hrn : 0 < s.size - n := by rw [ByteArray.size_extract] at hr1; omega
 have HL := low_calls ((s.extract n s.size)[0]'hr1)
 rw [b5] at HL
 have HLL := Lib.hid HL
 have hres : numR s = tokNone := by
  unfold numR
  rw [hat, hn]
  rw [Nat.zero_add]
  rw [hp]
  simp only [hb, if_true]
 have HRES := Lib.hid hres
 have HP := Lib.hid hp
 clear hr hts hG hn hat hres hp hb HL b5
 go_enter Tryd.func30, Tryd.ntmps30
 go_wp2_with fail
 refine (lex_run.calls _ 29 n _ HR.out).mono ?_
 rintro e w1 ⟨rfl, hd⟩
 obtain ⟨nd, rfl⟩ := hd.out
 clear hd
 go_wp2_with fail
 refine (pint_ok _ HTS.out v HP.out _).mono ?_
 rintro e w2 ⟨rfl, hb2⟩
 have hbk := blk_below (blk_drewN (blk_new w (.cells #[.int .i64 0, .string ⟨#[]⟩, .int .i64 0, .int .i64 0, .int .u64 0, .string ⟨#[]⟩, .int .i64 0] 39)) nd) hb2
 have HB2 := Lib.hid (below_step (pw_below_drewN (below_alloc (Below.refl w.heap.size w) (.cells #[.int .i64 0, .string ⟨#[]⟩, .int .i64 0, .int .i64 0, .int .u64 0, .string ⟨#[]⟩, .int .i64 0] 39)) nd) hb2)
 have c0 : w2.cell? ⟨w.heap.size, 0, none⟩ = some (.int .i64 0) := (blk_cell hbk 0).trans rfl
 have f0 := blk_frozen hbk 0
 have c1 : w2.cell? ⟨w.heap.size, 1, none⟩ = some (.string ⟨#[]⟩) := (blk_cell hbk 1).trans rfl
 have f1 := blk_frozen hbk 1
 have c2 : w2.cell? ⟨w.heap.size, 2, none⟩ = some (.int .i64 0) := (blk_cell hbk 2).trans rfl
 have f2 := blk_frozen hbk 2
 have c3 : w2.cell? ⟨w.heap.size, 3, none⟩ = some (.int .i64 0) := (blk_cell hbk 3).trans rfl
 have f3 := blk_frozen hbk 3
 have c4 : w2.cell? ⟨w.heap.size, 4, none⟩ = some (.int .u64 0) := (blk_cell hbk 4).trans rfl
 have f4 := blk_frozen hbk 4
 have c5 : w2.cell? ⟨w.heap.size, 5, none⟩ = some (.string ⟨#[]⟩) := (blk_cell hbk 5).trans rfl
 have f5 := blk_frozen hbk 5
 have c6 : w2.cell? ⟨w.heap.size, 6, none⟩ = some (.int .i64 0) := (blk_cell hbk 6).trans rfl
 have f6 := blk_frozen hbk 6
 have HBK := Lib.hid hbk
 clear hbk hb2
 go_wp2_with (go_at_call 27; refine (HLL.out _).mono ?_; rintro e w3 ⟨rfl, rfl⟩)
 refine bodyPost_ret (results_ct rfl _ _ w.heap.size 39 #[.int .i64 0, .string ⟨#[]⟩, .int .i64 0, .int .i64 0, .int .u64 0, .string ⟨#[]⟩, .int .i64 0] (0, 0) _ rfl (tok_set HBK.out (.int .i64 0) (.string ⟨#[]⟩) (.int .i64 0) (.int .i64 0) (.int .u64 0) (.string ⟨#[]⟩) (.int .i64 0)) Tryd.underlying39 rfl (by kernel_rfl)) rfl ⟨?_, ?_⟩
 ·rw [HRES.out]; rfl
 ·exact tok_below HB2.out _ _ _ _ _ _ _
set_option maxRecDepth 100000 in
set_option maxHeartbeats 4000000 in
theorem num_0_undz (s : ByteArray) (hs : s.size ≤ 1000) (h0 : 0 < s.size) (hat : numAt s = 0) (hm : (((s[0]'h0).toNat : Int) == 45) = false) (w : World) (hG : GL w) (n : Nat) (hn : numN s = n) (hle : 0 + n ≤ s.size) (hr : lex_run.f s 29 = some (n : Int)) (v : Int) (hp : Lib.parseIntB 64 (s.extract 0 n).data.toList = .ok v) (b0 : ((n : Int) == 0) = false) (h1 : 0 < s.size) (b1 : (((s[0]'h1).toNat : Int) == 48) = true) (b2 : decide ((1 : Int) < (n : Int)) = false) (hr1 : 0 < (s.extract n s.size).size) (b4 : (s.extract n s.size).toList.isEmpty = false) (b5 : isLow ((s.extract n s.size)[0]'hr1) = false) (b6 : ((((s.extract n s.size)[0]'hr1).toNat : Int) == 95) = true) (hb : numBad s 0 n = true) :
  Calls Tryd.prog 30 #[.string s] w fun e w' => e = .returned (tokV (numR s)) ∧ Below w.heap.size w w' := by
 have h0i : (0 : Int) < (s.size : Int) := by omega
 have HR := Lib.hid hr
 have hts : (s.extract 0 n).size ≤ 281474976710656 := by simp; omega
 have HTS := Lib.hid hts
 have HG := Lib.hid hG
 rw [Nat.zero_add] at hle
 have h1i : (0 : Int) < (s.size : Int) := by omega
 have hri : (0 : Int) < ((s.extract n s.size).size : Int) := by omega
 have hrn : 0 < s.size - n := by rw [ByteArray.size_extract] at hr1; omega
 have HL := low_calls ((s.extract n s.size)[0]'hr1)
 rw [b5] at HL
 have HLL := Lib.hid HL
 have hres : numR s = tokNone := by
  unfold numR
  rw [hat, hn]
  rw [Nat.zero_add]
  rw [hp]
  simp only [hb, if_true]
 have HRES := Lib.hid hres
 have HP := Lib.hid hp
 clear hr hts hG hn hat hres hp hb HL b5
 go_enter Tryd.func30, Tryd.ntmps30
 go_wp2_with fail
 refine (lex_run.calls _ 29 n _ HR.out).mono ?_
 rintro e w1 ⟨rfl, hd⟩
 obtain ⟨nd, rfl⟩ := hd.out
 clear hd
 go_wp2_with fail
 refine (pint_ok _ HTS.out v HP.out _).mono ?_
 rintro e w2 ⟨rfl, hb2⟩
 have hbk := blk_below (blk_drewN (blk_new w (.cells #[.int .i64 0, .string ⟨#[]⟩, .int .i64 0, .int .i64 0, .int .u64 0, .string ⟨#[]⟩, .int .i64 0] 39)) nd) hb2
 have HB2 := Lib.hid (below_step (pw_below_drewN (below_alloc (Below.refl w.heap.size w) (.cells #[.int .i64 0, .string ⟨#[]⟩, .int .i64 0, .int .i64 0, .int .u64 0, .string ⟨#[]⟩, .int .i64 0] 39)) nd) hb2)
 have c0 : w2.cell? ⟨w.heap.size, 0, none⟩ = some (.int .i64 0) := (blk_cell hbk 0).trans rfl
 have f0 := blk_frozen hbk 0
 have c1 : w2.cell? ⟨w.heap.size, 1, none⟩ = some (.string ⟨#[]⟩) := (blk_cell hbk 1).trans rfl
 have f1 := blk_frozen hbk 1
 have c2 : w2.cell? ⟨w.heap.size, 2, none⟩ = some (.int .i64 0) := (blk_cell hbk 2).trans rfl
 have f2 := blk_frozen hbk 2
 have c3 : w2.cell? ⟨w.heap.size, 3, none⟩ = some (.int .i64 0) := (blk_cell hbk 3).trans rfl
 have f3 := blk_frozen hbk 3
 have c4 : w2.cell? ⟨w.heap.size, 4, none⟩ = some (.int .u64 0) := (blk_cell hbk 4).trans rfl
 have f4 := blk_frozen hbk 4
 have c5 : w2.cell? ⟨w.heap.size, 5, none⟩ = some (.string ⟨#[]⟩) := (blk_cell hbk 5).trans rfl
 have f5 := blk_frozen hbk 5
 have c6 : w2.cell? ⟨w.heap.size, 6, none⟩ = some (.int .i64 0) := (blk_cell hbk 6).trans rfl
 have f6 := blk_frozen hbk 6
 have HBK := Lib.hid hbk
 clear hbk hb2
 go_wp2_with (go_at_call 27; refine (HLL.out _).mono ?_; rintro e w3 ⟨rfl, rfl⟩)
 refine bodyPost_ret (results_ct rfl _ _ w.heap.size 39 #[.int .i64 0, .string ⟨#[]⟩, .int .i64 0, .int .i64 0, .int .u64 0, .string ⟨#[]⟩, .int .i64 0] (0, 0) _ rfl (tok_set HBK.out (.int .i64 0) (.string ⟨#[]⟩) (.int .i64 0) (.int .i64 0) (.int .u64 0) (.string ⟨#[]⟩) (.int .i64 0)) Tryd.underlying39 rfl (by kernel_rfl)) rfl ⟨?_, ?_⟩
 ·rw [HRES.out]; rfl
 ·exact tok_below HB2.out _ _ _ _ _ _ _
set_option maxRecDepth 100000 in
set_option maxHeartbeats 4000000 in
theorem num_0_yesz (s : ByteArray) (hs : s.size ≤ 1000) (h0 : 0 < s.size) (hat : numAt s = 0) (hm : (((s[0]'h0).toNat : Int) == 45) = false) (w : World) (hG : GL w) (n : Nat) (hn : numN s = n) (hle : 0 + n ≤ s.size) (hr : lex_run.f s 29 = some (n : Int)) (v : Int) (hp : Lib.parseIntB 64 (s.extract 0 n).data.toList = .ok v) (b0 : ((n : Int) == 0) = false) (h1 : 0 < s.size) (b1 : (((s[0]'h1).toNat : Int) == 48) = true) (b2 : decide ((1 : Int) < (n : Int)) = false) (hr1 : 0 < (s.extract n s.size).size) (b4 : (s.extract n s.size).toList.isEmpty = false) (b5 : isLow ((s.extract n s.size)[0]'hr1) = false) (b6 : ((((s.extract n s.size)[0]'hr1).toNat : Int) == 95) = false) (hb : numBad s 0 n = false) :
  Calls Tryd.prog 30 #[.string s] w fun e w' => e = .returned (tokV (numR s)) ∧ Below w.heap.size w w' := by
 have h0i : (0 : Int) < (s.size : Int) := by omega
 have HR := Lib.hid hr
 have hts : (s.extract 0 n).size ≤ 281474976710656 := by simp; omega
 have HTS := Lib.hid hts
 have HG := Lib.hid hG
 rw [Nat.zero_add] at hle
 have h1i : (0 : Int) < (s.size : Int) := by omega
 have hri : (0 : Int) < ((s.extract n s.size).size : Int) := by omega
 have hrn : 0 < s.size - n := by rw [ByteArray.size_extract] at hr1; omega
 have HL := low_calls ((s.extract n s.size)[0]'hr1)
 rw [b5] at HL
 have HLL := Lib.hid HL
 have hres : numR s = (3, (s.extract 0 n), 2, v, 0, ⟨#[]⟩, 0, (n : Int)) := by
  unfold numR
  rw [hat, hn]
  rw [Nat.zero_add]
  rw [hp]
  simp only [hb, Bool.false_eq_true, if_false]
 have HRES := Lib.hid hres
 have HP := Lib.hid hp
 clear hr hts hG hn hat hres hp hb HL b5
 go_enter Tryd.func30, Tryd.ntmps30
 go_wp2_with fail
 refine (lex_run.calls _ 29 n _ HR.out).mono ?_
 rintro e w1 ⟨rfl, hd⟩
 obtain ⟨nd, rfl⟩ := hd.out
 clear hd
 go_wp2_with fail
 refine (pint_ok _ HTS.out v HP.out _).mono ?_
 rintro e w2 ⟨rfl, hb2⟩
 have hbk := blk_below (blk_drewN (blk_new w (.cells #[.int .i64 0, .string ⟨#[]⟩, .int .i64 0, .int .i64 0, .int .u64 0, .string ⟨#[]⟩, .int .i64 0] 39)) nd) hb2
 have HB2 := Lib.hid (below_step (pw_below_drewN (below_alloc (Below.refl w.heap.size w) (.cells #[.int .i64 0, .string ⟨#[]⟩, .int .i64 0, .int .i64 0, .int .u64 0, .string ⟨#[]⟩, .int .i64 0] 39)) nd) hb2)
 have c0 : w2.cell? ⟨w.heap.size, 0, none⟩ = some (.int .i64 0) := (blk_cell hbk 0).trans rfl
 have f0 := blk_frozen hbk 0
 have c1 : w2.cell? ⟨w.heap.size, 1, none⟩ = some (.string ⟨#[]⟩) := (blk_cell hbk 1).trans rfl
 have f1 := blk_frozen hbk 1
 have c2 : w2.cell? ⟨w.heap.size, 2, none⟩ = some (.int .i64 0) := (blk_cell hbk 2).trans rfl
 have f2 := blk_frozen hbk 2
 have c3 : w2.cell? ⟨w.heap.size, 3, none⟩ = some (.int .i64 0) := (blk_cell hbk 3).trans rfl
 have f3 := blk_frozen hbk 3
 have c4 : w2.cell? ⟨w.heap.size, 4, none⟩ = some (.int .u64 0) := (blk_cell hbk 4).trans rfl
 have f4 := blk_frozen hbk 4
 have c5 : w2.cell? ⟨w.heap.size, 5, none⟩ = some (.string ⟨#[]⟩) := (blk_cell hbk 5).trans rfl
 have f5 := blk_frozen hbk 5
 have c6 : w2.cell? ⟨w.heap.size, 6, none⟩ = some (.int .i64 0) := (blk_cell hbk 6).trans rfl
 have f6 := blk_frozen hbk 6
 have HBK := Lib.hid hbk
 clear hbk hb2
 go_wp2_with (go_at_call 27; refine (HLL.out _).mono ?_; rintro e w3 ⟨rfl, rfl⟩)
 refine bodyPost_ret (results_ct rfl _ _ w.heap.size 39 #[.int .i64 3, .string (s.extract 0 n), .int .i64 2, .int .i64 v, .int .u64 0, .string ⟨#[]⟩, .int .i64 0] (0, 0) _ rfl (tok_set HBK.out (.int .i64 3) (.string (s.extract 0 n)) (.int .i64 2) (.int .i64 v) (.int .u64 0) (.string ⟨#[]⟩) (.int .i64 0)) Tryd.underlying39 rfl (by kernel_rfl)) rfl ⟨?_, ?_⟩
 ·rw [HRES.out]; rfl
 ·exact tok_below HB2.out _ _ _ _ _ _ _
set_option maxRecDepth 100000 in
set_option maxHeartbeats 4000000 in
theorem num_0_endd (s : ByteArray) (hs : s.size ≤ 1000) (h0 : 0 < s.size) (hat : numAt s = 0) (hm : (((s[0]'h0).toNat : Int) == 45) = false) (w : World) (hG : GL w) (n : Nat) (hn : numN s = n) (hle : 0 + n ≤ s.size) (hr : lex_run.f s 29 = some (n : Int)) (v : Int) (hp : Lib.parseIntB 64 (s.extract 0 n).data.toList = .ok v) (b0 : ((n : Int) == 0) = false) (h1 : 0 < s.size) (b1 : (((s[0]'h1).toNat : Int) == 48) = false) (b4 : (s.extract n s.size).toList.isEmpty = true) (b4e : (s.extract n s.size).toList = []) (hb : numBad s 0 n = false) :
  Calls Tryd.prog 30 #[.string s] w fun e w' => e = .returned (tokV (numR s)) ∧ Below w.heap.size w w' := by
 have h0i : (0 : Int) < (s.size : Int) := by omega
 have HR := Lib.hid hr
 have hts : (s.extract 0 n).size ≤ 281474976710656 := by simp; omega
 have HTS := Lib.hid hts
 have HG := Lib.hid hG
 rw [Nat.zero_add] at hle
 have h1i : (0 : Int) < (s.size : Int) := by omega
 have hres : numR s = (3, (s.extract 0 n), 2, v, 0, ⟨#[]⟩, 0, (n : Int)) := by
  unfold numR
  rw [hat, hn]
  rw [Nat.zero_add]
  rw [hp]
  simp only [hb, Bool.false_eq_true, if_false]
 have HE4 := Lib.hid b4e
 clear b4e
 have HRES := Lib.hid hres
 have HP := Lib.hid hp
 clear hr hts hG hn hat hres hp hb
 go_enter Tryd.func30, Tryd.ntmps30
 go_wp2_with fail
 refine (lex_run.calls _ 29 n _ HR.out).mono ?_
 rintro e w1 ⟨rfl, hd⟩
 obtain ⟨nd, rfl⟩ := hd.out
 clear hd
 go_wp2_with fail
 refine (pint_ok _ HTS.out v HP.out _).mono ?_
 rintro e w2 ⟨rfl, hb2⟩
 have hbk := blk_below (blk_drewN (blk_new w (.cells #[.int .i64 0, .string ⟨#[]⟩, .int .i64 0, .int .i64 0, .int .u64 0, .string ⟨#[]⟩, .int .i64 0] 39)) nd) hb2
 have HB2 := Lib.hid (below_step (pw_below_drewN (below_alloc (Below.refl w.heap.size w) (.cells #[.int .i64 0, .string ⟨#[]⟩, .int .i64 0, .int .i64 0, .int .u64 0, .string ⟨#[]⟩, .int .i64 0] 39)) nd) hb2)
 have c0 : w2.cell? ⟨w.heap.size, 0, none⟩ = some (.int .i64 0) := (blk_cell hbk 0).trans rfl
 have f0 := blk_frozen hbk 0
 have c1 : w2.cell? ⟨w.heap.size, 1, none⟩ = some (.string ⟨#[]⟩) := (blk_cell hbk 1).trans rfl
 have f1 := blk_frozen hbk 1
 have c2 : w2.cell? ⟨w.heap.size, 2, none⟩ = some (.int .i64 0) := (blk_cell hbk 2).trans rfl
 have f2 := blk_frozen hbk 2
 have c3 : w2.cell? ⟨w.heap.size, 3, none⟩ = some (.int .i64 0) := (blk_cell hbk 3).trans rfl
 have f3 := blk_frozen hbk 3
 have c4 : w2.cell? ⟨w.heap.size, 4, none⟩ = some (.int .u64 0) := (blk_cell hbk 4).trans rfl
 have f4 := blk_frozen hbk 4
 have c5 : w2.cell? ⟨w.heap.size, 5, none⟩ = some (.string ⟨#[]⟩) := (blk_cell hbk 5).trans rfl
 have f5 := blk_frozen hbk 5
 have c6 : w2.cell? ⟨w.heap.size, 6, none⟩ = some (.int .i64 0) := (blk_cell hbk 6).trans rfl
 have f6 := blk_frozen hbk 6
 have HBK := Lib.hid hbk
 clear hbk hb2
 go_wp2
 refine bodyPost_ret (results_ct rfl _ _ w.heap.size 39 #[.int .i64 3, .string (s.extract 0 n), .int .i64 2, .int .i64 v, .int .u64 0, .string ⟨#[]⟩, .int .i64 0] (0, 0) _ rfl (tok_set HBK.out (.int .i64 3) (.string (s.extract 0 n)) (.int .i64 2) (.int .i64 v) (.int .u64 0) (.string ⟨#[]⟩) (.int .i64 0)) Tryd.underlying39 rfl (by kernel_rfl)) rfl ⟨?_, ?_⟩
 ·rw [HRES.out]; rfl
 ·exact tok_below HB2.out _ _ _ _ _ _ _
set_option maxRecDepth 100000 in
set_option maxHeartbeats 4000000 in
theorem num_0_lowd (s : ByteArray) (hs : s.size ≤ 1000) (h0 : 0 < s.size) (hat : numAt s = 0) (hm : (((s[0]'h0).toNat : Int) == 45) = false) (w : World) (hG : GL w) (n : Nat) (hn : numN s = n) (hle : 0 + n ≤ s.size) (hr : lex_run.f s 29 = some (n : Int)) (v : Int) (hp : Lib.parseIntB 64 (s.extract 0 n).data.toList = .ok v) (b0 : ((n : Int) == 0) = false) (h1 : 0 < s.size) (b1 : (((s[0]'h1).toNat : Int) == 48) = false) (hr1 : 0 < (s.extract n s.size).size) (b4 : (s.extract n s.size).toList.isEmpty = false) (b5 : isLow ((s.extract n s.size)[0]'hr1) = true) (hb : numBad s 0 n = true) :
  Calls Tryd.prog 30 #[.string s] w fun e w' => e = .returned (tokV (numR s)) ∧ Below w.heap.size w w' := by
 have h0i : (0 : Int) < (s.size : Int) := by omega
 have HR := Lib.hid hr
 have hts : (s.extract 0 n).size ≤ 281474976710656 := by simp; omega
 have HTS := Lib.hid hts
 have HG := Lib.hid hG
 rw [Nat.zero_add] at hle
 have h1i : (0 : Int) < (s.size : Int) := by omega
 have hri : (0 : Int) < ((s.extract n s.size).size : Int) := by omega
 have hrn : 0 < s.size - n := by rw [ByteArray.size_extract] at hr1; omega
 have HL := low_calls ((s.extract n s.size)[0]'hr1)
 rw [b5] at HL
 have HLL := Lib.hid HL
 have hres : numR s = tokNone := by
  unfold numR
  rw [hat, hn]
  rw [Nat.zero_add]
  rw [hp]
  simp only [hb, if_true]
 have HRES := Lib.hid hres
 have HP := Lib.hid hp
 clear hr hts hG hn hat hres hp hb HL b5
 go_enter Tryd.func30, Tryd.ntmps30
 go_wp2_with fail
 refine (lex_run.calls _ 29 n _ HR.out).mono ?_
 rintro e w1 ⟨rfl, hd⟩
 obtain ⟨nd, rfl⟩ := hd.out
 clear hd
 go_wp2_with fail
 refine (pint_ok _ HTS.out v HP.out _).mono ?_
 rintro e w2 ⟨rfl, hb2⟩
 have hbk := blk_below (blk_drewN (blk_new w (.cells #[.int .i64 0, .string ⟨#[]⟩, .int .i64 0, .int .i64 0, .int .u64 0, .string ⟨#[]⟩, .int .i64 0] 39)) nd) hb2
 have HB2 := Lib.hid (below_step (pw_below_drewN (below_alloc (Below.refl w.heap.size w) (.cells #[.int .i64 0, .string ⟨#[]⟩, .int .i64 0, .int .i64 0, .int .u64 0, .string ⟨#[]⟩, .int .i64 0] 39)) nd) hb2)
 have c0 : w2.cell? ⟨w.heap.size, 0, none⟩ = some (.int .i64 0) := (blk_cell hbk 0).trans rfl
 have f0 := blk_frozen hbk 0
 have c1 : w2.cell? ⟨w.heap.size, 1, none⟩ = some (.string ⟨#[]⟩) := (blk_cell hbk 1).trans rfl
 have f1 := blk_frozen hbk 1
 have c2 : w2.cell? ⟨w.heap.size, 2, none⟩ = some (.int .i64 0) := (blk_cell hbk 2).trans rfl
 have f2 := blk_frozen hbk 2
 have c3 : w2.cell? ⟨w.heap.size, 3, none⟩ = some (.int .i64 0) := (blk_cell hbk 3).trans rfl
 have f3 := blk_frozen hbk 3
 have c4 : w2.cell? ⟨w.heap.size, 4, none⟩ = some (.int .u64 0) := (blk_cell hbk 4).trans rfl
 have f4 := blk_frozen hbk 4
 have c5 : w2.cell? ⟨w.heap.size, 5, none⟩ = some (.string ⟨#[]⟩) := (blk_cell hbk 5).trans rfl
 have f5 := blk_frozen hbk 5
 have c6 : w2.cell? ⟨w.heap.size, 6, none⟩ = some (.int .i64 0) := (blk_cell hbk 6).trans rfl
 have f6 := blk_frozen hbk 6
 have HBK := Lib.hid hbk
 clear hbk hb2
 go_wp2_with (go_at_call 27; refine (HLL.out _).mono ?_; rintro e w3 ⟨rfl, rfl⟩)
 refine bodyPost_ret (results_ct rfl _ _ w.heap.size 39 #[.int .i64 0, .string ⟨#[]⟩, .int .i64 0, .int .i64 0, .int .u64 0, .string ⟨#[]⟩, .int .i64 0] (0, 0) _ rfl (tok_set HBK.out (.int .i64 0) (.string ⟨#[]⟩) (.int .i64 0) (.int .i64 0) (.int .u64 0) (.string ⟨#[]⟩) (.int .i64 0)) Tryd.underlying39 rfl (by kernel_rfl)) rfl ⟨?_, ?_⟩
 ·rw [HRES.out]; rfl
 ·exact tok_below HB2.out _ _ _ _ _ _ _
set_option maxRecDepth 100000 in
set_option maxHeartbeats 4000000 in
theorem num_0_undd (s : ByteArray) (hs : s.size ≤ 1000) (h0 : 0 < s.size) (hat : numAt s = 0) (hm : (((s[0]'h0).toNat : Int) == 45) = false) (w : World) (hG : GL w) (n : Nat) (hn : numN s = n) (hle : 0 + n ≤ s.size) (hr : lex_run.f s 29 = some (n : Int)) (v : Int) (hp : Lib.parseIntB 64 (s.extract 0 n).data.toList = .ok v) (b0 : ((n : Int) == 0) = false) (h1 : 0 < s.size) (b1 : (((s[0]'h1).toNat : Int) == 48) = false) (hr1 : 0 < (s.extract n s.size).size) (b4 : (s.extract n s.size).toList.isEmpty = false) (b5 : isLow ((s.extract n s.size)[0]'hr1) = false) (b6 : ((((s.extract n s.size)[0]'hr1).toNat : Int) == 95) = true) (hb : numBad s 0 n = true) :
  Calls Tryd.prog 30 #[.string s] w fun e w' => e = .returned (tokV (numR s)) ∧ Below w.heap.size w w' := by
 have h0i : (0 : Int) < (s.size : Int) := by omega
 have HR := Lib.hid hr
 have hts : (s.extract 0 n).size ≤ 281474976710656 := by simp; omega
 have HTS := Lib.hid hts
 have HG := Lib.hid hG
 rw [Nat.zero_add] at hle
 have h1i : (0 : Int) < (s.size : Int) := by omega
 have hri : (0 : Int) < ((s.extract n s.size).size : Int) := by omega
 have hrn : 0 < s.size - n := by rw [ByteArray.size_extract] at hr1; omega
 have HL := low_calls ((s.extract n s.size)[0]'hr1)
 rw [b5] at HL
 have HLL := Lib.hid HL
 have hres : numR s = tokNone := by
  unfold numR
  rw [hat, hn]
  rw [Nat.zero_add]
  rw [hp]
  simp only [hb, if_true]
 have HRES := Lib.hid hres
 have HP := Lib.hid hp
 clear hr hts hG hn hat hres hp hb HL b5
 go_enter Tryd.func30, Tryd.ntmps30
 go_wp2_with fail
 refine (lex_run.calls _ 29 n _ HR.out).mono ?_
 rintro e w1 ⟨rfl, hd⟩
 obtain ⟨nd, rfl⟩ := hd.out
 clear hd
 go_wp2_with fail
 refine (pint_ok _ HTS.out v HP.out _).mono ?_
 rintro e w2 ⟨rfl, hb2⟩
 have hbk := blk_below (blk_drewN (blk_new w (.cells #[.int .i64 0, .string ⟨#[]⟩, .int .i64 0, .int .i64 0, .int .u64 0, .string ⟨#[]⟩, .int .i64 0] 39)) nd) hb2
 have HB2 := Lib.hid (below_step (pw_below_drewN (below_alloc (Below.refl w.heap.size w) (.cells #[.int .i64 0, .string ⟨#[]⟩, .int .i64 0, .int .i64 0, .int .u64 0, .string ⟨#[]⟩, .int .i64 0] 39)) nd) hb2)
 have c0 : w2.cell? ⟨w.heap.size, 0, none⟩ = some (.int .i64 0) := (blk_cell hbk 0).trans rfl
 have f0 := blk_frozen hbk 0
 have c1 : w2.cell? ⟨w.heap.size, 1, none⟩ = some (.string ⟨#[]⟩) := (blk_cell hbk 1).trans rfl
 have f1 := blk_frozen hbk 1
 have c2 : w2.cell? ⟨w.heap.size, 2, none⟩ = some (.int .i64 0) := (blk_cell hbk 2).trans rfl
 have f2 := blk_frozen hbk 2
 have c3 : w2.cell? ⟨w.heap.size, 3, none⟩ = some (.int .i64 0) := (blk_cell hbk 3).trans rfl
 have f3 := blk_frozen hbk 3
 have c4 : w2.cell? ⟨w.heap.size, 4, none⟩ = some (.int .u64 0) := (blk_cell hbk 4).trans rfl
 have f4 := blk_frozen hbk 4
 have c5 : w2.cell? ⟨w.heap.size, 5, none⟩ = some (.string ⟨#[]⟩) := (blk_cell hbk 5).trans rfl
 have f5 := blk_frozen hbk 5
 have c6 : w2.cell? ⟨w.heap.size, 6, none⟩ = some (.int .i64 0) := (blk_cell hbk 6).trans rfl
 have f6 := blk_frozen hbk 6
 have HBK := Lib.hid hbk
 clear hbk hb2
 go_wp2_with (go_at_call 27; refine (HLL.out _).mono ?_; rintro e w3 ⟨rfl, rfl⟩)
 refine bodyPost_ret (results_ct rfl _ _ w.heap.size 39 #[.int .i64 0, .string ⟨#[]⟩, .int .i64 0, .int .i64 0, .int .u64 0, .string ⟨#[]⟩, .int .i64 0] (0, 0) _ rfl (tok_set HBK.out (.int .i64 0) (.string ⟨#[]⟩) (.int .i64 0) (.int .i64 0) (.int .u64 0) (.string ⟨#[]⟩) (.int .i64 0)) Tryd.underlying39 rfl (by kernel_rfl)) rfl ⟨?_, ?_⟩
 ·rw [HRES.out]; rfl
 ·exact tok_below HB2.out _ _ _ _ _ _ _
set_option maxRecDepth 100000 in
set_option maxHeartbeats 4000000 in
theorem num_0_yesd (s : ByteArray) (hs : s.size ≤ 1000) (h0 : 0 < s.size) (hat : numAt s = 0) (hm : (((s[0]'h0).toNat : Int) == 45) = false) (w : World) (hG : GL w) (n : Nat) (hn : numN s = n) (hle : 0 + n ≤ s.size) (hr : lex_run.f s 29 = some (n : Int)) (v : Int) (hp : Lib.parseIntB 64 (s.extract 0 n).data.toList = .ok v) (b0 : ((n : Int) == 0) = false) (h1 : 0 < s.size) (b1 : (((s[0]'h1).toNat : Int) == 48) = false) (hr1 : 0 < (s.extract n s.size).size) (b4 : (s.extract n s.size).toList.isEmpty = false) (b5 : isLow ((s.extract n s.size)[0]'hr1) = false) (b6 : ((((s.extract n s.size)[0]'hr1).toNat : Int) == 95) = false) (hb : numBad s 0 n = false) :
  Calls Tryd.prog 30 #[.string s] w fun e w' => e = .returned (tokV (numR s)) ∧ Below w.heap.size w w' := by
 have h0i : (0 : Int) < (s.size : Int) := by omega
 have HR := Lib.hid hr
 have hts : (s.extract 0 n).size ≤ 281474976710656 := by simp; omega
 have HTS := Lib.hid hts
 have HG := Lib.hid hG
 rw [Nat.zero_add] at hle
 have h1i : (0 : Int) < (s.size : Int) := by omega
 have hri : (0 : Int) < ((s.extract n s.size).size : Int) := by omega
 have hrn : 0 < s.size - n := by rw [ByteArray.size_extract] at hr1; omega
 have HL := low_calls ((s.extract n s.size)[0]'hr1)
 rw [b5] at HL
 have HLL := Lib.hid HL
 have hres : numR s = (3, (s.extract 0 n), 2, v, 0, ⟨#[]⟩, 0, (n : Int)) := by
  unfold numR
  rw [hat, hn]
  rw [Nat.zero_add]
  rw [hp]
  simp only [hb, Bool.false_eq_true, if_false]
 have HRES := Lib.hid hres
 have HP := Lib.hid hp
 clear hr hts hG hn hat hres hp hb HL b5
 go_enter Tryd.func30, Tryd.ntmps30
 go_wp2_with fail
 refine (lex_run.calls _ 29 n _ HR.out).mono ?_
 rintro e w1 ⟨rfl, hd⟩
 obtain ⟨nd, rfl⟩ := hd.out
 clear hd
 go_wp2_with fail
 refine (pint_ok _ HTS.out v HP.out _).mono ?_
 rintro e w2 ⟨rfl, hb2⟩
 have hbk := blk_below (blk_drewN (blk_new w (.cells #[.int .i64 0, .string ⟨#[]⟩, .int .i64 0, .int .i64 0, .int .u64 0, .string ⟨#[]⟩, .int .i64 0] 39)) nd) hb2
 have HB2 := Lib.hid (below_step (pw_below_drewN (below_alloc (Below.refl w.heap.size w) (.cells #[.int .i64 0, .string ⟨#[]⟩, .int .i64 0, .int .i64 0, .int .u64 0, .string ⟨#[]⟩, .int .i64 0] 39)) nd) hb2)
 have c0 : w2.cell? ⟨w.heap.size, 0, none⟩ = some (.int .i64 0) := (blk_cell hbk 0).trans rfl
 have f0 := blk_frozen hbk 0
 have c1 : w2.cell? ⟨w.heap.size, 1, none⟩ = some (.string ⟨#[]⟩) := (blk_cell hbk 1).trans rfl
 have f1 := blk_frozen hbk 1
 have c2 : w2.cell? ⟨w.heap.size, 2, none⟩ = some (.int .i64 0) := (blk_cell hbk 2).trans rfl
 have f2 := blk_frozen hbk 2
 have c3 : w2.cell? ⟨w.heap.size, 3, none⟩ = some (.int .i64 0) := (blk_cell hbk 3).trans rfl
 have f3 := blk_frozen hbk 3
 have c4 : w2.cell? ⟨w.heap.size, 4, none⟩ = some (.int .u64 0) := (blk_cell hbk 4).trans rfl
 have f4 := blk_frozen hbk 4
 have c5 : w2.cell? ⟨w.heap.size, 5, none⟩ = some (.string ⟨#[]⟩) := (blk_cell hbk 5).trans rfl
 have f5 := blk_frozen hbk 5
 have c6 : w2.cell? ⟨w.heap.size, 6, none⟩ = some (.int .i64 0) := (blk_cell hbk 6).trans rfl
 have f6 := blk_frozen hbk 6
 have HBK := Lib.hid hbk
 clear hbk hb2
 go_wp2_with (go_at_call 27; refine (HLL.out _).mono ?_; rintro e w3 ⟨rfl, rfl⟩)
 refine bodyPost_ret (results_ct rfl _ _ w.heap.size 39 #[.int .i64 3, .string (s.extract 0 n), .int .i64 2, .int .i64 v, .int .u64 0, .string ⟨#[]⟩, .int .i64 0] (0, 0) _ rfl (tok_set HBK.out (.int .i64 3) (.string (s.extract 0 n)) (.int .i64 2) (.int .i64 v) (.int .u64 0) (.string ⟨#[]⟩) (.int .i64 0)) Tryd.underlying39 rfl (by kernel_rfl)) rfl ⟨?_, ?_⟩
 ·rw [HRES.out]; rfl
 ·exact tok_below HB2.out _ _ _ _ _ _ _
set_option maxRecDepth 100000 in
set_option maxHeartbeats 4000000 in
theorem num_1_bad1 (s : ByteArray) (hs : s.size ≤ 1000) (h0 : 0 < s.size) (hat : numAt s = 1) (hm : (((s[0]'h0).toNat : Int) == 45) = true) (w : World) (hG : GL w) (n : Nat) (hn : numN s = n) (hle : 1 + n ≤ s.size) (hr : lex_run.f (s.extract 1 s.size) 29 = some (n : Int)) (hp : ∀ v, Lib.parseIntB 64 (s.extract 0 (1 + n)).data.toList ≠ .ok v) (b0 : ((n : Int) == 0) = true) :
  Calls Tryd.prog 30 #[.string s] w fun e w' => e = .returned (tokV (numR s)) ∧ Below w.heap.size w w' := by
 have h0i : (0 : Int) < (s.size : Int) := by omega
 have HR := Lib.hid hr
 have hts : (s.extract 0 (1 + n)).size ≤ 281474976710656 := by simp; omega
 have HTS := Lib.hid hts
 have HG := Lib.hid hG
 have hres : numR s = tokNone := by
  unfold numR
  rw [hat, hn]
  split
  ·rename_i v hv
   exact absurd hv (hp v)
  ·rfl
 have HRES := Lib.hid hres
 have HP := Lib.hid hp
 clear hr hts hG hn hat hres hp
 go_enter Tryd.func30, Tryd.ntmps30
 go_wp2_with fail
 refine (lex_run.calls _ 29 n _ HR.out).mono ?_
 rintro e w1 ⟨rfl, hd⟩
 obtain ⟨nd, rfl⟩ := hd.out
 clear hd
 go_wp2_with fail
 refine (pint_bad _ HTS.out HP.out _ (HG.out.of_below (pw_below_drewN (below_alloc (Below.refl _ _) _) _))).mono ?_
 rintro e w2 ⟨v, te, pe, rfl, hb2⟩
 have hbk := blk_below (blk_drewN (blk_new w (.cells #[.int .i64 0, .string ⟨#[]⟩, .int .i64 0, .int .i64 0, .int .u64 0, .string ⟨#[]⟩, .int .i64 0] 39)) nd) hb2
 have HB2 := Lib.hid (below_step (pw_below_drewN (below_alloc (Below.refl w.heap.size w) (.cells #[.int .i64 0, .string ⟨#[]⟩, .int .i64 0, .int .i64 0, .int .u64 0, .string ⟨#[]⟩, .int .i64 0] 39)) nd) hb2)
 have c0 : w2.cell? ⟨w.heap.size, 0, none⟩ = some (.int .i64 0) := (blk_cell hbk 0).trans rfl
 have f0 := blk_frozen hbk 0
 have c1 : w2.cell? ⟨w.heap.size, 1, none⟩ = some (.string ⟨#[]⟩) := (blk_cell hbk 1).trans rfl
 have f1 := blk_frozen hbk 1
 have c2 : w2.cell? ⟨w.heap.size, 2, none⟩ = some (.int .i64 0) := (blk_cell hbk 2).trans rfl
 have f2 := blk_frozen hbk 2
 have c3 : w2.cell? ⟨w.heap.size, 3, none⟩ = some (.int .i64 0) := (blk_cell hbk 3).trans rfl
 have f3 := blk_frozen hbk 3
 have c4 : w2.cell? ⟨w.heap.size, 4, none⟩ = some (.int .u64 0) := (blk_cell hbk 4).trans rfl
 have f4 := blk_frozen hbk 4
 have c5 : w2.cell? ⟨w.heap.size, 5, none⟩ = some (.string ⟨#[]⟩) := (blk_cell hbk 5).trans rfl
 have f5 := blk_frozen hbk 5
 have c6 : w2.cell? ⟨w.heap.size, 6, none⟩ = some (.int .i64 0) := (blk_cell hbk 6).trans rfl
 have f6 := blk_frozen hbk 6
 have HBK := Lib.hid hbk
 clear hbk hb2
 go_wp2
 refine bodyPost_ret (results_ct rfl _ _ w.heap.size 39 #[.int .i64 0, .string ⟨#[]⟩, .int .i64 0, .int .i64 0, .int .u64 0, .string ⟨#[]⟩, .int .i64 0] (0, 0) _ rfl (tok_set HBK.out (.int .i64 0) (.string ⟨#[]⟩) (.int .i64 0) (.int .i64 0) (.int .u64 0) (.string ⟨#[]⟩) (.int .i64 0)) Tryd.underlying39 rfl (by kernel_rfl)) rfl ⟨?_, ?_⟩
 ·rw [HRES.out]; rfl
 ·exact tok_below HB2.out _ _ _ _ _ _ _
set_option maxRecDepth 100000 in
set_option maxHeartbeats 4000000 in
theorem num_1_bad0 (s : ByteArray) (hs : s.size ≤ 1000) (h0 : 0 < s.size) (hat : numAt s = 1) (hm : (((s[0]'h0).toNat : Int) == 45) = true) (w : World) (hG : GL w) (n : Nat) (hn : numN s = n) (hle : 1 + n ≤ s.size) (hr : lex_run.f (s.extract 1 s.size) 29 = some (n : Int)) (hp : ∀ v, Lib.parseIntB 64 (s.extract 0 (1 + n)).data.toList ≠ .ok v) (b0 : ((n : Int) == 0) = false) :
  Calls Tryd.prog 30 #[.string s] w fun e w' => e = .returned (tokV (numR s)) ∧ Below w.heap.size w w' := by
 have h0i : (0 : Int) < (s.size : Int) := by omega
 have HR := Lib.hid hr
 have hts : (s.extract 0 (1 + n)).size ≤ 281474976710656 := by simp; omega
 have HTS := Lib.hid hts
 have HG := Lib.hid hG
 have hres : numR s = tokNone := by
  unfold numR
  rw [hat, hn]
  split
  ·rename_i v hv
   exact absurd hv (hp v)
  ·rfl
 have HRES := Lib.hid hres
 have HP := Lib.hid hp
 clear hr hts hG hn hat hres hp
 go_enter Tryd.func30, Tryd.ntmps30
 go_wp2_with fail
 refine (lex_run.calls _ 29 n _ HR.out).mono ?_
 rintro e w1 ⟨rfl, hd⟩
 obtain ⟨nd, rfl⟩ := hd.out
 clear hd
 go_wp2_with fail
 refine (pint_bad _ HTS.out HP.out _ (HG.out.of_below (pw_below_drewN (below_alloc (Below.refl _ _) _) _))).mono ?_
 rintro e w2 ⟨v, te, pe, rfl, hb2⟩
 have hbk := blk_below (blk_drewN (blk_new w (.cells #[.int .i64 0, .string ⟨#[]⟩, .int .i64 0, .int .i64 0, .int .u64 0, .string ⟨#[]⟩, .int .i64 0] 39)) nd) hb2
 have HB2 := Lib.hid (below_step (pw_below_drewN (below_alloc (Below.refl w.heap.size w) (.cells #[.int .i64 0, .string ⟨#[]⟩, .int .i64 0, .int .i64 0, .int .u64 0, .string ⟨#[]⟩, .int .i64 0] 39)) nd) hb2)
 have c0 : w2.cell? ⟨w.heap.size, 0, none⟩ = some (.int .i64 0) := (blk_cell hbk 0).trans rfl
 have f0 := blk_frozen hbk 0
 have c1 : w2.cell? ⟨w.heap.size, 1, none⟩ = some (.string ⟨#[]⟩) := (blk_cell hbk 1).trans rfl
 have f1 := blk_frozen hbk 1
 have c2 : w2.cell? ⟨w.heap.size, 2, none⟩ = some (.int .i64 0) := (blk_cell hbk 2).trans rfl
 have f2 := blk_frozen hbk 2
 have c3 : w2.cell? ⟨w.heap.size, 3, none⟩ = some (.int .i64 0) := (blk_cell hbk 3).trans rfl
 have f3 := blk_frozen hbk 3
 have c4 : w2.cell? ⟨w.heap.size, 4, none⟩ = some (.int .u64 0) := (blk_cell hbk 4).trans rfl
 have f4 := blk_frozen hbk 4
 have c5 : w2.cell? ⟨w.heap.size, 5, none⟩ = some (.string ⟨#[]⟩) := (blk_cell hbk 5).trans rfl
 have f5 := blk_frozen hbk 5
 have c6 : w2.cell? ⟨w.heap.size, 6, none⟩ = some (.int .i64 0) := (blk_cell hbk 6).trans rfl
 have f6 := blk_frozen hbk 6
 have HBK := Lib.hid hbk
 clear hbk hb2
 go_wp2
 refine bodyPost_ret (results_ct rfl _ _ w.heap.size 39 #[.int .i64 0, .string ⟨#[]⟩, .int .i64 0, .int .i64 0, .int .u64 0, .string ⟨#[]⟩, .int .i64 0] (0, 0) _ rfl (tok_set HBK.out (.int .i64 0) (.string ⟨#[]⟩) (.int .i64 0) (.int .i64 0) (.int .u64 0) (.string ⟨#[]⟩) (.int .i64 0)) Tryd.underlying39 rfl (by kernel_rfl)) rfl ⟨?_, ?_⟩
 ·rw [HRES.out]; rfl
 ·exact tok_below HB2.out _ _ _ _ _ _ _
set_option maxRecDepth 100000 in
set_option maxHeartbeats 4000000 in
theorem num_1_none (s : ByteArray) (hs : s.size ≤ 1000) (h0 : 0 < s.size) (hat : numAt s = 1) (hm : (((s[0]'h0).toNat : Int) == 45) = true) (w : World) (hG : GL w) (n : Nat) (hn : numN s = n) (hle : 1 + n ≤ s.size) (hr : lex_run.f (s.extract 1 s.size) 29 = some (n : Int)) (v : Int) (hp : Lib.parseIntB 64 (s.extract 0 (1 + n)).data.toList = .ok v) (b0 : ((n : Int) == 0) = true) (hb : numBad s 1 n = true) :
  Calls Tryd.prog 30 #[.string s] w fun e w' => e = .returned (tokV (numR s)) ∧ Below w.heap.size w w' := by
 have h0i : (0 : Int) < (s.size : Int) := by omega
 have HR := Lib.hid hr
 have hts : (s.extract 0 (1 + n)).size ≤ 281474976710656 := by simp; omega
 have HTS := Lib.hid hts
 have HG := Lib.hid hG
 have hres : numR s = tokNone := by
  unfold numR
  rw [hat, hn]
  rw [hp]
  simp only [hb, if_true]
 have HRES := Lib.hid hres
 have HP := Lib.hid hp
 clear hr hts hG hn hat hres hp hb
 go_enter Tryd.func30, Tryd.ntmps30
 go_wp2_with fail
 refine (lex_run.calls _ 29 n _ HR.out).mono ?_
 rintro e w1 ⟨rfl, hd⟩
 obtain ⟨nd, rfl⟩ := hd.out
 clear hd
 go_wp2_with fail
 refine (pint_ok _ HTS.out v HP.out _).mono ?_
 rintro e w2 ⟨rfl, hb2⟩
 have hbk := blk_below (blk_drewN (blk_new w (.cells #[.int .i64 0, .string ⟨#[]⟩, .int .i64 0, .int .i64 0, .int .u64 0, .string ⟨#[]⟩, .int .i64 0] 39)) nd) hb2
 have HB2 := Lib.hid (below_step (pw_below_drewN (below_alloc (Below.refl w.heap.size w) (.cells #[.int .i64 0, .string ⟨#[]⟩, .int .i64 0, .int .i64 0, .int .u64 0, .string ⟨#[]⟩, .int .i64 0] 39)) nd) hb2)
 have c0 : w2.cell? ⟨w.heap.size, 0, none⟩ = some (.int .i64 0) := (blk_cell hbk 0).trans rfl
 have f0 := blk_frozen hbk 0
 have c1 : w2.cell? ⟨w.heap.size, 1, none⟩ = some (.string ⟨#[]⟩) := (blk_cell hbk 1).trans rfl
 have f1 := blk_frozen hbk 1
 have c2 : w2.cell? ⟨w.heap.size, 2, none⟩ = some (.int .i64 0) := (blk_cell hbk 2).trans rfl
 have f2 := blk_frozen hbk 2
 have c3 : w2.cell? ⟨w.heap.size, 3, none⟩ = some (.int .i64 0) := (blk_cell hbk 3).trans rfl
 have f3 := blk_frozen hbk 3
 have c4 : w2.cell? ⟨w.heap.size, 4, none⟩ = some (.int .u64 0) := (blk_cell hbk 4).trans rfl
 have f4 := blk_frozen hbk 4
 have c5 : w2.cell? ⟨w.heap.size, 5, none⟩ = some (.string ⟨#[]⟩) := (blk_cell hbk 5).trans rfl
 have f5 := blk_frozen hbk 5
 have c6 : w2.cell? ⟨w.heap.size, 6, none⟩ = some (.int .i64 0) := (blk_cell hbk 6).trans rfl
 have f6 := blk_frozen hbk 6
 have HBK := Lib.hid hbk
 clear hbk hb2
 go_wp2
 refine bodyPost_ret (results_ct rfl _ _ w.heap.size 39 #[.int .i64 0, .string ⟨#[]⟩, .int .i64 0, .int .i64 0, .int .u64 0, .string ⟨#[]⟩, .int .i64 0] (0, 0) _ rfl (tok_set HBK.out (.int .i64 0) (.string ⟨#[]⟩) (.int .i64 0) (.int .i64 0) (.int .u64 0) (.string ⟨#[]⟩) (.int .i64 0)) Tryd.underlying39 rfl (by kernel_rfl)) rfl ⟨?_, ?_⟩
 ·rw [HRES.out]; rfl
 ·exact tok_below HB2.out _ _ _ _ _ _ _
set_option maxRecDepth 100000 in
set_option maxHeartbeats 4000000 in
theorem num_1_nought (s : ByteArray) (hs : s.size ≤ 1000) (h0 : 0 < s.size) (hat : numAt s = 1) (hm : (((s[0]'h0).toNat : Int) == 45) = true) (w : World) (hG : GL w) (n : Nat) (hn : numN s = n) (hle : 1 + n ≤ s.size) (hr : lex_run.f (s.extract 1 s.size) 29 = some (n : Int)) (v : Int) (hp : Lib.parseIntB 64 (s.extract 0 (1 + n)).data.toList = .ok v) (b0 : ((n : Int) == 0) = false) (h1 : 1 < s.size) (b1 : (((s[1]'h1).toNat : Int) == 48) = true) (b2 : decide ((1 : Int) < (n : Int)) = true) (hb : numBad s 1 n = true) :
  Calls Tryd.prog 30 #[.string s] w fun e w' => e = .returned (tokV (numR s)) ∧ Below w.heap.size w w' := by
 have h0i : (0 : Int) < (s.size : Int) := by omega
 have HR := Lib.hid hr
 have hts : (s.extract 0 (1 + n)).size ≤ 281474976710656 := by simp; omega
 have HTS := Lib.hid hts
 have HG := Lib.hid hG
 have h1i : (1 : Int) < (s.size : Int) := by omega
 have hres : numR s = tokNone := by
  unfold numR
  rw [hat, hn]
  rw [hp]
  simp only [hb, if_true]
 have HRES := Lib.hid hres
 have HP := Lib.hid hp
 clear hr hts hG hn hat hres hp hb
 go_enter Tryd.func30, Tryd.ntmps30
 go_wp2_with fail
 refine (lex_run.calls _ 29 n _ HR.out).mono ?_
 rintro e w1 ⟨rfl, hd⟩
 obtain ⟨nd, rfl⟩ := hd.out
 clear hd
 go_wp2_with fail
 refine (pint_ok _ HTS.out v HP.out _).mono ?_
 rintro e w2 ⟨rfl, hb2⟩
 have hbk := blk_below (blk_drewN (blk_new w (.cells #[.int .i64 0, .string ⟨#[]⟩, .int .i64 0, .int .i64 0, .int .u64 0, .string ⟨#[]⟩, .int .i64 0] 39)) nd) hb2
 have HB2 := Lib.hid (below_step (pw_below_drewN (below_alloc (Below.refl w.heap.size w) (.cells #[.int .i64 0, .string ⟨#[]⟩, .int .i64 0, .int .i64 0, .int .u64 0, .string ⟨#[]⟩, .int .i64 0] 39)) nd) hb2)
 have c0 : w2.cell? ⟨w.heap.size, 0, none⟩ = some (.int .i64 0) := (blk_cell hbk 0).trans rfl
 have f0 := blk_frozen hbk 0
 have c1 : w2.cell? ⟨w.heap.size, 1, none⟩ = some (.string ⟨#[]⟩) := (blk_cell hbk 1).trans rfl
 have f1 := blk_frozen hbk 1
 have c2 : w2.cell? ⟨w.heap.size, 2, none⟩ = some (.int .i64 0) := (blk_cell hbk 2).trans rfl
 have f2 := blk_frozen hbk 2
 have c3 : w2.cell? ⟨w.heap.size, 3, none⟩ = some (.int .i64 0) := (blk_cell hbk 3).trans rfl
 have f3 := blk_frozen hbk 3
 have c4 : w2.cell? ⟨w.heap.size, 4, none⟩ = some (.int .u64 0) := (blk_cell hbk 4).trans rfl
 have f4 := blk_frozen hbk 4
 have c5 : w2.cell? ⟨w.heap.size, 5, none⟩ = some (.string ⟨#[]⟩) := (blk_cell hbk 5).trans rfl
 have f5 := blk_frozen hbk 5
 have c6 : w2.cell? ⟨w.heap.size, 6, none⟩ = some (.int .i64 0) := (blk_cell hbk 6).trans rfl
 have f6 := blk_frozen hbk 6
 have HBK := Lib.hid hbk
 clear hbk hb2
 go_wp2
 refine bodyPost_ret (results_ct rfl _ _ w.heap.size 39 #[.int .i64 0, .string ⟨#[]⟩, .int .i64 0, .int .i64 0, .int .u64 0, .string ⟨#[]⟩, .int .i64 0] (0, 0) _ rfl (tok_set HBK.out (.int .i64 0) (.string ⟨#[]⟩) (.int .i64 0) (.int .i64 0) (.int .u64 0) (.string ⟨#[]⟩) (.int .i64 0)) Tryd.underlying39 rfl (by kernel_rfl)) rfl ⟨?_, ?_⟩
 ·rw [HRES.out]; rfl
 ·exact tok_below HB2.out _ _ _ _ _ _ _
set_option maxRecDepth 100000 in
set_option maxHeartbeats 4000000 in
theorem num_1_minus (s : ByteArray) (hs : s.size ≤ 1000) (h0 : 0 < s.size) (hat : numAt s = 1) (hm : (((s[0]'h0).toNat : Int) == 45) = true) (w : World) (hG : GL w) (n : Nat) (hn : numN s = n) (hle : 1 + n ≤ s.size) (hr : lex_run.f (s.extract 1 s.size) 29 = some (n : Int)) (v : Int) (hp : Lib.parseIntB 64 (s.extract 0 (1 + n)).data.toList = .ok v) (b0 : ((n : Int) == 0) = false) (h1 : 1 < s.size) (b1 : (((s[1]'h1).toNat : Int) == 48) = true) (b2 : decide ((1 : Int) < (n : Int)) = false) (hb : numBad s 1 n = true) :
  Calls Tryd.prog 30 #[.string s] w fun e w' => e = .returned (tokV (numR s)) ∧ Below w.heap.size w w' := by
 have h0i : (0 : Int) < (s.size : Int) := by omega
 have HR := Lib.hid hr
 have hts : (s.extract 0 (1 + n)).size ≤ 281474976710656 := by simp; omega
 have HTS := Lib.hid hts
 have HG := Lib.hid hG
 have h1i : (1 : Int) < (s.size : Int) := by omega
 have hres : numR s = tokNone := by
  unfold numR
  rw [hat, hn]
  rw [hp]
  simp only [hb, if_true]
 have HRES := Lib.hid hres
 have HP := Lib.hid hp
 clear hr hts hG hn hat hres hp hb
 go_enter Tryd.func30, Tryd.ntmps30
 go_wp2_with fail
 refine (lex_run.calls _ 29 n _ HR.out).mono ?_
 rintro e w1 ⟨rfl, hd⟩
 obtain ⟨nd, rfl⟩ := hd.out
 clear hd
 go_wp2_with fail
 refine (pint_ok _ HTS.out v HP.out _).mono ?_
 rintro e w2 ⟨rfl, hb2⟩
 have hbk := blk_below (blk_drewN (blk_new w (.cells #[.int .i64 0, .string ⟨#[]⟩, .int .i64 0, .int .i64 0, .int .u64 0, .string ⟨#[]⟩, .int .i64 0] 39)) nd) hb2
 have HB2 := Lib.hid (below_step (pw_below_drewN (below_alloc (Below.refl w.heap.size w) (.cells #[.int .i64 0, .string ⟨#[]⟩, .int .i64 0, .int .i64 0, .int .u64 0, .string ⟨#[]⟩, .int .i64 0] 39)) nd) hb2)
 have c0 : w2.cell? ⟨w.heap.size, 0, none⟩ = some (.int .i64 0) := (blk_cell hbk 0).trans rfl
 have f0 := blk_frozen hbk 0
 have c1 : w2.cell? ⟨w.heap.size, 1, none⟩ = some (.string ⟨#[]⟩) := (blk_cell hbk 1).trans rfl
 have f1 := blk_frozen hbk 1
 have c2 : w2.cell? ⟨w.heap.size, 2, none⟩ = some (.int .i64 0) := (blk_cell hbk 2).trans rfl
 have f2 := blk_frozen hbk 2
 have c3 : w2.cell? ⟨w.heap.size, 3, none⟩ = some (.int .i64 0) := (blk_cell hbk 3).trans rfl
 have f3 := blk_frozen hbk 3
 have c4 : w2.cell? ⟨w.heap.size, 4, none⟩ = some (.int .u64 0) := (blk_cell hbk 4).trans rfl
 have f4 := blk_frozen hbk 4
 have c5 : w2.cell? ⟨w.heap.size, 5, none⟩ = some (.string ⟨#[]⟩) := (blk_cell hbk 5).trans rfl
 have f5 := blk_frozen hbk 5
 have c6 : w2.cell? ⟨w.heap.size, 6, none⟩ = some (.int .i64 0) := (blk_cell hbk 6).trans rfl
 have f6 := blk_frozen hbk 6
 have HBK := Lib.hid hbk
 clear hbk hb2
 go_wp2
 refine bodyPost_ret (results_ct rfl _ _ w.heap.size 39 #[.int .i64 0, .string ⟨#[]⟩, .int .i64 0, .int .i64 0, .int .u64 0, .string ⟨#[]⟩, .int .i64 0] (0, 0) _ rfl (tok_set HBK.out (.int .i64 0) (.string ⟨#[]⟩) (.int .i64 0) (.int .i64 0) (.int .u64 0) (.string ⟨#[]⟩) (.int .i64 0)) Tryd.underlying39 rfl (by kernel_rfl)) rfl ⟨?_, ?_⟩
 ·rw [HRES.out]; rfl
 ·exact tok_below HB2.out _ _ _ _ _ _ _
set_option maxRecDepth 100000 in
set_option maxHeartbeats 4000000 in
theorem num_1_endd (s : ByteArray) (hs : s.size ≤ 1000) (h0 : 0 < s.size) (hat : numAt s = 1) (hm : (((s[0]'h0).toNat : Int) == 45) = true) (w : World) (hG : GL w) (n : Nat) (hn : numN s = n) (hle : 1 + n ≤ s.size) (hr : lex_run.f (s.extract 1 s.size) 29 = some (n : Int)) (v : Int) (hp : Lib.parseIntB 64 (s.extract 0 (1 + n)).data.toList = .ok v) (b0 : ((n : Int) == 0) = false) (h1 : 1 < s.size) (b1 : (((s[1]'h1).toNat : Int) == 48) = false) (b4 : (s.extract (1 + n) s.size).toList.isEmpty = true) (b4e : (s.extract (1 + n) s.size).toList = []) (hb : numBad s 1 n = false) :
  Calls Tryd.prog 30 #[.string s] w fun e w' => e = .returned (tokV (numR s)) ∧ Below w.heap.size w w' := by
 have h0i : (0 : Int) < (s.size : Int) := by omega
 have HR := Lib.hid hr
 have hts : (s.extract 0 (1 + n)).size ≤ 281474976710656 := by simp; omega
 have HTS := Lib.hid hts
 have HG := Lib.hid hG
 have h1i : (1 : Int) < (s.size : Int) := by omega
 have hres : numR s = (3, (s.extract 0 (1 + n)), 2, v, 0, ⟨#[]⟩, 0, ((1 + n : Nat) : Int)) := by
  unfold numR
  rw [hat, hn]
  rw [hp]
  simp only [hb, Bool.false_eq_true, if_false]
 have HE4 := Lib.hid b4e
 clear b4e
 have HRES := Lib.hid hres
 have HP := Lib.hid hp
 clear hr hts hG hn hat hres hp hb
 go_enter Tryd.func30, Tryd.ntmps30
 go_wp2_with fail
 refine (lex_run.calls _ 29 n _ HR.out).mono ?_
 rintro e w1 ⟨rfl, hd⟩
 obtain ⟨nd, rfl⟩ := hd.out
 clear hd
 go_wp2_with fail
 refine (pint_ok _ HTS.out v HP.out _).mono ?_
 rintro e w2 ⟨rfl, hb2⟩
 have hbk := blk_below (blk_drewN (blk_new w (.cells #[.int .i64 0, .string ⟨#[]⟩, .int .i64 0, .int .i64 0, .int .u64 0, .string ⟨#[]⟩, .int .i64 0] 39)) nd) hb2
 have HB2 := Lib.hid (below_step (pw_below_drewN (below_alloc (Below.refl w.heap.size w) (.cells #[.int .i64 0, .string ⟨#[]⟩, .int .i64 0, .int .i64 0, .int .u64 0, .string ⟨#[]⟩, .int .i64 0] 39)) nd) hb2)
 have c0 : w2.cell? ⟨w.heap.size, 0, none⟩ = some (.int .i64 0) := (blk_cell hbk 0).trans rfl
 have f0 := blk_frozen hbk 0
 have c1 : w2.cell? ⟨w.heap.size, 1, none⟩ = some (.string ⟨#[]⟩) := (blk_cell hbk 1).trans rfl
 have f1 := blk_frozen hbk 1
 have c2 : w2.cell? ⟨w.heap.size, 2, none⟩ = some (.int .i64 0) := (blk_cell hbk 2).trans rfl
 have f2 := blk_frozen hbk 2
 have c3 : w2.cell? ⟨w.heap.size, 3, none⟩ = some (.int .i64 0) := (blk_cell hbk 3).trans rfl
 have f3 := blk_frozen hbk 3
 have c4 : w2.cell? ⟨w.heap.size, 4, none⟩ = some (.int .u64 0) := (blk_cell hbk 4).trans rfl
 have f4 := blk_frozen hbk 4
 have c5 : w2.cell? ⟨w.heap.size, 5, none⟩ = some (.string ⟨#[]⟩) := (blk_cell hbk 5).trans rfl
 have f5 := blk_frozen hbk 5
 have c6 : w2.cell? ⟨w.heap.size, 6, none⟩ = some (.int .i64 0) := (blk_cell hbk 6).trans rfl
 have f6 := blk_frozen hbk 6
 have HBK := Lib.hid hbk
 clear hbk hb2
 go_wp2
 refine bodyPost_ret (results_ct rfl _ _ w.heap.size 39 #[.int .i64 3, .string (s.extract 0 (1 + n)), .int .i64 2, .int .i64 v, .int .u64 0, .string ⟨#[]⟩, .int .i64 0] (0, 0) _ rfl (tok_set HBK.out (.int .i64 3) (.string (s.extract 0 (1 + n))) (.int .i64 2) (.int .i64 v) (.int .u64 0) (.string ⟨#[]⟩) (.int .i64 0)) Tryd.underlying39 rfl (by kernel_rfl)) rfl ⟨?_, ?_⟩
 ·rw [HRES.out]; rfl
 ·exact tok_below HB2.out _ _ _ _ _ _ _
set_option maxRecDepth 100000 in
set_option maxHeartbeats 4000000 in
theorem num_1_lowd (s : ByteArray) (hs : s.size ≤ 1000) (h0 : 0 < s.size) (hat : numAt s = 1) (hm : (((s[0]'h0).toNat : Int) == 45) = true) (w : World) (hG : GL w) (n : Nat) (hn : numN s = n) (hle : 1 + n ≤ s.size) (hr : lex_run.f (s.extract 1 s.size) 29 = some (n : Int)) (v : Int) (hp : Lib.parseIntB 64 (s.extract 0 (1 + n)).data.toList = .ok v) (b0 : ((n : Int) == 0) = false) (h1 : 1 < s.size) (b1 : (((s[1]'h1).toNat : Int) == 48) = false) (hr1 : 0 < (s.extract (1 + n) s.size).size) (b4 : (s.extract (1 + n) s.size).toList.isEmpty = false) (b5 : isLow ((s.extract (1 + n) s.size)[0]'hr1) = true) (hb : numBad s 1 n = true) :
  Calls Tryd.prog 30 #[.string s] w fun e w' => e = .returned (tokV (numR s)) ∧ Below w.heap.size w w' := by
 have h0i : (0 : Int) < (s.size : Int) := by omega
 have HR := Lib.hid hr
 have hts : (s.extract 0 (1 + n)).size ≤ 281474976710656 := by simp; omega
 have HTS := Lib.hid hts
 have HG := Lib.hid hG
 have h1i : (1 : Int) < (s.size : Int) := by omega
 have hri : (0 : Int) < ((s.extract (1 + n) s.size).size : Int) := by omega
 have hrn : 0 < s.size - (1 + n) := by rw [ByteArray.size_extract] at hr1; omega
 have HL := low_calls ((s.extract (1 + n) s.size)[0]'hr1)
 rw [b5] at HL
 have HLL := Lib.hid HL
 have hres : numR s = tokNone := by
  unfold numR
  rw [hat, hn]
  rw [hp]
  simp only [hb, if_true]
 have HRES := Lib.hid hres
 have HP := Lib.hid hp
 clear hr hts hG hn hat hres hp hb HL b5
 go_enter Tryd.func30, Tryd.ntmps30
 go_wp2_with fail
 refine (lex_run.calls _ 29 n _ HR.out).mono ?_
 rintro e w1 ⟨rfl, hd⟩
 obtain ⟨nd, rfl⟩ := hd.out
 clear hd
 go_wp2_with fail
 refine (pint_ok _ HTS.out v HP.out _).mono ?_
 rintro e w2 ⟨rfl, hb2⟩
 have hbk := blk_below (blk_drewN (blk_new w (.cells #[.int .i64 0, .string ⟨#[]⟩, .int .i64 0, .int .i64 0, .int .u64 0, .string ⟨#[]⟩, .int .i64 0] 39)) nd) hb2
 have HB2 := Lib.hid (below_step (pw_below_drewN (below_alloc (Below.refl w.heap.size w) (.cells #[.int .i64 0, .string ⟨#[]⟩, .int .i64 0, .int .i64 0, .int .u64 0, .string ⟨#[]⟩, .int .i64 0] 39)) nd) hb2)
 have c0 : w2.cell? ⟨w.heap.size, 0, none⟩ = some (.int .i64 0) := (blk_cell hbk 0).trans rfl
 have f0 := blk_frozen hbk 0
 have c1 : w2.cell? ⟨w.heap.size, 1, none⟩ = some (.string ⟨#[]⟩) := (blk_cell hbk 1).trans rfl
 have f1 := blk_frozen hbk 1
 have c2 : w2.cell? ⟨w.heap.size, 2, none⟩ = some (.int .i64 0) := (blk_cell hbk 2).trans rfl
 have f2 := blk_frozen hbk 2
 have c3 : w2.cell? ⟨w.heap.size, 3, none⟩ = some (.int .i64 0) := (blk_cell hbk 3).trans rfl
 have f3 := blk_frozen hbk 3
 have c4 : w2.cell? ⟨w.heap.size, 4, none⟩ = some (.int .u64 0) := (blk_cell hbk 4).trans rfl
 have f4 := blk_frozen hbk 4
 have c5 : w2.cell? ⟨w.heap.size, 5, none⟩ = some (.string ⟨#[]⟩) := (blk_cell hbk 5).trans rfl
 have f5 := blk_frozen hbk 5
 have c6 : w2.cell? ⟨w.heap.size, 6, none⟩ = some (.int .i64 0) := (blk_cell hbk 6).trans rfl
 have f6 := blk_frozen hbk 6
 have HBK := Lib.hid hbk
 clear hbk hb2
 go_wp2_with (go_at_call 27; refine (HLL.out _).mono ?_; rintro e w3 ⟨rfl, rfl⟩)
 refine bodyPost_ret (results_ct rfl _ _ w.heap.size 39 #[.int .i64 0, .string ⟨#[]⟩, .int .i64 0, .int .i64 0, .int .u64 0, .string ⟨#[]⟩, .int .i64 0] (0, 0) _ rfl (tok_set HBK.out (.int .i64 0) (.string ⟨#[]⟩) (.int .i64 0) (.int .i64 0) (.int .u64 0) (.string ⟨#[]⟩) (.int .i64 0)) Tryd.underlying39 rfl (by kernel_rfl)) rfl ⟨?_, ?_⟩
 ·rw [HRES.out]; rfl
 ·exact tok_below HB2.out _ _ _ _ _ _ _
set_option maxRecDepth 100000 in
set_option maxHeartbeats 4000000 in
theorem num_1_undd (s : ByteArray) (hs : s.size ≤ 1000) (h0 : 0 < s.size) (hat : numAt s = 1) (hm : (((s[0]'h0).toNat : Int) == 45) = true) (w : World) (hG : GL w) (n : Nat) (hn : numN s = n) (hle : 1 + n ≤ s.size) (hr : lex_run.f (s.extract 1 s.size) 29 = some (n : Int)) (v : Int) (hp : Lib.parseIntB 64 (s.extract 0 (1 + n)).data.toList = .ok v) (b0 : ((n : Int) == 0) = false) (h1 : 1 < s.size) (b1 : (((s[1]'h1).toNat : Int) == 48) = false) (hr1 : 0 < (s.extract (1 + n) s.size).size) (b4 : (s.extract (1 + n) s.size).toList.isEmpty = false) (b5 : isLow ((s.extract (1 + n) s.size)[0]'hr1) = false) (b6 : ((((s.extract (1 + n) s.size)[0]'hr1).toNat : Int) == 95) = true) (hb : numBad s 1 n = true) :
  Calls Tryd.prog 30 #[.string s] w fun e w' => e = .returned (tokV (numR s)) ∧ Below w.heap.size w w' := by
 have h0i : (0 : Int) < (s.size : Int) := by omega
 have HR := Lib.hid hr
 have hts : (s.extract 0 (1 + n)).size ≤ 281474976710656 := by simp; omega
 have HTS := Lib.hid hts
 have HG := Lib.hid hG
 have h1i : (1 : Int) < (s.size : Int) := by omega
 have hri : (0 : Int) < ((s.extract (1 + n) s.size).size : Int) := by omega
 have hrn : 0 < s.size - (1 + n) := by rw [ByteArray.size_extract] at hr1; omega
 have HL := low_calls ((s.extract (1 + n) s.size)[0]'hr1)
 rw [b5] at HL
 have HLL := Lib.hid HL
 have hres : numR s = tokNone := by
  unfold numR
  rw [hat, hn]
  rw [hp]
  simp only [hb, if_true]
 have HRES := Lib.hid hres
 have HP := Lib.hid hp
 clear hr hts hG hn hat hres hp hb HL b5
 go_enter Tryd.func30, Tryd.ntmps30
 go_wp2_with fail
 refine (lex_run.calls _ 29 n _ HR.out).mono ?_
 rintro e w1 ⟨rfl, hd⟩
 obtain ⟨nd, rfl⟩ := hd.out
 clear hd
 go_wp2_with fail
 refine (pint_ok _ HTS.out v HP.out _).mono ?_
 rintro e w2 ⟨rfl, hb2⟩
 have hbk := blk_below (blk_drewN (blk_new w (.cells #[.int .i64 0, .string ⟨#[]⟩, .int .i64 0, .int .i64 0, .int .u64 0, .string ⟨#[]⟩, .int .i64 0] 39)) nd) hb2
 have HB2 := Lib.hid (below_step (pw_below_drewN (below_alloc (Below.refl w.heap.size w) (.cells #[.int .i64 0, .string ⟨#[]⟩, .int .i64 0, .int .i64 0, .int .u64 0, .string ⟨#[]⟩, .int .i64 0] 39)) nd) hb2)
 have c0 : w2.cell? ⟨w.heap.size, 0, none⟩ = some (.int .i64 0) := (blk_cell hbk 0).trans rfl
 have f0 := blk_frozen hbk 0
 have c1 : w2.cell? ⟨w.heap.size, 1, none⟩ = some (.string ⟨#[]⟩) := (blk_cell hbk 1).trans rfl
 have f1 := blk_frozen hbk 1
 have c2 : w2.cell? ⟨w.heap.size, 2, none⟩ = some (.int .i64 0) := (blk_cell hbk 2).trans rfl
 have f2 := blk_frozen hbk 2
 have c3 : w2.cell? ⟨w.heap.size, 3, none⟩ = some (.int .i64 0) := (blk_cell hbk 3).trans rfl
 have f3 := blk_frozen hbk 3
 have c4 : w2.cell? ⟨w.heap.size, 4, none⟩ = some (.int .u64 0) := (blk_cell hbk 4).trans rfl
 have f4 := blk_frozen hbk 4
 have c5 : w2.cell? ⟨w.heap.size, 5, none⟩ = some (.string ⟨#[]⟩) := (blk_cell hbk 5).trans rfl
 have f5 := blk_frozen hbk 5
 have c6 : w2.cell? ⟨w.heap.size, 6, none⟩ = some (.int .i64 0) := (blk_cell hbk 6).trans rfl
 have f6 := blk_frozen hbk 6
 have HBK := Lib.hid hbk
 clear hbk hb2
 go_wp2_with (go_at_call 27; refine (HLL.out _).mono ?_; rintro e w3 ⟨rfl, rfl⟩)
 refine bodyPost_ret (results_ct rfl _ _ w.heap.size 39 #[.int .i64 0, .string ⟨#[]⟩, .int .i64 0, .int .i64 0, .int .u64 0, .string ⟨#[]⟩, .int .i64 0] (0, 0) _ rfl (tok_set HBK.out (.int .i64 0) (.string ⟨#[]⟩) (.int .i64 0) (.int .i64 0) (.int .u64 0) (.string ⟨#[]⟩) (.int .i64 0)) Tryd.underlying39 rfl (by kernel_rfl)) rfl ⟨?_, ?_⟩
 ·rw [HRES.out]; rfl
 ·exact tok_below HB2.out _ _ _ _ _ _ _
set_option maxRecDepth 100000 in
set_option maxHeartbeats 4000000 in
theorem num_1_yesd (s : ByteArray) (hs : s.size ≤ 1000) (h0 : 0 < s.size) (hat : numAt s = 1) (hm : (((s[0]'h0).toNat : Int) == 45) = true) (w : World) (hG : GL w) (n : Nat) (hn : numN s = n) (hle : 1 + n ≤ s.size) (hr : lex_run.f (s.extract 1 s.size) 29 = some (n : Int)) (v : Int) (hp : Lib.parseIntB 64 (s.extract 0 (1 + n)).data.toList = .ok v) (b0 : ((n : Int) == 0) = false) (h1 : 1 < s.size) (b1 : (((s[1]'h1).toNat : Int) == 48) = false) (hr1 : 0 < (s.extract (1 + n) s.size).size) (b4 : (s.extract (1 + n) s.size).toList.isEmpty = false) (b5 : isLow ((s.extract (1 + n) s.size)[0]'hr1) = false) (b6 : ((((s.extract (1 + n) s.size)[0]'hr1).toNat : Int) == 95) = false) (hb : numBad s 1 n = false) :
  Calls Tryd.prog 30 #[.string s] w fun e w' => e = .returned (tokV (numR s)) ∧ Below w.heap.size w w' := by
 have h0i : (0 : Int) < (s.size : Int) := by omega
 have HR := Lib.hid hr
 have hts : (s.extract 0 (1 + n)).size ≤ 281474976710656 := by simp; omega
 have HTS := Lib.hid hts
 have HG := Lib.hid hG
 have h1i : (1 : Int) < (s.size : Int) := by omega
 have hri : (0 : Int) < ((s.extract (1 + n) s.size).size : Int) := by omega
 have hrn : 0 < s.size - (1 + n) := by rw [ByteArray.size_extract] at hr1; omega
 have HL := low_calls ((s.extract (1 + n) s.size)[0]'hr1)
 rw [b5] at HL
 have HLL := Lib.hid HL
 have hres : numR s = (3, (s.extract 0 (1 + n)), 2, v, 0, ⟨#[]⟩, 0, ((1 + n : Nat) : Int)) := by
  unfold numR
  rw [hat, hn]
  rw [hp]
  simp only [hb, Bool.false_eq_true, if_false]
 have HRES := Lib.hid hres
 have HP := Lib.hid hp
 clear hr hts hG hn hat hres hp hb HL b5
 go_enter Tryd.func30, Tryd.ntmps30
 go_wp2_with fail
 refine (lex_run.calls _ 29 n _ HR.out).mono ?_
 rintro e w1 ⟨rfl, hd⟩
 obtain ⟨nd, rfl⟩ := hd.out
 clear hd
 go_wp2_with fail
 refine (pint_ok _ HTS.out v HP.out _).mono ?_
 rintro e w2 ⟨rfl, hb2⟩
 have hbk := blk_below (blk_drewN (blk_new w (.cells #[.int .i64 0, .string ⟨#[]⟩, .int .i64 0, .int .i64 0, .int .u64 0, .string ⟨#[]⟩, .int .i64 0] 39)) nd) hb2
 have HB2 := Lib.hid (below_step (pw_below_drewN (below_alloc (Below.refl w.heap.size w) (.cells #[.int .i64 0, .string ⟨#[]⟩, .int .i64 0, .int .i64 0, .int .u64 0, .string ⟨#[]⟩, .int .i64 0] 39)) nd) hb2)
 have c0 : w2.cell? ⟨w.heap.size, 0, none⟩ = some (.int .i64 0) := (blk_cell hbk 0).trans rfl
 have f0 := blk_frozen hbk 0
 have c1 : w2.cell? ⟨w.heap.size, 1, none⟩ = some (.string ⟨#[]⟩) := (blk_cell hbk 1).trans rfl
 have f1 := blk_frozen hbk 1
 have c2 : w2.cell? ⟨w.heap.size, 2, none⟩ = some (.int .i64 0) := (blk_cell hbk 2).trans rfl
 have f2 := blk_frozen hbk 2
 have c3 : w2.cell? ⟨w.heap.size, 3, none⟩ = some (.int .i64 0) := (blk_cell hbk 3).trans rfl
 have f3 := blk_frozen hbk 3
 have c4 : w2.cell? ⟨w.heap.size, 4, none⟩ = some (.int .u64 0) := (blk_cell hbk 4).trans rfl
 have f4 := blk_frozen hbk 4
 have c5 : w2.cell? ⟨w.heap.size, 5, none⟩ = some (.string ⟨#[]⟩) := (blk_cell hbk 5).trans rfl
 have f5 := blk_frozen hbk 5
 have c6 : w2.cell? ⟨w.heap.size, 6, none⟩ = some (.int .i64 0) := (blk_cell hbk 6).trans rfl
 have f6 := blk_frozen hbk 6
 have HBK := Lib.hid hbk
 clear hbk hb2
 go_wp2_with (go_at_call 27; refine (HLL.out _).mono ?_; rintro e w3 ⟨rfl, rfl⟩)
 refine bodyPost_ret (results_ct rfl _ _ w.heap.size 39 #[.int .i64 3, .string (s.extract 0 (1 + n)), .int .i64 2, .int .i64 v, .int .u64 0, .string ⟨#[]⟩, .int .i64 0] (0, 0) _ rfl (tok_set HBK.out (.int .i64 3) (.string (s.extract 0 (1 + n))) (.int .i64 2) (.int .i64 v) (.int .u64 0) (.string ⟨#[]⟩) (.int .i64 0)) Tryd.underlying39 rfl (by kernel_rfl)) rfl ⟨?_, ?_⟩
 ·rw [HRES.out]; rfl
 ·exact tok_below HB2.out _ _ _ _ _ _ _
theorem ext_ne {s : ByteArray} {k : Nat} (h : k < s.size) : (s.extract k s.size).toList.isEmpty = false := by
 rw [← decide_eq_emptyBytes]
 refine decide_eq_false (fun e => ?_)
 have h2 : (s.extract k s.size).size = 0 := by rw [e]; rfl
 rw [ext_size] at h2
 omega
theorem ext_isE {s : ByteArray} {k : Nat} (h : s.size ≤ k) : (s.extract k s.size).toList.isEmpty = true := by
 have h2 : (s.extract k s.size).size = 0 := by rw [ext_size]; omega
 have h3 : s.extract k s.size = ByteArray.empty := ByteArray.ext (Array.eq_empty_of_size_eq_zero h2)
 rw [← decide_eq_emptyBytes]
 exact decide_eq_true h3
theorem ext_e {s : ByteArray} {k : Nat} (h : s.size ≤ k) : (s.extract k s.size).toList = [] := List.isEmpty_iff.1 (ext_isE h)
theorem rest0 {s : ByteArray} {k : Nat} (h : k < s.size) (h1 : 0 < (s.extract k s.size).size) : (s.extract k s.size)[0]'h1 = byteAt s k := by
 rw [byteAt_eq _ 0 h1, ext_at s k h]
theorem b_is {x : UInt8} {k : Nat} (hk : k < 256) (h : x = UInt8.ofNat k) : ((x.toNat : Int) == (k : Int)) = true := by rw [b_eq hk, h]; simp
theorem b_isnt {x : UInt8} {k : Nat} (hk : k < 256) (h : x ≠ UInt8.ofNat k) : ((x.toNat : Int) == (k : Int)) = false := by rw [b_eq hk]; exact beq_eq_false_iff_ne.2 h
def lex_number.f (a0 : ByteArray) : Option (Int × ByteArray × Int × Int × Int × ByteArray × Int × Int) := if 0 < a0.size ∧ a0.size ≤ 1000 then some (numR a0) else none
set_option maxHeartbeats 1000000 in
theorem number_all (s : ByteArray) (hs : s.size ≤ 1000) (h0 : 0 < s.size) (w : World) (hG : GL w) :
  Calls Tryd.prog 30 #[.string s] w fun e w' => e = .returned (tokV (numR s)) ∧ Below w.heap.size w w' := by
 by_cases hm : byteAt s 0 = 45
 ·have hat : numAt s = 1 := by unfold numAt; rw [if_pos hm]
  have hm' : (((s[0]'h0).toNat : Int) == 45) = true := by rw [byteAt_eq s 0 h0]; exact b_is (by decide) hm
  have hle := numN_le s (by omega)
  rw [hat] at hle
  obtain ⟨n, hn⟩ : ∃ n, numN s = n := ⟨_, rfl⟩
  rw [hn] at hle
  have hr : lex_run.f (s.extract 1 s.size) 29 = some (n : Int) := by
   have h2 : headLen isDig (s.extract 1 s.size) = n := by rw [← hn, numN, hat]
   have h3 : (s.extract 1 s.size).size ≤ 9223372036854775807 := by rw [ext_size]; omega
   unfold lex_run.f
   rw [if_pos h3]
   simp [kindOf, h2]
  cases hp : Lib.parseIntB 64 (s.extract 0 (1 + n)).data.toList with
  | range =>
   by_cases hz : n = 0
   ·exact num_1_bad1 s hs h0 hat hm' w hG n hn hle hr (fun v hv => by rw [hp] at hv; cases hv) (beq_iff_eq.2 (by omega))
   ·exact num_1_bad0 s hs h0 hat hm' w hG n hn hle hr (fun v hv => by rw [hp] at hv; cases hv) (beq_eq_false_iff_ne.2 (by omega))
  | ok v =>
   by_cases hz : n = 0
   ·exact num_1_none s hs h0 hat hm' w hG n hn hle hr v hp (beq_iff_eq.2 (by omega)) (by simp [numBad, hz])
   ·have b0 : ((n : Int) == 0) = false := beq_eq_false_iff_ne.2 (by omega)
    have z0 : (n == 0) = false := beq_eq_false_iff_ne.2 hz
    have h1 : 1 < s.size := by omega
    by_cases h48 : byteAt s 1 = 48
    ·have b1 : (((s[1]'h1).toNat : Int) == 48) = true := by rw [byteAt_eq s 1 h1]; exact b_is (by decide) h48
     by_cases hn1 : 1 < n
     ·exact num_1_nought s hs h0 hat hm' w hG n hn hle hr v hp b0 h1 b1 (decide_eq_true (by omega)) (by simp [numBad, h48, hn1])
     ·exact num_1_minus s hs h0 hat hm' w hG n hn hle hr v hp b0 h1 b1 (decide_eq_false (by omega)) (by simp [numBad, h48])
    ·have b1 : (((s[1]'h1).toNat : Int) == 48) = false := by rw [byteAt_eq s 1 h1]; exact b_isnt (by decide) h48
     have q1 : (byteAt s 1 == 48 && (decide (1 < n) || (1 : Nat) == 1)) = false := by rw [beq_eq_false_iff_ne.2 h48]; rfl
     by_cases hk : 1 + n < s.size
     ·have hr1 : 0 < (s.extract (1 + n) s.size).size := by rw [ext_size]; omega
      have b4 := ext_ne hk
      have e0 := rest0 hk hr1
      cases hl : isLow (byteAt s (1 + n)) with
      | true => exact num_1_lowd s hs h0 hat hm' w hG n hn hle hr v hp b0 h1 b1 hr1 b4 (by rw [e0]; exact hl) (by unfold numBad; rw [z0, q1, decide_eq_true hk]; simp [hl])
      | false =>
       by_cases hu : byteAt s (1 + n) = 95
       ·exact num_1_undd s hs h0 hat hm' w hG n hn hle hr v hp b0 h1 b1 hr1 b4 (by rw [e0]; exact hl) (by rw [e0]; exact b_is (by decide) hu) (by unfold numBad; rw [z0, q1, decide_eq_true hk]; simp [hu])
       ·exact num_1_yesd s hs h0 hat hm' w hG n hn hle hr v hp b0 h1 b1 hr1 b4 (by rw [e0]; exact hl) (by rw [e0]; exact b_isnt (by decide) hu) (by unfold numBad; rw [z0, q1, decide_eq_true hk]; simp [hl, hu])
     ·exact num_1_endd s hs h0 hat hm' w hG n hn hle hr v hp b0 h1 b1 (ext_isE (by omega)) (ext_e (by omega)) (by unfold numBad; rw [z0, q1, decide_eq_false (by omega)]; rfl)
  | _ =>
   by_cases hz : n = 0
   ·exact num_1_bad1 s hs h0 hat hm' w hG n hn hle hr (fun v hv => by rw [hp] at hv; cases hv) (beq_iff_eq.2 (by omega))
   ·exact num_1_bad0 s hs h0 hat hm' w hG n hn hle hr (fun v hv => by rw [hp] at hv; cases hv) (beq_eq_false_iff_ne.2 (by omega))
 ·have hat : numAt s = 0 := by unfold numAt; rw [if_neg hm]
  have hm' : (((s[0]'h0).toNat : Int) == 45) = false := by rw [byteAt_eq s 0 h0]; exact b_isnt (by decide) hm
  have hle := numN_le s (by omega)
  rw [hat] at hle
  obtain ⟨n, hn⟩ : ∃ n, numN s = n := ⟨_, rfl⟩
  rw [hn] at hle
  have hr : lex_run.f s 29 = some (n : Int) := by
   have h2 : headLen isDig s = n := by rw [← hn, numN, hat]; simp
   have h3 : s.size ≤ 9223372036854775807 := by omega
   unfold lex_run.f
   rw [if_pos h3]
   simp [kindOf, h2]
  cases hp : Lib.parseIntB 64 (s.extract 0 (n)).data.toList with
  | range =>
   by_cases hz : n = 0
   ·exact num_0_bad1 s hs h0 hat hm' w hG n hn hle hr (fun v hv => by rw [hp] at hv; cases hv) (beq_iff_eq.2 (by omega))
   ·exact num_0_bad0 s hs h0 hat hm' w hG n hn hle hr (fun v hv => by rw [hp] at hv; cases hv) (beq_eq_false_iff_ne.2 (by omega))
  | ok v =>
   by_cases hz : n = 0
   ·exact num_0_none s hs h0 hat hm' w hG n hn hle hr v hp (beq_iff_eq.2 (by omega)) (by simp [numBad, hz])
   ·have b0 : ((n : Int) == 0) = false := beq_eq_false_iff_ne.2 (by omega)
    have z0 : (n == 0) = false := beq_eq_false_iff_ne.2 hz
    have h1 : 0 < s.size := by omega
    by_cases h48 : byteAt s 0 = 48
    ·have b1 : (((s[0]'h1).toNat : Int) == 48) = true := by rw [byteAt_eq s 0 h1]; exact b_is (by decide) h48
     by_cases hn1 : 1 < n
     ·exact num_0_nought s hs h0 hat hm' w hG n hn hle hr v hp b0 h1 b1 (decide_eq_true (by omega)) (by simp [numBad, h48, hn1])
     ·have d1 : decide ((1 : Int) < (n : Int)) = false := decide_eq_false (by omega)
      have q1 : (byteAt s 0 == 48 && (decide (1 < n) || (0 : Nat) == 1)) = false := by rw [decide_eq_false hn1]; simp
      by_cases hk : n < s.size
      ·have hr1 : 0 < (s.extract (n) s.size).size := by rw [ext_size]; omega
       have hk0 : 0 + n < s.size := by omega
       have b4 := ext_ne hk
       have e0 := rest0 hk hr1
       cases hl : isLow (byteAt s (n)) with
       | true => exact num_0_lowz s hs h0 hat hm' w hG n hn hle hr v hp b0 h1 b1 d1 hr1 b4 (by rw [e0]; exact hl) (by unfold numBad; rw [z0, q1, decide_eq_true hk0]; simp [hl])
       | false =>
        by_cases hu : byteAt s (n) = 95
        ·exact num_0_undz s hs h0 hat hm' w hG n hn hle hr v hp b0 h1 b1 d1 hr1 b4 (by rw [e0]; exact hl) (by rw [e0]; exact b_is (by decide) hu) (by unfold numBad; rw [z0, q1, decide_eq_true hk0]; simp [hu])
        ·exact num_0_yesz s hs h0 hat hm' w hG n hn hle hr v hp b0 h1 b1 d1 hr1 b4 (by rw [e0]; exact hl) (by rw [e0]; exact b_isnt (by decide) hu) (by unfold numBad; rw [z0, q1, decide_eq_true hk0]; simp [hl, hu])
      ·exact num_0_endz s hs h0 hat hm' w hG n hn hle hr v hp b0 h1 b1 d1 (ext_isE (by omega)) (ext_e (by omega)) (by unfold numBad; rw [z0, q1, decide_eq_false (by omega)]; rfl)
    ·have b1 : (((s[0]'h1).toNat : Int) == 48) = false := by rw [byteAt_eq s 0 h1]; exact b_isnt (by decide) h48
     have q1 : (byteAt s 0 == 48 && (decide (1 < n) || (0 : Nat) == 1)) = false := by rw [beq_eq_false_iff_ne.2 h48]; rfl
     by_cases hk : n < s.size
     ·have hr1 : 0 < (s.extract (n) s.size).size := by rw [ext_size]; omega
      have hk0 : 0 + n < s.size := by omega
      have b4 := ext_ne hk
      have e0 := rest0 hk hr1
      cases hl : isLow (byteAt s (n)) with
      | true => exact num_0_lowd s hs h0 hat hm' w hG n hn hle hr v hp b0 h1 b1 hr1 b4 (by rw [e0]; exact hl) (by unfold numBad; rw [z0, q1, decide_eq_true hk0]; simp [hl])
      | false =>
       by_cases hu : byteAt s (n) = 95
       ·exact num_0_undd s hs h0 hat hm' w hG n hn hle hr v hp b0 h1 b1 hr1 b4 (by rw [e0]; exact hl) (by rw [e0]; exact b_is (by decide) hu) (by unfold numBad; rw [z0, q1, decide_eq_true hk0]; simp [hu])
       ·exact num_0_yesd s hs h0 hat hm' w hG n hn hle hr v hp b0 h1 b1 hr1 b4 (by rw [e0]; exact hl) (by rw [e0]; exact b_isnt (by decide) hu) (by unfold numBad; rw [z0, q1, decide_eq_true hk0]; simp [hl, hu])
     ·exact num_0_endd s hs h0 hat hm' w hG n hn hle hr v hp b0 h1 b1 (ext_isE (by omega)) (ext_e (by omega)) (by unfold numBad; rw [z0, q1, decide_eq_false (by omega)]; rfl)
  | _ =>
   by_cases hz : n = 0
   ·exact num_0_bad1 s hs h0 hat hm' w hG n hn hle hr (fun v hv => by rw [hp] at hv; cases hv) (beq_iff_eq.2 (by omega))
   ·exact num_0_bad0 s hs h0 hat hm' w hG n hn hle hr (fun v hv => by rw [hp] at hv; cases hv) (beq_eq_false_iff_ne.2 (by omega))
theorem lex_number.calls (a0 : ByteArray) (r1 : Int) (r2 : ByteArray) (r3 : Int) (r4 : Int) (r5 : Int) (r6 : ByteArray) (r7 : Int) (r8 : Int) (w : World) (h : lex_number.f a0 = some (r1, r2, r3, r4, r5, r6, r7, r8)) (hG : GL w) :
  Calls Tryd.prog 30 #[.string a0] w fun e w' => e = .returned (.tuple #[.agg #[.int .i64 r1, .string r2, .int .i64 r3, .int .i64 r4, .int .u64 r5, .string r6, .int .i64 r7], .int .i64 r8]) ∧ Below w.heap.size w w' := by
 unfold lex_number.f at h
 split at h
 ·rename_i hb
  have hx := Option.some.inj h
  have hc := number_all a0 hb.2 hb.1 w hG
  rw [hx] at hc
  exact hc
 ·cases h
end Go.Proofs.YtjehfmimbbdnkaaDoor
namespace Go.Proofs.YtjehfmimbbdnkaaDoor.L
open Go.RowKit Go.Proofs.YtjehfmimbbdnkaaDoorW.PrintWords Go.Proofs.YtjehfmimbbdnkaaDoorW.PrintLast Go.Proofs.YtjehfmimbbdnkaaDoorW.PrintMore
attribute [local go_sem] max2_int min2_int max_two min_two max_three min_three max_four min_four
set_option linter.unusedVariables false
set_option linter.unusedSimpArgs false
mutual
def lex_one.j0 : Nat → ByteArray → Int → Bool → Option (Int × ByteArray × Int × Int × Int × ByteArray × Int × Int)
 | 0, _, _, _ => none
 | k + 1, x0, x4, x7 => if x7 = true then ((lex_coded.f k x0).bind fun bt132 => (some (bt132.1, bt132.2.1, bt132.2.2.1, bt132.2.2.2.1, bt132.2.2.2.2.1, bt132.2.2.2.2.2.1, bt132.2.2.2.2.2.2.1, bt132.2.2.2.2.2.2.2))) else ((lex_letter.f x4).bind fun t140 => (if t140 = true then ((lex_named.f k x0).bind fun bt141 => (some (bt141.1, bt141.2.1, bt141.2.2.1, bt141.2.2.2.1, bt141.2.2.2.2.1, bt141.2.2.2.2.2.1, bt141.2.2.2.2.2.2.1, bt141.2.2.2.2.2.2.2))) else ((lex_digit.f x4).bind fun t149 => (if t149 = true then (lex_one.j1 k x0 x4 t149) else (lex_one.j1 k x0 x4 (x4 == 45))))))
def lex_one.j1 : Nat → ByteArray → Int → Bool → Option (Int × ByteArray × Int × Int × Int × ByteArray × Int × Int)
 | 0, _, _, _ => none
 | k + 1, x0, x4, x35 => if x35 = true then ((lex_number.f x0).bind fun bt150 => (some (bt150.1, bt150.2.1, bt150.2.2.1, bt150.2.2.2.1, bt150.2.2.2.2.1, bt150.2.2.2.2.2.1, bt150.2.2.2.2.2.2.1, bt150.2.2.2.2.2.2.2))) else (if x4 = 39 then ((lex_text.f k x0).bind fun bt158 => (some (bt158.1, bt158.2.1, bt158.2.2.1, bt158.2.2.2.1, bt158.2.2.2.2.1, bt158.2.2.2.2.2.1, bt158.2.2.2.2.2.2.1, bt158.2.2.2.2.2.2.2))) else ((strings_IndexByte.f (⟨#[40, 41, 44, 59, 61, 60, 62, 43, 42]⟩ : ByteArray) x4).bind fun t166 => (if t166 ≥ 0 then (if 0 ≤ 1 then (if 1 ≤ (x0.size : Int) then (some (4, x0.extract 0 1, 0, 0, 0, (⟨#[]⟩ : ByteArray), 0, 1)) else (none)) else (none)) else (some (0, (⟨#[]⟩ : ByteArray), 0, 0, 0, (⟨#[]⟩ : ByteArray), 0, 0)))))
end
def lex_one.f (k : Nat) (a0 : ByteArray) : Option (Int × ByteArray × Int × Int × Int × ByteArray × Int × Int) := if 0 < (a0.size : Int) then (if (bt a0 0) = 120 then (if (a0.size : Int) > 1 then (if 1 < (a0.size : Int) then (lex_one.j0 k a0 (bt a0 0) ((bt a0 1) == 39)) else (none)) else (lex_one.j0 k a0 (bt a0 0) false)) else (if (bt a0 0) = 102 then (if (a0.size : Int) > 1 then (if 1 < (a0.size : Int) then (lex_one.j0 k a0 (bt a0 0) ((bt a0 1) == 39)) else (none)) else (lex_one.j0 k a0 (bt a0 0) false)) else (lex_one.j0 k a0 (bt a0 0) false))) else (none)
theorem lex_one.mono_l : ∀ k, (∀ y0 y1 y2, LeO (lex_one.j0 k y0 y1 y2) (lex_one.j0 (k + 1) y0 y1 y2)) ∧ (∀ y0 y1 y2, LeO (lex_one.j1 k y0 y1 y2) (lex_one.j1 (k + 1) y0 y1 y2))
 | 0 => ⟨fun _ _ _ r h => by simp [lex_one.j0] at h, fun _ _ _ r h => by simp [lex_one.j1] at h⟩
 | k + 1 => by
  obtain ⟨ih0, ih1⟩ := lex_one.mono_l k
  refine ⟨?_, ?_⟩
  ·intro y0 y1 y2
   unfold lex_one.j0
   repeat' first
   | (with_reducible exact ih0 _ _ _)
   | (with_reducible exact ih1 _ _ _)
   | (with_reducible exact lex_coded.mono _ _)
   | (with_reducible exact lex_named.mono _ _)
   | (with_reducible exact lex_text.mono _ _)
   | (with_reducible exact LeO.refl _)
   | (with_reducible exact LeO.none _)
   | (with_reducible refine LeO.ite ?_ ?_)
   | (with_reducible refine LeO.bind ?_ (fun _ => ?_))
   | exact ih0 _ _ _
   | exact ih1 _ _ _
   | exact lex_coded.mono _ _
   | exact lex_named.mono _ _
   | exact lex_text.mono _ _
   | exact LeO.none _
   | refine LeO.ite ?_ ?_
   | refine LeO.bind ?_ (fun _ => ?_)
  ·intro y0 y1 y2
   unfold lex_one.j1
   repeat' first
   | (with_reducible exact ih0 _ _ _)
   | (with_reducible exact ih1 _ _ _)
   | (with_reducible exact lex_coded.mono _ _)
   | (with_reducible exact lex_named.mono _ _)
   | (with_reducible exact lex_text.mono _ _)
   | (with_reducible exact LeO.refl _)
   | (with_reducible exact LeO.none _)
   | (with_reducible refine LeO.ite ?_ ?_)
   | (with_reducible refine LeO.bind ?_ (fun _ => ?_))
   | exact ih0 _ _ _
   | exact ih1 _ _ _
   | exact lex_coded.mono _ _
   | exact lex_named.mono _ _
   | exact lex_text.mono _ _
   | exact LeO.none _
   | refine LeO.ite ?_ ?_
   | refine LeO.bind ?_ (fun _ => ?_)
theorem lex_one.mono : ∀ a0 k, LeO (lex_one.f k a0) (lex_one.f (k + 1) a0) := by
 intro a0 k
 obtain ⟨ih0, ih1⟩ := lex_one.mono_l k
 unfold lex_one.f
 repeat' first
   | (with_reducible exact ih0 _ _ _)
   | (with_reducible exact ih1 _ _ _)
   | (with_reducible exact lex_coded.mono _ _)
   | (with_reducible exact lex_named.mono _ _)
   | (with_reducible exact lex_text.mono _ _)
   | (with_reducible exact LeO.refl _)
   | (with_reducible exact LeO.none _)
   | (with_reducible refine LeO.ite ?_ ?_)
   | (with_reducible refine LeO.bind ?_ (fun _ => ?_))
   | exact ih0 _ _ _
   | exact ih1 _ _ _
   | exact lex_coded.mono _ _
   | exact lex_named.mono _ _
   | exact lex_text.mono _ _
   | exact LeO.none _
   | refine LeO.ite ?_ ?_
   | refine LeO.bind ?_ (fun _ => ?_)
set_option maxHeartbeats 8000000 in
set_option maxRecDepth 100000 in
theorem lex_one.calls (k : Nat) (a0 : ByteArray) (r1 : Int) (r2 : ByteArray) (r3 : Int) (r4 : Int) (r5 : Int) (r6 : ByteArray) (r7 : Int) (r8 : Int) (w : World) (h : lex_one.f k a0 = some (r1, r2, r3, r4, r5, r6, r7, r8)) (hG : GL w) :
  Calls Tryd.prog 19 #[.string a0] w fun e w' => e = .returned (.tuple #[.agg #[.int .i64 r1, .string r2, .int .i64 r3, .int .i64 r4, .int .u64 r5, .string r6, .int .i64 r7], .int .i64 r8]) ∧ Below w.heap.size w w' := by
 have hu39 := Tryd.underlying39
 have HB := Aside0.mk (Below.refl w.heap.size w)
 have HG := Aside0.mk hG
 clear hG
 have H : (if 0 < (a0.size : Int) then (if (bt a0 0) = 120 then (if (a0.size : Int) > 1 then (if 1 < (a0.size : Int) then (lex_one.j0 k a0 (bt a0 0) ((bt a0 1) == 39)) else (none)) else (lex_one.j0 k a0 (bt a0 0) false)) else (if (bt a0 0) = 102 then (if (a0.size : Int) > 1 then (if 1 < (a0.size : Int) then (lex_one.j0 k a0 (bt a0 0) ((bt a0 1) == 39)) else (none)) else (lex_one.j0 k a0 (bt a0 0) false)) else (lex_one.j0 k a0 (bt a0 0) false))) else (none)) = some (r1, r2, r3, r4, r5, r6, r7, r8) := h
 clear h
 by_cases c2 : 0 < (a0.size : Int)
 ·rw [if_pos c2] at H
  have c2b0 : decide (0 < (a0.size : Int)) = true := decide_eq_true c2
  have c2b1 : decide (0 < a0.size) = true := decide_eq_true (by omega)
  clear c2
  have HC4 := Aside0.mk H
  clear H
  go_enter Tryd.func19, Tryd.ntmps19
  go_upto_region 2 with (first | ((with_reducible refine gate_dst (N := 2) rfl ?_); (try (refine gate_guard (by rfl) ?_; dsimp only)); refine box_event ?hg (N := 2) ?hd (cs := #[.int .i64 0, .string (⟨#[]⟩ : ByteArray), .int .i64 0, .int .i64 0, .int .u64 0, .string (⟨#[]⟩ : ByteArray), .int .i64 0]) (t := 39) ?hr ?_; (case hd => rfl); (case hg => rfl); (case hr => first | (go_simp; done) | (go_simp; rfl)); intro gb131 hg w5 hbox hb; have n0_ := Aside0.mk (below_step (by repeat (first | (with_reducible first | exact HB.out | apply below_alloc | apply pw_below_drewN | apply below_drew1) | exact HB.out)) hb); have n1_ := Aside0.mk (hbox); have n2_ := Aside0.mk ((by rw [hg]; exact (below_size (by repeat (first | (with_reducible first | exact HB.out | apply below_alloc | apply pw_below_drewN | apply below_drew1) | exact HB.out))) : w.heap.size ≤ gb131)); have n3_ := Aside0.mk ((by rw [hg]; exact (below_size (by repeat (first | (with_reducible first | exact HB.out | apply below_alloc | apply pw_below_drewN | apply below_drew1) | exact HB.out))) : w.heap.size ≤ gb131)); clear HB; have HB := n0_; have BK131 := n1_; have GW131 := n2_; have GE131 := n3_; clear n0_ n1_ n2_ n3_; clear hb hbox hg; have p3 : 0 ≤ (0 : Int) := (by omega); have q3 : 0 < a0.size := (by have : (0 : Int) < (a0.size : Int) := of_decide_eq_true (by first | (with_reducible assumption) | assumption); omega); have hx3 : ∀ h : 0 < a0.size, ((a0[0]'h).toNat : Int) = bt a0 0 := bt_at a0 0; clear p3; have qi3 : (0 < (a0.size : Int)) = True := eq_true (of_decide_eq_true (by first | (with_reducible assumption) | assumption)); replace q3 := eq_true q3))
  (try simp only [Act.put, List.setIfInBounds_toArray, List.set_cons_zero, List.set_cons_succ])
  go_cut [7] (fun v7 wc => ∃ (kq : Nat) (x7_3 : Bool), v7 = .bool x7_3 ∧ Aside0 (lex_one.j0 kq a0 (bt a0 0) x7_3 = some (r1, r2, r3, r4, r5, r6, r7, r8)) ∧ Aside0 (kq ≤ k) ∧ Aside0 (wc.heap[gb131]? = some (.cells #[.int .i64 0, .string (⟨#[]⟩ : ByteArray), .int .i64 0, .int .i64 0, .int .u64 0, .string (⟨#[]⟩ : ByteArray), .int .i64 0] 39 (0, 0))) ∧ Aside0 (Below w.heap.size w wc))
  case first =>
   have H := HC4.out
   clear HC4
   by_cases c6 : (bt a0 0) = 120
   ·rw [if_pos c6] at H
    have c6b0 : ((bt a0 0) == 120) = true := beq_iff_eq.mpr c6
    have c6b1 : ((bt a0 0) != 120) = false := bne_eq_false_iff_eq.mpr c6
    clear c6
    (first | rw [c6b0] | (simp only [i64_w, i32_w]; rw [c6b0]) | skip)
    by_cases c7 : (a0.size : Int) > 1
    ·rw [if_pos c7] at H
     have c7b0 : decide (1 < (a0.size : Int)) = true := decide_eq_true c7
     have c7b1 : decide (1 < a0.size) = true := decide_eq_true (by omega)
     clear c7
     by_cases c8 : 1 < (a0.size : Int)
     ·rw [if_pos c8] at H
      have c8b0 : decide (1 < (a0.size : Int)) = true := decide_eq_true c8
      have c8b1 : decide (1 < a0.size) = true := decide_eq_true (by omega)
      clear c8
      have H' := Aside0.mk H
      clear H
      have p9 : 0 ≤ (1 : Int) := (by omega)
      have q9 : 1 < a0.size := (by have : (1 : Int) < (a0.size : Int) := of_decide_eq_true (by first | (with_reducible assumption) | assumption); omega)
      have hx9 : ∀ h : 1 < a0.size, ((a0[1]'h).toNat : Int) = bt a0 1 := bt_at a0 1
      clear p9
      have qi9 : (1 < (a0.size : Int)) = True := eq_true (of_decide_eq_true (by first | (with_reducible assumption) | assumption))
      replace q9 := eq_true q9
      go_wp2
      go_meet
      case rel => exact ⟨_, (((bt a0 1) == 39)), (by first | rfl | (simp; done) | (simp [*]; done)), H', ⟨by first | omega | exact Nat.le_refl _⟩, ⟨by (with_reducible repeat (first | refine blk_drewN ?_ _ | refine blk_drew ?_ | refine blk_alloc ?_ _)); exact BK131.out⟩, ⟨by repeat (first | (with_reducible first | exact HB.out | apply below_alloc | apply pw_below_drewN | apply below_drew1 | refine below_set ?_ GE131.out) | exact HB.out)⟩⟩
     ·rw [if_neg c8] at H
      exact absurd H (by simp)
    ·rw [if_neg c7] at H
     have c7b0 : decide (1 < (a0.size : Int)) = false := decide_eq_false c7
     have c7b1 : decide (1 < a0.size) = false := decide_eq_false (by omega)
     clear c7
     have H' := Aside0.mk H
     clear H
     go_wp2
     go_meet
     case rel => exact ⟨_, (false), (by first | rfl | (simp; done) | (simp [*]; done)), H', ⟨by first | omega | exact Nat.le_refl _⟩, ⟨by (with_reducible repeat (first | refine blk_drewN ?_ _ | refine blk_drew ?_ | refine blk_alloc ?_ _)); exact BK131.out⟩, ⟨by repeat (first | (with_reducible first | exact HB.out | apply below_alloc | apply pw_below_drewN | apply below_drew1 | refine below_set ?_ GE131.out) | exact HB.out)⟩⟩
   ·rw [if_neg c6] at H
    have c6b0 : ((bt a0 0) == 120) = false := beq_eq_false_iff_ne.mpr c6
    have c6b1 : ((bt a0 0) != 120) = true := bne_iff_ne.mpr c6
    (first | rw [c6b0] | (simp only [i64_w, i32_w]; rw [c6b0]) | skip)
    by_cases c10 : (bt a0 0) = 102
    ·rw [if_pos c10] at H
     have c10b0 : ((bt a0 0) == 102) = true := beq_iff_eq.mpr c10
     have c10b1 : ((bt a0 0) != 102) = false := bne_eq_false_iff_eq.mpr c10
     clear c10
     by_cases c11 : (a0.size : Int) > 1
     ·rw [if_pos c11] at H
      have c11b0 : decide (1 < (a0.size : Int)) = true := decide_eq_true c11
      have c11b1 : decide (1 < a0.size) = true := decide_eq_true (by omega)
      clear c11
      by_cases c12 : 1 < (a0.size : Int)
      ·rw [if_pos c12] at H
       have c12b0 : decide (1 < (a0.size : Int)) = true := decide_eq_true c12
       have c12b1 : decide (1 < a0.size) = true := decide_eq_true (by omega)
       clear c12
       have H' := Aside0.mk H
       clear H
       have p13 : 0 ≤ (1 : Int) := (by omega)
       have q13 : 1 < a0.size := (by have : (1 : Int) < (a0.size : Int) := of_decide_eq_true (by first | (with_reducible assumption) | assumption); omega)
       have hx13 : ∀ h : 1 < a0.size, ((a0[1]'h).toNat : Int) = bt a0 1 := bt_at a0 1
       clear p13
       have qi13 : (1 < (a0.size : Int)) = True := eq_true (of_decide_eq_true (by first | (with_reducible assumption) | assumption))
       replace q13 := eq_true q13
       go_wp2
       go_meet
       case rel => exact ⟨_, (((bt a0 1) == 39)), (by first | rfl | (simp; done) | (simp [*]; done)), H', ⟨by first | omega | exact Nat.le_refl _⟩, ⟨by (with_reducible repeat (first | refine blk_drewN ?_ _ | refine blk_drew ?_ | refine blk_alloc ?_ _)); exact BK131.out⟩, ⟨by repeat (first | (with_reducible first | exact HB.out | apply below_alloc | apply pw_below_drewN | apply below_drew1 | refine below_set ?_ GE131.out) | exact HB.out)⟩⟩
      ·rw [if_neg c12] at H
       exact absurd H (by simp)
     ·rw [if_neg c11] at H
      have c11b0 : decide (1 < (a0.size : Int)) = false := decide_eq_false c11
      have c11b1 : decide (1 < a0.size) = false := decide_eq_false (by omega)
      clear c11
      have H' := Aside0.mk H
      clear H
      go_wp2
      go_meet
      case rel => exact ⟨_, (false), (by first | rfl | (simp; done) | (simp [*]; done)), H', ⟨by first | omega | exact Nat.le_refl _⟩, ⟨by (with_reducible repeat (first | refine blk_drewN ?_ _ | refine blk_drew ?_ | refine blk_alloc ?_ _)); exact BK131.out⟩, ⟨by repeat (first | (with_reducible first | exact HB.out | apply below_alloc | apply pw_below_drewN | apply below_drew1 | refine below_set ?_ GE131.out) | exact HB.out)⟩⟩
    ·rw [if_neg c10] at H
     have c10b0 : ((bt a0 0) == 102) = false := beq_eq_false_iff_ne.mpr c10
     have c10b1 : ((bt a0 0) != 102) = true := bne_iff_ne.mpr c10
     have H' := Aside0.mk H
     clear H
     go_wp2
     go_meet
     case rel => exact ⟨_, (false), (by first | rfl | (simp; done) | (simp [*]; done)), H', ⟨by first | omega | exact Nat.le_refl _⟩, ⟨by (with_reducible repeat (first | refine blk_drewN ?_ _ | refine blk_drew ?_ | refine blk_alloc ?_ _)); exact BK131.out⟩, ⟨by repeat (first | (with_reducible first | exact HB.out | apply below_alloc | apply pw_below_drewN | apply below_drew1 | refine below_set ?_ GE131.out) | exact HB.out)⟩⟩
  case rest =>
   clear HC4
   try clear c1
   try clear p1
   try clear q1
   try clear hx1
   try clear qi1
   try clear c2
   try clear c2b0
   try clear c2b1
   try clear p2
   try clear p3
   try clear q3
   try clear hx3
   try clear qi3
   try clear c6
   try clear c6b0
   try clear c6b1
   try clear c7
   try clear c7b0
   try clear c7b1
   try clear c8
   try clear c8b0
   try clear c8b1
   try clear p9
   try clear q9
   try clear hx9
   try clear qi9
   try clear c10
   try clear c10b0
   try clear c10b1
   try clear c11
   try clear c11b0
   try clear c11b1
   try clear c12
   try clear c12b0
   try clear c12b1
   try clear p13
   try clear q13
   try clear hx13
   try clear qi13
   try clear p13
   try clear p3
   try clear p9
   try clear q13
   try clear q3
   try clear q9
   obtain ⟨kq, x7_3, rfl, HA, HJ3, BK131, HB⟩ := hcut
   cases kq with
   | zero => exact absurd HA.out (by simp [lex_one.j0])
   | succ kj3 =>
    have H := HA.out
    clear HA
    simp only [lex_one.j0] at H
    by_cases c14 : x7_3 = true
    ·subst c14
     have H1 : ((lex_coded.f kj3 a0).bind fun bt132 => (some (bt132.1, bt132.2.1, bt132.2.2.1, bt132.2.2.2.1, bt132.2.2.2.2.1, bt132.2.2.2.2.2.1, bt132.2.2.2.2.2.2.1, bt132.2.2.2.2.2.2.2))) = some (r1, r2, r3, r4, r5, r6, r7, r8) := by rw [if_pos rfl] at H; exact H
     clear H
     have H := H1
     clear H1
     replace H := Option.bind_eq_some_iff.mp H
     obtain ⟨⟨t132, t133, t134, t135, t136, t137, t138, t139⟩, A150, H⟩ := H
     replace H : (some (t132, t133, t134, t135, t136, t137, t138, t139)) = some (r1, r2, r3, r4, r5, r6, r7, r8) := H
     have A15 := Aside0.mk A150
     clear A150
     simp only [Option.some.injEq, Prod.mk.injEq] at H
     obtain ⟨rfl, rfl, rfl, rfl, rfl, rfl, rfl, rfl⟩ := H
     go_wp2_with (first | ((with_reducible refine gate_callee (f := 26) rfl ?_); refine goesL_ (some 25) rfl rfl Tryd.func26 (by kernel_rfl) rfl #[.string a0] rfl (by (try simp only [List.map_toArray, List.map_cons, List.map_nil]); first | done | rfl | (simp only [List.length_drop, List.length_take]; rfl)) ?_; (with_reducible refine (lex_coded.calls kj3 a0 t132 t133 t134 t135 t136 t137 t138 t139 _ A15.out ?side1).mono ?_); (case side1 => exact GL.of_below HG.out (by repeat (first | (with_reducible first | exact HB.out | apply below_alloc | apply pw_below_drewN | apply below_drew1 | refine below_set ?_ GE131.out) | exact HB.out))); rintro e w16 ⟨rfl, hb⟩; refine ⟨_, rfl, ?_⟩; have n0_ := Aside0.mk (blk_below (g := gb131) (o := .cells #[.int .i64 0, .string (⟨#[]⟩ : ByteArray), .int .i64 0, .int .i64 0, .int .u64 0, .string (⟨#[]⟩ : ByteArray), .int .i64 0] 39 (0, 0)) (by (with_reducible repeat (first | refine blk_drewN ?_ _ | refine blk_drew ?_ | refine blk_alloc ?_ _)); exact BK131.out) hb); have n1_ := Aside0.mk (below_step (by repeat (first | (with_reducible first | exact HB.out | apply below_alloc | apply pw_below_drewN | apply below_drew1 | refine below_set ?_ GE131.out) | exact HB.out)) hb); clear BK131; clear HB; have BK131 := n0_; have HB := n1_; clear n0_ n1_; (try clear hb); (try clear hb2); (try clear hk); (try clear hi); have hcz17_0 : w16.cell? ⟨gb131, 0, none⟩ = some (.int .i64 0) := (blk_cell BK131.out 0).trans rfl; have hcz17_1 : w16.cell? ⟨gb131, 1, none⟩ = some (.string (⟨#[]⟩ : ByteArray)) := (blk_cell BK131.out 1).trans rfl; have hcz17_2 : w16.cell? ⟨gb131, 2, none⟩ = some (.int .i64 0) := (blk_cell BK131.out 2).trans rfl; have hcz17_3 : w16.cell? ⟨gb131, 3, none⟩ = some (.int .i64 0) := (blk_cell BK131.out 3).trans rfl; have hcz17_4 : w16.cell? ⟨gb131, 4, none⟩ = some (.int .u64 0) := (blk_cell BK131.out 4).trans rfl; have hcz17_5 : w16.cell? ⟨gb131, 5, none⟩ = some (.string (⟨#[]⟩ : ByteArray)) := (blk_cell BK131.out 5).trans rfl; have hcz17_6 : w16.cell? ⟨gb131, 6, none⟩ = some (.int .i64 0) := (blk_cell BK131.out 6).trans rfl; have hfz17_0 := blk_frozen BK131.out 0; have hfz17_1 := blk_frozen BK131.out 1; have hfz17_2 := blk_frozen BK131.out 2; have hfz17_3 := blk_frozen BK131.out 3; have hfz17_4 := blk_frozen BK131.out 4; have hfz17_5 := blk_frozen BK131.out 5; have hfz17_6 := blk_frozen BK131.out 6))
     refine bodyPost_ret (results_ct rfl _ _ gb131 39 #[.int .i64 t132, .string t133, .int .i64 t134, .int .i64 t135, .int .u64 t136, .string t137, .int .i64 t138] (0, 0) _ rfl (by (with_reducible repeat (first | refine blk_drewN ?_ _ | refine blk_drew ?_ | refine blk_alloc ?_ _)); refine blk_put (cs := #[.int .i64 t132, .string t133, .int .i64 t134, .int .i64 t135, .int .u64 t136, .string t137, .int .i64 0]) ?_ 6 _ rfl; (with_reducible repeat (first | refine blk_drewN ?_ _ | refine blk_drew ?_ | refine blk_alloc ?_ _)); refine blk_put (cs := #[.int .i64 t132, .string t133, .int .i64 t134, .int .i64 t135, .int .u64 t136, .string (⟨#[]⟩ : ByteArray), .int .i64 0]) ?_ 5 _ rfl; (with_reducible repeat (first | refine blk_drewN ?_ _ | refine blk_drew ?_ | refine blk_alloc ?_ _)); refine blk_put (cs := #[.int .i64 t132, .string t133, .int .i64 t134, .int .i64 t135, .int .u64 0, .string (⟨#[]⟩ : ByteArray), .int .i64 0]) ?_ 4 _ rfl; (with_reducible repeat (first | refine blk_drewN ?_ _ | refine blk_drew ?_ | refine blk_alloc ?_ _)); refine blk_put (cs := #[.int .i64 t132, .string t133, .int .i64 t134, .int .i64 0, .int .u64 0, .string (⟨#[]⟩ : ByteArray), .int .i64 0]) ?_ 3 _ rfl; (with_reducible repeat (first | refine blk_drewN ?_ _ | refine blk_drew ?_ | refine blk_alloc ?_ _)); refine blk_put (cs := #[.int .i64 t132, .string t133, .int .i64 0, .int .i64 0, .int .u64 0, .string (⟨#[]⟩ : ByteArray), .int .i64 0]) ?_ 2 _ rfl; (with_reducible repeat (first | refine blk_drewN ?_ _ | refine blk_drew ?_ | refine blk_alloc ?_ _)); refine blk_put (cs := #[.int .i64 t132, .string (⟨#[]⟩ : ByteArray), .int .i64 0, .int .i64 0, .int .u64 0, .string (⟨#[]⟩ : ByteArray), .int .i64 0]) ?_ 1 _ rfl; (with_reducible repeat (first | refine blk_drewN ?_ _ | refine blk_drew ?_ | refine blk_alloc ?_ _)); refine blk_put (cs := #[.int .i64 0, .string (⟨#[]⟩ : ByteArray), .int .i64 0, .int .i64 0, .int .u64 0, .string (⟨#[]⟩ : ByteArray), .int .i64 0]) ?_ 0 _ rfl; (with_reducible repeat (first | refine blk_drewN ?_ _ | refine blk_drew ?_ | refine blk_alloc ?_ _)); exact BK131.out) Tryd.underlying39 rfl (by kernel_rfl)) rfl ?_
     exact ⟨by first | rfl | (simp [errW_none, errW_some] <;> rfl) | (simp [*, errW_none, errW_some] <;> rfl), by repeat (first | (with_reducible first | exact HB.out | apply below_alloc | apply pw_below_drewN | apply below_drew1 | refine below_set ?_ GE131.out) | exact HB.out)⟩
    ·replace c14 := Bool.eq_false_iff.mpr c14
     subst c14
     have H1 : ((lex_letter.f (bt a0 0)).bind fun t140 => (if t140 = true then ((lex_named.f kj3 a0).bind fun bt141 => (some (bt141.1, bt141.2.1, bt141.2.2.1, bt141.2.2.2.1, bt141.2.2.2.2.1, bt141.2.2.2.2.2.1, bt141.2.2.2.2.2.2.1, bt141.2.2.2.2.2.2.2))) else ((lex_digit.f (bt a0 0)).bind fun t149 => (if t149 = true then (lex_one.j1 kj3 a0 (bt a0 0) t149) else (lex_one.j1 kj3 a0 (bt a0 0) ((bt a0 0) == 45)))))) = some (r1, r2, r3, r4, r5, r6, r7, r8) := by rw [if_neg (show ¬ (false = true) by decide)] at H; exact H
     clear H
     have H := H1
     clear H1
     replace H := Option.bind_eq_some_iff.mp H
     obtain ⟨t140, A180, H⟩ := H
     replace H : (if t140 = true then ((lex_named.f kj3 a0).bind fun bt141 => (some (bt141.1, bt141.2.1, bt141.2.2.1, bt141.2.2.2.1, bt141.2.2.2.2.1, bt141.2.2.2.2.2.1, bt141.2.2.2.2.2.2.1, bt141.2.2.2.2.2.2.2))) else ((lex_digit.f (bt a0 0)).bind fun t149 => (if t149 = true then (lex_one.j1 kj3 a0 (bt a0 0) t149) else (lex_one.j1 kj3 a0 (bt a0 0) ((bt a0 0) == 45))))) = some (r1, r2, r3, r4, r5, r6, r7, r8) := H
     have A18 := Aside0.mk A180
     clear A180
     by_cases c19 : t140 = true
     ·subst c19
      have H1 : ((lex_named.f kj3 a0).bind fun bt141 => (some (bt141.1, bt141.2.1, bt141.2.2.1, bt141.2.2.2.1, bt141.2.2.2.2.1, bt141.2.2.2.2.2.1, bt141.2.2.2.2.2.2.1, bt141.2.2.2.2.2.2.2))) = some (r1, r2, r3, r4, r5, r6, r7, r8) := by rw [if_pos rfl] at H; exact H
      clear H
      have H := H1
      clear H1
      replace H := Option.bind_eq_some_iff.mp H
      obtain ⟨⟨t141, t142, t143, t144, t145, t146, t147, t148⟩, A200, H⟩ := H
      replace H : (some (t141, t142, t143, t144, t145, t146, t147, t148)) = some (r1, r2, r3, r4, r5, r6, r7, r8) := H
      have A20 := Aside0.mk A200
      clear A200
      simp only [Option.some.injEq, Prod.mk.injEq] at H
      obtain ⟨rfl, rfl, rfl, rfl, rfl, rfl, rfl, rfl⟩ := H
      go_wp2_with (first | ((with_reducible refine gate_callee (f := 27) rfl ?_); refine goesL_ (some 30) rfl rfl Tryd.func27 (by kernel_rfl) rfl #[.int .u8 (bt a0 0)] rfl (by (try simp only [List.map_toArray, List.map_cons, List.map_nil]); first | done | rfl | (simp only [List.length_drop, List.length_take]; rfl)) ?_; (with_reducible refine (lex_letter.calls (bt a0 0) true _ A18.out).mono ?_); rintro e w' ⟨rfl, ⟨nd, rfl⟩⟩; refine ⟨_, rfl, ?_⟩; (try (rw [drewN_self wc]; generalize hq_ : World.drewN wc _ = wc; have n0_ : Aside0 (wc.heap[gb131]? = some (.cells #[.int .i64 0, .string (⟨#[]⟩ : ByteArray), .int .i64 0, .int .i64 0, .int .u64 0, .string (⟨#[]⟩ : ByteArray), .int .i64 0] 39 (0, 0))) := ⟨by rw [← hq_]; exact (by (with_reducible repeat (first | refine blk_drewN ?_ _ | refine blk_drew ?_ | refine blk_alloc ?_ _)); exact BK131.out)⟩; have n1_ : Aside0 (Below w.heap.size w wc) := ⟨by rw [← hq_]; exact (by repeat (first | (with_reducible first | exact HB.out | apply below_alloc | apply pw_below_drewN | apply below_drew1 | refine below_set ?_ GE131.out) | exact HB.out))⟩; clear BK131 HB hq_; have BK131 := n0_; have HB := n1_; clear n0_ n1_))) | ((with_reducible refine gate_callee (f := 28) rfl ?_); refine goesL_ (some 32) rfl rfl Tryd.func28 (by kernel_rfl) rfl #[.string a0] rfl (by (try simp only [List.map_toArray, List.map_cons, List.map_nil]); first | done | rfl | (simp only [List.length_drop, List.length_take]; rfl)) ?_; (with_reducible refine (lex_named.calls kj3 a0 t141 t142 t143 t144 t145 t146 t147 t148 _ A20.out ?side1).mono ?_); (case side1 => exact GL.of_below HG.out (by repeat (first | (with_reducible first | exact HB.out | apply below_alloc | apply pw_below_drewN | apply below_drew1 | refine below_set ?_ GE131.out) | exact HB.out))); rintro e w21 ⟨rfl, hb⟩; refine ⟨_, rfl, ?_⟩; have n0_ := Aside0.mk (blk_below (g := gb131) (o := .cells #[.int .i64 0, .string (⟨#[]⟩ : ByteArray), .int .i64 0, .int .i64 0, .int .u64 0, .string (⟨#[]⟩ : ByteArray), .int .i64 0] 39 (0, 0)) (by (with_reducible repeat (first | refine blk_drewN ?_ _ | refine blk_drew ?_ | refine blk_alloc ?_ _)); exact BK131.out) hb); have n1_ := Aside0.mk (below_step (by repeat (first | (with_reducible first | exact HB.out | apply below_alloc | apply pw_below_drewN | apply below_drew1 | refine below_set ?_ GE131.out) | exact HB.out)) hb); clear BK131; clear HB; have BK131 := n0_; have HB := n1_; clear n0_ n1_; (try clear hb); (try clear hb2); (try clear hk); (try clear hi); have hcz22_0 : w21.cell? ⟨gb131, 0, none⟩ = some (.int .i64 0) := (blk_cell BK131.out 0).trans rfl; have hcz22_1 : w21.cell? ⟨gb131, 1, none⟩ = some (.string (⟨#[]⟩ : ByteArray)) := (blk_cell BK131.out 1).trans rfl; have hcz22_2 : w21.cell? ⟨gb131, 2, none⟩ = some (.int .i64 0) := (blk_cell BK131.out 2).trans rfl; have hcz22_3 : w21.cell? ⟨gb131, 3, none⟩ = some (.int .i64 0) := (blk_cell BK131.out 3).trans rfl; have hcz22_4 : w21.cell? ⟨gb131, 4, none⟩ = some (.int .u64 0) := (blk_cell BK131.out 4).trans rfl; have hcz22_5 : w21.cell? ⟨gb131, 5, none⟩ = some (.string (⟨#[]⟩ : ByteArray)) := (blk_cell BK131.out 5).trans rfl; have hcz22_6 : w21.cell? ⟨gb131, 6, none⟩ = some (.int .i64 0) := (blk_cell BK131.out 6).trans rfl; have hfz22_0 := blk_frozen BK131.out 0; have hfz22_1 := blk_frozen BK131.out 1; have hfz22_2 := blk_frozen BK131.out 2; have hfz22_3 := blk_frozen BK131.out 3; have hfz22_4 := blk_frozen BK131.out 4; have hfz22_5 := blk_frozen BK131.out 5; have hfz22_6 := blk_frozen BK131.out 6))
      refine bodyPost_ret (results_ct rfl _ _ gb131 39 #[.int .i64 t141, .string t142, .int .i64 t143, .int .i64 t144, .int .u64 t145, .string t146, .int .i64 t147] (0, 0) _ rfl (by (with_reducible repeat (first | refine blk_drewN ?_ _ | refine blk_drew ?_ | refine blk_alloc ?_ _)); refine blk_put (cs := #[.int .i64 t141, .string t142, .int .i64 t143, .int .i64 t144, .int .u64 t145, .string t146, .int .i64 0]) ?_ 6 _ rfl; (with_reducible repeat (first | refine blk_drewN ?_ _ | refine blk_drew ?_ | refine blk_alloc ?_ _)); refine blk_put (cs := #[.int .i64 t141, .string t142, .int .i64 t143, .int .i64 t144, .int .u64 t145, .string (⟨#[]⟩ : ByteArray), .int .i64 0]) ?_ 5 _ rfl; (with_reducible repeat (first | refine blk_drewN ?_ _ | refine blk_drew ?_ | refine blk_alloc ?_ _)); refine blk_put (cs := #[.int .i64 t141, .string t142, .int .i64 t143, .int .i64 t144, .int .u64 0, .string (⟨#[]⟩ : ByteArray), .int .i64 0]) ?_ 4 _ rfl; (with_reducible repeat (first | refine blk_drewN ?_ _ | refine blk_drew ?_ | refine blk_alloc ?_ _)); refine blk_put (cs := #[.int .i64 t141, .string t142, .int .i64 t143, .int .i64 0, .int .u64 0, .string (⟨#[]⟩ : ByteArray), .int .i64 0]) ?_ 3 _ rfl; (with_reducible repeat (first | refine blk_drewN ?_ _ | refine blk_drew ?_ | refine blk_alloc ?_ _)); refine blk_put (cs := #[.int .i64 t141, .string t142, .int .i64 0, .int .i64 0, .int .u64 0, .string (⟨#[]⟩ : ByteArray), .int .i64 0]) ?_ 2 _ rfl; (with_reducible repeat (first | refine blk_drewN ?_ _ | refine blk_drew ?_ | refine blk_alloc ?_ _)); refine blk_put (cs := #[.int .i64 t141, .string (⟨#[]⟩ : ByteArray), .int .i64 0, .int .i64 0, .int .u64 0, .string (⟨#[]⟩ : ByteArray), .int .i64 0]) ?_ 1 _ rfl; (with_reducible repeat (first | refine blk_drewN ?_ _ | refine blk_drew ?_ | refine blk_alloc ?_ _)); refine blk_put (cs := #[.int .i64 0, .string (⟨#[]⟩ : ByteArray), .int .i64 0, .int .i64 0, .int .u64 0, .string (⟨#[]⟩ : ByteArray), .int .i64 0]) ?_ 0 _ rfl; (with_reducible repeat (first | refine blk_drewN ?_ _ | refine blk_drew ?_ | refine blk_alloc ?_ _)); exact BK131.out) Tryd.underlying39 rfl (by kernel_rfl)) rfl ?_
      exact ⟨by first | rfl | (simp [errW_none, errW_some] <;> rfl) | (simp [*, errW_none, errW_some] <;> rfl), by repeat (first | (with_reducible first | exact HB.out | apply below_alloc | apply pw_below_drewN | apply below_drew1 | refine below_set ?_ GE131.out) | exact HB.out)⟩
     ·replace c19 := Bool.eq_false_iff.mpr c19
      subst c19
      have H1 : ((lex_digit.f (bt a0 0)).bind fun t149 => (if t149 = true then (lex_one.j1 kj3 a0 (bt a0 0) t149) else (lex_one.j1 kj3 a0 (bt a0 0) ((bt a0 0) == 45)))) = some (r1, r2, r3, r4, r5, r6, r7, r8) := by rw [if_neg (show ¬ (false = true) by decide)] at H; exact H
      clear H
      have H := H1
      clear H1
      replace H := Option.bind_eq_some_iff.mp H
      obtain ⟨t149, A230, H⟩ := H
      replace H : (if t149 = true then (lex_one.j1 kj3 a0 (bt a0 0) t149) else (lex_one.j1 kj3 a0 (bt a0 0) ((bt a0 0) == 45))) = some (r1, r2, r3, r4, r5, r6, r7, r8) := H
      have A23 := Aside0.mk A230
      clear A230
      have HC24 := Aside0.mk H
      clear H
      go_upto_if 35 with (first | ((with_reducible refine gate_callee (f := 27) rfl ?_); refine goesL_ (some 30) rfl rfl Tryd.func27 (by kernel_rfl) rfl #[.int .u8 (bt a0 0)] rfl (by (try simp only [List.map_toArray, List.map_cons, List.map_nil]); first | done | rfl | (simp only [List.length_drop, List.length_take]; rfl)) ?_; (with_reducible refine (lex_letter.calls (bt a0 0) false _ A18.out).mono ?_); rintro e w' ⟨rfl, ⟨nd, rfl⟩⟩; refine ⟨_, rfl, ?_⟩) | ((with_reducible refine gate_callee (f := 29) rfl ?_); refine goesL_ (some 37) rfl rfl Tryd.func29 (by kernel_rfl) rfl #[.int .u8 (bt a0 0)] rfl (by (try simp only [List.map_toArray, List.map_cons, List.map_nil]); first | done | rfl | (simp only [List.length_drop, List.length_take]; rfl)) ?_; (with_reducible refine (lex_digit.calls (bt a0 0) t149 _ A23.out).mono ?_); rintro e w' ⟨rfl, ⟨nd, rfl⟩⟩; refine ⟨_, rfl, ?_⟩))
      (try simp only [Act.put, List.setIfInBounds_toArray, List.set_cons_zero, List.set_cons_succ])
      go_cut [35] (fun v35 wc => ∃ (kq : Nat) (x35_23 : Bool), v35 = .bool x35_23 ∧ Aside0 (lex_one.j1 kq a0 (bt a0 0) x35_23 = some (r1, r2, r3, r4, r5, r6, r7, r8)) ∧ Aside0 (kq ≤ kj3) ∧ Aside0 (wc.heap[gb131]? = some (.cells #[.int .i64 0, .string (⟨#[]⟩ : ByteArray), .int .i64 0, .int .i64 0, .int .u64 0, .string (⟨#[]⟩ : ByteArray), .int .i64 0] 39 (0, 0))) ∧ Aside0 (Below w.heap.size w wc))
      case first =>
       have H := HC24.out
       clear HC24
       by_cases c25 : t149 = true
       ·subst c25
        have H1 : (lex_one.j1 kj3 a0 (bt a0 0) true) = some (r1, r2, r3, r4, r5, r6, r7, r8) := by rw [if_pos rfl] at H; exact H
        clear H
        have H := H1
        clear H1
        have H' := Aside0.mk H
        clear H
        go_wp2
        go_meet
        case rel => exact ⟨_, (true), (by first | rfl | (simp; done) | (simp [*]; done)), H', ⟨by have := HJ3.out; first | omega | exact Nat.le_refl _⟩, ⟨by (with_reducible repeat (first | refine blk_drewN ?_ _ | refine blk_drew ?_ | refine blk_alloc ?_ _)); exact BK131.out⟩, ⟨by repeat (first | (with_reducible first | exact HB.out | apply below_alloc | apply pw_below_drewN | apply below_drew1 | refine below_set ?_ GE131.out) | exact HB.out)⟩⟩
       ·replace c25 := Bool.eq_false_iff.mpr c25
        subst c25
        have H1 : (lex_one.j1 kj3 a0 (bt a0 0) ((bt a0 0) == 45)) = some (r1, r2, r3, r4, r5, r6, r7, r8) := by rw [if_neg (show ¬ (false = true) by decide)] at H; exact H
        clear H
        have H := H1
        clear H1
        have H' := Aside0.mk H
        clear H
        go_wp2
        go_meet
        case rel => exact ⟨_, (((bt a0 0) == 45)), (by first | rfl | (simp; done) | (simp [*]; done)), H', ⟨by have := HJ3.out; first | omega | exact Nat.le_refl _⟩, ⟨by (with_reducible repeat (first | refine blk_drewN ?_ _ | refine blk_drew ?_ | refine blk_alloc ?_ _)); exact BK131.out⟩, ⟨by repeat (first | (with_reducible first | exact HB.out | apply below_alloc | apply pw_below_drewN | apply below_drew1 | refine below_set ?_ GE131.out) | exact HB.out)⟩⟩
      case rest =>
       clear HC24
       try clear c1
       try clear p1
       try clear q1
       try clear hx1
       try clear qi1
       try clear c2
       try clear c2b0
       try clear c2b1
       try clear p2
       try clear p3
       try clear q3
       try clear hx3
       try clear qi3
       try clear c6
       try clear c6b0
       try clear c6b1
       try clear c7
       try clear c7b0
       try clear c7b1
       try clear c8
       try clear c8b0
       try clear c8b1
       try clear p9
       try clear q9
       try clear hx9
       try clear qi9
       try clear c10
       try clear c10b0
       try clear c10b1
       try clear c11
       try clear c11b0
       try clear c11b1
       try clear c12
       try clear c12b0
       try clear c12b1
       try clear p13
       try clear q13
       try clear hx13
       try clear qi13
       try clear c14
       try clear c19
       try clear c25
       try clear hcz17_0
       try clear hcz17_1
       try clear hcz17_2
       try clear hcz17_3
       try clear hcz17_4
       try clear hcz17_5
       try clear hcz17_6
       try clear hcz22_0
       try clear hcz22_1
       try clear hcz22_2
       try clear hcz22_3
       try clear hcz22_4
       try clear hcz22_5
       try clear hcz22_6
       try clear hfz17_0
       try clear hfz17_1
       try clear hfz17_2
       try clear hfz17_3
       try clear hfz17_4
       try clear hfz17_5
       try clear hfz17_6
       try clear hfz22_0
       try clear hfz22_1
       try clear hfz22_2
       try clear hfz22_3
       try clear hfz22_4
       try clear hfz22_5
       try clear hfz22_6
       try clear p1
       try clear p13
       try clear p2
       try clear p3
       try clear p9
       try clear q1
       try clear q13
       try clear q3
       try clear q9
       obtain ⟨kq, x35_23, rfl, HA, HJ23, BK131, HB⟩ := hcut
       cases kq with
       | zero => exact absurd HA.out (by simp [lex_one.j1])
       | succ kj23 =>
        have H := HA.out
        clear HA
        simp only [lex_one.j1] at H
        by_cases c26 : x35_23 = true
        ·subst c26
         have H1 : ((lex_number.f a0).bind fun bt150 => (some (bt150.1, bt150.2.1, bt150.2.2.1, bt150.2.2.2.1, bt150.2.2.2.2.1, bt150.2.2.2.2.2.1, bt150.2.2.2.2.2.2.1, bt150.2.2.2.2.2.2.2))) = some (r1, r2, r3, r4, r5, r6, r7, r8) := by rw [if_pos rfl] at H; exact H
         clear H
         have H := H1
         clear H1
         replace H := Option.bind_eq_some_iff.mp H
         obtain ⟨⟨t150, t151, t152, t153, t154, t155, t156, t157⟩, A270, H⟩ := H
         replace H : (some (t150, t151, t152, t153, t154, t155, t156, t157)) = some (r1, r2, r3, r4, r5, r6, r7, r8) := H
         have A27 := Aside0.mk A270
         clear A270
         simp only [Option.some.injEq, Prod.mk.injEq] at H
         obtain ⟨rfl, rfl, rfl, rfl, rfl, rfl, rfl, rfl⟩ := H
         go_wp2_with (first | ((with_reducible refine gate_callee (f := 30) rfl ?_); refine goesL_ (some 41) rfl rfl Tryd.func30 (by kernel_rfl) rfl #[.string a0] rfl (by (try simp only [List.map_toArray, List.map_cons, List.map_nil]); first | done | rfl | (simp only [List.length_drop, List.length_take]; rfl)) ?_; (with_reducible refine (lex_number.calls a0 t150 t151 t152 t153 t154 t155 t156 t157 _ A27.out ?side1).mono ?_); (case side1 => exact GL.of_below HG.out (by repeat (first | (with_reducible first | exact HB.out | apply below_alloc | apply pw_below_drewN | apply below_drew1 | refine below_set ?_ GE131.out) | exact HB.out))); rintro e w28 ⟨rfl, hb⟩; refine ⟨_, rfl, ?_⟩; have n0_ := Aside0.mk (blk_below (g := gb131) (o := .cells #[.int .i64 0, .string (⟨#[]⟩ : ByteArray), .int .i64 0, .int .i64 0, .int .u64 0, .string (⟨#[]⟩ : ByteArray), .int .i64 0] 39 (0, 0)) (by (with_reducible repeat (first | refine blk_drewN ?_ _ | refine blk_drew ?_ | refine blk_alloc ?_ _)); exact BK131.out) hb); have n1_ := Aside0.mk (below_step (by repeat (first | (with_reducible first | exact HB.out | apply below_alloc | apply pw_below_drewN | apply below_drew1 | refine below_set ?_ GE131.out) | exact HB.out)) hb); clear BK131; clear HB; have BK131 := n0_; have HB := n1_; clear n0_ n1_; (try clear hb); (try clear hb2); (try clear hk); (try clear hi); have hcz29_0 : w28.cell? ⟨gb131, 0, none⟩ = some (.int .i64 0) := (blk_cell BK131.out 0).trans rfl; have hcz29_1 : w28.cell? ⟨gb131, 1, none⟩ = some (.string (⟨#[]⟩ : ByteArray)) := (blk_cell BK131.out 1).trans rfl; have hcz29_2 : w28.cell? ⟨gb131, 2, none⟩ = some (.int .i64 0) := (blk_cell BK131.out 2).trans rfl; have hcz29_3 : w28.cell? ⟨gb131, 3, none⟩ = some (.int .i64 0) := (blk_cell BK131.out 3).trans rfl; have hcz29_4 : w28.cell? ⟨gb131, 4, none⟩ = some (.int .u64 0) := (blk_cell BK131.out 4).trans rfl; have hcz29_5 : w28.cell? ⟨gb131, 5, none⟩ = some (.string (⟨#[]⟩ : ByteArray)) := (blk_cell BK131.out 5).trans rfl; have hcz29_6 : w28.cell? ⟨gb131, 6, none⟩ = some (.int .i64 0) := (blk_cell BK131.out 6).trans rfl; have hfz29_0 := blk_frozen BK131.out 0; have hfz29_1 := blk_frozen BK131.out 1; have hfz29_2 := blk_frozen BK131.out 2; have hfz29_3 := blk_frozen BK131.out 3; have hfz29_4 := blk_frozen BK131.out 4; have hfz29_5 := blk_frozen BK131.out 5; have hfz29_6 := blk_frozen BK131.out 6))
         refine bodyPost_ret (results_ct rfl _ _ gb131 39 #[.int .i64 t150, .string t151, .int .i64 t152, .int .i64 t153, .int .u64 t154, .string t155, .int .i64 t156] (0, 0) _ rfl (by (with_reducible repeat (first | refine blk_drewN ?_ _ | refine blk_drew ?_ | refine blk_alloc ?_ _)); refine blk_put (cs := #[.int .i64 t150, .string t151, .int .i64 t152, .int .i64 t153, .int .u64 t154, .string t155, .int .i64 0]) ?_ 6 _ rfl; (with_reducible repeat (first | refine blk_drewN ?_ _ | refine blk_drew ?_ | refine blk_alloc ?_ _)); refine blk_put (cs := #[.int .i64 t150, .string t151, .int .i64 t152, .int .i64 t153, .int .u64 t154, .string (⟨#[]⟩ : ByteArray), .int .i64 0]) ?_ 5 _ rfl; (with_reducible repeat (first | refine blk_drewN ?_ _ | refine blk_drew ?_ | refine blk_alloc ?_ _)); refine blk_put (cs := #[.int .i64 t150, .string t151, .int .i64 t152, .int .i64 t153, .int .u64 0, .string (⟨#[]⟩ : ByteArray), .int .i64 0]) ?_ 4 _ rfl; (with_reducible repeat (first | refine blk_drewN ?_ _ | refine blk_drew ?_ | refine blk_alloc ?_ _)); refine blk_put (cs := #[.int .i64 t150, .string t151, .int .i64 t152, .int .i64 0, .int .u64 0, .string (⟨#[]⟩ : ByteArray), .int .i64 0]) ?_ 3 _ rfl; (with_reducible repeat (first | refine blk_drewN ?_ _ | refine blk_drew ?_ | refine blk_alloc ?_ _)); refine blk_put (cs := #[.int .i64 t150, .string t151, .int .i64 0, .int .i64 0, .int .u64 0, .string (⟨#[]⟩ : ByteArray), .int .i64 0]) ?_ 2 _ rfl; (with_reducible repeat (first | refine blk_drewN ?_ _ | refine blk_drew ?_ | refine blk_alloc ?_ _)); refine blk_put (cs := #[.int .i64 t150, .string (⟨#[]⟩ : ByteArray), .int .i64 0, .int .i64 0, .int .u64 0, .string (⟨#[]⟩ : ByteArray), .int .i64 0]) ?_ 1 _ rfl; (with_reducible repeat (first | refine blk_drewN ?_ _ | refine blk_drew ?_ | refine blk_alloc ?_ _)); refine blk_put (cs := #[.int .i64 0, .string (⟨#[]⟩ : ByteArray), .int .i64 0, .int .i64 0, .int .u64 0, .string (⟨#[]⟩ : ByteArray), .int .i64 0]) ?_ 0 _ rfl; (with_reducible repeat (first | refine blk_drewN ?_ _ | refine blk_drew ?_ | refine blk_alloc ?_ _)); exact BK131.out) Tryd.underlying39 rfl (by kernel_rfl)) rfl ?_
         exact ⟨by first | rfl | (simp [errW_none, errW_some] <;> rfl) | (simp [*, errW_none, errW_some] <;> rfl), by repeat (first | (with_reducible first | exact HB.out | apply below_alloc | apply pw_below_drewN | apply below_drew1 | refine below_set ?_ GE131.out) | exact HB.out)⟩
        ·replace c26 := Bool.eq_false_iff.mpr c26
         subst c26
         have H1 : (if (bt a0 0) = 39 then ((lex_text.f kj23 a0).bind fun bt158 => (some (bt158.1, bt158.2.1, bt158.2.2.1, bt158.2.2.2.1, bt158.2.2.2.2.1, bt158.2.2.2.2.2.1, bt158.2.2.2.2.2.2.1, bt158.2.2.2.2.2.2.2))) else ((strings_IndexByte.f (⟨#[40, 41, 44, 59, 61, 60, 62, 43, 42]⟩ : ByteArray) (bt a0 0)).bind fun t166 => (if t166 ≥ 0 then (if 0 ≤ 1 then (if 1 ≤ (a0.size : Int) then (some (4, a0.extract 0 1, 0, 0, 0, (⟨#[]⟩ : ByteArray), 0, 1)) else (none)) else (none)) else (some (0, (⟨#[]⟩ : ByteArray), 0, 0, 0, (⟨#[]⟩ : ByteArray), 0, 0))))) = some (r1, r2, r3, r4, r5, r6, r7, r8) := by rw [if_neg (show ¬ (false = true) by decide)] at H; exact H
         clear H
         have H := H1
         clear H1
         by_cases c30 : (bt a0 0) = 39
         ·rw [if_pos c30] at H
          have c30b0 : ((bt a0 0) == 39) = true := beq_iff_eq.mpr c30
          have c30b1 : ((bt a0 0) != 39) = false := bne_eq_false_iff_eq.mpr c30
          clear c30
          replace H := Option.bind_eq_some_iff.mp H
          obtain ⟨⟨t158, t159, t160, t161, t162, t163, t164, t165⟩, A310, H⟩ := H
          replace H : (some (t158, t159, t160, t161, t162, t163, t164, t165)) = some (r1, r2, r3, r4, r5, r6, r7, r8) := H
          have A31 := Aside0.mk A310
          clear A310
          simp only [Option.some.injEq, Prod.mk.injEq] at H
          obtain ⟨rfl, rfl, rfl, rfl, rfl, rfl, rfl, rfl⟩ := H
          go_wp2_with (first | ((with_reducible refine gate_callee (f := 31) rfl ?_); refine goesL_ (some 48) rfl rfl Tryd.func31 (by kernel_rfl) rfl #[.string a0] rfl (by (try simp only [List.map_toArray, List.map_cons, List.map_nil]); first | done | rfl | (simp only [List.length_drop, List.length_take]; rfl)) ?_; (with_reducible refine (lex_text.calls kj23 a0 t158 t159 t160 t161 t162 t163 t164 t165 _ A31.out).mono ?_); rintro e w32 ⟨rfl, hb⟩; refine ⟨_, rfl, ?_⟩; have n0_ := Aside0.mk (blk_below (g := gb131) (o := .cells #[.int .i64 0, .string (⟨#[]⟩ : ByteArray), .int .i64 0, .int .i64 0, .int .u64 0, .string (⟨#[]⟩ : ByteArray), .int .i64 0] 39 (0, 0)) (by (with_reducible repeat (first | refine blk_drewN ?_ _ | refine blk_drew ?_ | refine blk_alloc ?_ _)); exact BK131.out) hb); have n1_ := Aside0.mk (below_step (by repeat (first | (with_reducible first | exact HB.out | apply below_alloc | apply pw_below_drewN | apply below_drew1 | refine below_set ?_ GE131.out) | exact HB.out)) hb); clear BK131; clear HB; have BK131 := n0_; have HB := n1_; clear n0_ n1_; (try clear hb); (try clear hb2); (try clear hk); (try clear hi); have hcz33_0 : w32.cell? ⟨gb131, 0, none⟩ = some (.int .i64 0) := (blk_cell BK131.out 0).trans rfl; have hcz33_1 : w32.cell? ⟨gb131, 1, none⟩ = some (.string (⟨#[]⟩ : ByteArray)) := (blk_cell BK131.out 1).trans rfl; have hcz33_2 : w32.cell? ⟨gb131, 2, none⟩ = some (.int .i64 0) := (blk_cell BK131.out 2).trans rfl; have hcz33_3 : w32.cell? ⟨gb131, 3, none⟩ = some (.int .i64 0) := (blk_cell BK131.out 3).trans rfl; have hcz33_4 : w32.cell? ⟨gb131, 4, none⟩ = some (.int .u64 0) := (blk_cell BK131.out 4).trans rfl; have hcz33_5 : w32.cell? ⟨gb131, 5, none⟩ = some (.string (⟨#[]⟩ : ByteArray)) := (blk_cell BK131.out 5).trans rfl; have hcz33_6 : w32.cell? ⟨gb131, 6, none⟩ = some (.int .i64 0) := (blk_cell BK131.out 6).trans rfl; have hfz33_0 := blk_frozen BK131.out 0; have hfz33_1 := blk_frozen BK131.out 1; have hfz33_2 := blk_frozen BK131.out 2; have hfz33_3 := blk_frozen BK131.out 3; have hfz33_4 := blk_frozen BK131.out 4; have hfz33_5 := blk_frozen BK131.out 5; have hfz33_6 := blk_frozen BK131.out 6))
          refine bodyPost_ret (results_ct rfl _ _ gb131 39 #[.int .i64 t158, .string t159, .int .i64 t160, .int .i64 t161, .int .u64 t162, .string t163, .int .i64 t164] (0, 0) _ rfl (by (with_reducible repeat (first | refine blk_drewN ?_ _ | refine blk_drew ?_ | refine blk_alloc ?_ _)); refine blk_put (cs := #[.int .i64 t158, .string t159, .int .i64 t160, .int .i64 t161, .int .u64 t162, .string t163, .int .i64 0]) ?_ 6 _ rfl; (with_reducible repeat (first | refine blk_drewN ?_ _ | refine blk_drew ?_ | refine blk_alloc ?_ _)); refine blk_put (cs := #[.int .i64 t158, .string t159, .int .i64 t160, .int .i64 t161, .int .u64 t162, .string (⟨#[]⟩ : ByteArray), .int .i64 0]) ?_ 5 _ rfl; (with_reducible repeat (first | refine blk_drewN ?_ _ | refine blk_drew ?_ | refine blk_alloc ?_ _)); refine blk_put (cs := #[.int .i64 t158, .string t159, .int .i64 t160, .int .i64 t161, .int .u64 0, .string (⟨#[]⟩ : ByteArray), .int .i64 0]) ?_ 4 _ rfl; (with_reducible repeat (first | refine blk_drewN ?_ _ | refine blk_drew ?_ | refine blk_alloc ?_ _)); refine blk_put (cs := #[.int .i64 t158, .string t159, .int .i64 t160, .int .i64 0, .int .u64 0, .string (⟨#[]⟩ : ByteArray), .int .i64 0]) ?_ 3 _ rfl; (with_reducible repeat (first | refine blk_drewN ?_ _ | refine blk_drew ?_ | refine blk_alloc ?_ _)); refine blk_put (cs := #[.int .i64 t158, .string t159, .int .i64 0, .int .i64 0, .int .u64 0, .string (⟨#[]⟩ : ByteArray), .int .i64 0]) ?_ 2 _ rfl; (with_reducible repeat (first | refine blk_drewN ?_ _ | refine blk_drew ?_ | refine blk_alloc ?_ _)); refine blk_put (cs := #[.int .i64 t158, .string (⟨#[]⟩ : ByteArray), .int .i64 0, .int .i64 0, .int .u64 0, .string (⟨#[]⟩ : ByteArray), .int .i64 0]) ?_ 1 _ rfl; (with_reducible repeat (first | refine blk_drewN ?_ _ | refine blk_drew ?_ | refine blk_alloc ?_ _)); refine blk_put (cs := #[.int .i64 0, .string (⟨#[]⟩ : ByteArray), .int .i64 0, .int .i64 0, .int .u64 0, .string (⟨#[]⟩ : ByteArray), .int .i64 0]) ?_ 0 _ rfl; (with_reducible repeat (first | refine blk_drewN ?_ _ | refine blk_drew ?_ | refine blk_alloc ?_ _)); exact BK131.out) Tryd.underlying39 rfl (by kernel_rfl)) rfl ?_
          exact ⟨by first | rfl | (simp [errW_none, errW_some] <;> rfl) | (simp [*, errW_none, errW_some] <;> rfl), by repeat (first | (with_reducible first | exact HB.out | apply below_alloc | apply pw_below_drewN | apply below_drew1 | refine below_set ?_ GE131.out) | exact HB.out)⟩
         ·rw [if_neg c30] at H
          have c30b0 : ((bt a0 0) == 39) = false := beq_eq_false_iff_ne.mpr c30
          have c30b1 : ((bt a0 0) != 39) = true := bne_iff_ne.mpr c30
          replace H := Option.bind_eq_some_iff.mp H
          obtain ⟨t166, A340, H⟩ := H
          replace H : (if t166 ≥ 0 then (if 0 ≤ 1 then (if 1 ≤ (a0.size : Int) then (some (4, a0.extract 0 1, 0, 0, 0, (⟨#[]⟩ : ByteArray), 0, 1)) else (none)) else (none)) else (some (0, (⟨#[]⟩ : ByteArray), 0, 0, 0, (⟨#[]⟩ : ByteArray), 0, 0))) = some (r1, r2, r3, r4, r5, r6, r7, r8) := H
          have A34 := Aside0.mk A340
          clear A340
          by_cases c35 : t166 ≥ 0
          ·rw [if_pos c35] at H
           have c35b0 : decide (0 ≤ t166) = true := decide_eq_true c35
           clear c35
           by_cases c36 : 0 ≤ 1
           ·rw [if_pos c36] at H
            have c36b0 := eq_true c36
            have c36b1 : decide (0 ≤ 1) = true := decide_eq_true c36
            clear c36
            by_cases c37 : 1 ≤ (a0.size : Int)
            ·rw [if_pos c37] at H
             have c37b0 := eq_true c37
             have c37b1 : decide (1 ≤ (a0.size : Int)) = true := decide_eq_true c37
             clear c37
             simp only [Option.some.injEq, Prod.mk.injEq] at H
             obtain ⟨rfl, rfl, rfl, rfl, rfl, rfl, rfl, rfl⟩ := H
             go_wp2_with (first | ((with_reducible refine gate_callee (f := 32) rfl ?_); refine goesL_ (some 53) rfl rfl Tryd.func32 (by kernel_rfl) rfl #[.string (⟨#[40, 41, 44, 59, 61, 60, 62, 43, 42]⟩ : ByteArray), .int .u8 (bt a0 0)] rfl (by (try simp only [List.map_toArray, List.map_cons, List.map_nil]); first | done | rfl | (simp only [List.length_drop, List.length_take]; rfl)) ?_; (with_reducible refine (strings_IndexByte.calls (⟨#[40, 41, 44, 59, 61, 60, 62, 43, 42]⟩ : ByteArray) (bt a0 0) t166 _ A34.out).mono ?_); rintro e w' ⟨rfl, ⟨nd, rfl⟩⟩; refine ⟨_, rfl, ?_⟩; (try (rw [drewN_self wc]; generalize hq_ : World.drewN wc _ = wc; have n0_ : Aside0 (wc.heap[gb131]? = some (.cells #[.int .i64 0, .string (⟨#[]⟩ : ByteArray), .int .i64 0, .int .i64 0, .int .u64 0, .string (⟨#[]⟩ : ByteArray), .int .i64 0] 39 (0, 0))) := ⟨by rw [← hq_]; exact (by (with_reducible repeat (first | refine blk_drewN ?_ _ | refine blk_drew ?_ | refine blk_alloc ?_ _)); exact BK131.out)⟩; have n1_ : Aside0 (Below w.heap.size w wc) := ⟨by rw [← hq_]; exact (by repeat (first | (with_reducible first | exact HB.out | apply below_alloc | apply pw_below_drewN | apply below_drew1 | refine below_set ?_ GE131.out) | exact HB.out))⟩; clear BK131 HB hq_; have BK131 := n0_; have HB := n1_; clear n0_ n1_)); have hcz38_0 : wc.cell? ⟨gb131, 0, none⟩ = some (.int .i64 0) := (blk_cell BK131.out 0).trans rfl; have hcz38_1 : wc.cell? ⟨gb131, 1, none⟩ = some (.string (⟨#[]⟩ : ByteArray)) := (blk_cell BK131.out 1).trans rfl; have hcz38_2 : wc.cell? ⟨gb131, 2, none⟩ = some (.int .i64 0) := (blk_cell BK131.out 2).trans rfl; have hcz38_3 : wc.cell? ⟨gb131, 3, none⟩ = some (.int .i64 0) := (blk_cell BK131.out 3).trans rfl; have hcz38_4 : wc.cell? ⟨gb131, 4, none⟩ = some (.int .u64 0) := (blk_cell BK131.out 4).trans rfl; have hcz38_5 : wc.cell? ⟨gb131, 5, none⟩ = some (.string (⟨#[]⟩ : ByteArray)) := (blk_cell BK131.out 5).trans rfl; have hcz38_6 : wc.cell? ⟨gb131, 6, none⟩ = some (.int .i64 0) := (blk_cell BK131.out 6).trans rfl; have hfz38_0 := blk_frozen BK131.out 0; have hfz38_1 := blk_frozen BK131.out 1; have hfz38_2 := blk_frozen BK131.out 2; have hfz38_3 := blk_frozen BK131.out 3; have hfz38_4 := blk_frozen BK131.out 4; have hfz38_5 := blk_frozen BK131.out 5; have hfz38_6 := blk_frozen BK131.out 6))
             refine bodyPost_ret (results_ct rfl _ _ gb131 39 #[.int .i64 4, .string (a0.extract 0 1), .int .i64 0, .int .i64 0, .int .u64 0, .string (⟨#[]⟩ : ByteArray), .int .i64 0] (0, 0) _ rfl (by (with_reducible repeat (first | refine blk_drewN ?_ _ | refine blk_drew ?_ | refine blk_alloc ?_ _)); refine blk_put (cs := #[.int .i64 4, .string (a0.extract 0 1), .int .i64 0, .int .i64 0, .int .u64 0, .string (⟨#[]⟩ : ByteArray), .int .i64 0]) ?_ 6 _ rfl; (with_reducible repeat (first | refine blk_drewN ?_ _ | refine blk_drew ?_ | refine blk_alloc ?_ _)); refine blk_put (cs := #[.int .i64 4, .string (a0.extract 0 1), .int .i64 0, .int .i64 0, .int .u64 0, .string (⟨#[]⟩ : ByteArray), .int .i64 0]) ?_ 5 _ rfl; (with_reducible repeat (first | refine blk_drewN ?_ _ | refine blk_drew ?_ | refine blk_alloc ?_ _)); refine blk_put (cs := #[.int .i64 4, .string (a0.extract 0 1), .int .i64 0, .int .i64 0, .int .u64 0, .string (⟨#[]⟩ : ByteArray), .int .i64 0]) ?_ 4 _ rfl; (with_reducible repeat (first | refine blk_drewN ?_ _ | refine blk_drew ?_ | refine blk_alloc ?_ _)); refine blk_put (cs := #[.int .i64 4, .string (a0.extract 0 1), .int .i64 0, .int .i64 0, .int .u64 0, .string (⟨#[]⟩ : ByteArray), .int .i64 0]) ?_ 3 _ rfl; (with_reducible repeat (first | refine blk_drewN ?_ _ | refine blk_drew ?_ | refine blk_alloc ?_ _)); refine blk_put (cs := #[.int .i64 4, .string (a0.extract 0 1), .int .i64 0, .int .i64 0, .int .u64 0, .string (⟨#[]⟩ : ByteArray), .int .i64 0]) ?_ 2 _ rfl; (with_reducible repeat (first | refine blk_drewN ?_ _ | refine blk_drew ?_ | refine blk_alloc ?_ _)); refine blk_put (cs := #[.int .i64 4, .string (⟨#[]⟩ : ByteArray), .int .i64 0, .int .i64 0, .int .u64 0, .string (⟨#[]⟩ : ByteArray), .int .i64 0]) ?_ 1 _ rfl; (with_reducible repeat (first | refine blk_drewN ?_ _ | refine blk_drew ?_ | refine blk_alloc ?_ _)); refine blk_put (cs := #[.int .i64 0, .string (⟨#[]⟩ : ByteArray), .int .i64 0, .int .i64 0, .int .u64 0, .string (⟨#[]⟩ : ByteArray), .int .i64 0]) ?_ 0 _ rfl; (with_reducible repeat (first | refine blk_drewN ?_ _ | refine blk_drew ?_ | refine blk_alloc ?_ _)); exact BK131.out) Tryd.underlying39 rfl (by kernel_rfl)) rfl ?_
             exact ⟨by first | rfl | (simp [errW_none, errW_some] <;> rfl) | (simp [*, errW_none, errW_some] <;> rfl), by repeat (first | (with_reducible first | exact HB.out | apply below_alloc | apply pw_below_drewN | apply below_drew1 | refine below_set ?_ GE131.out) | exact HB.out)⟩
            ·rw [if_neg c37] at H
             exact absurd H (by simp)
           ·rw [if_neg c36] at H
            exact absurd H (by simp)
          ·rw [if_neg c35] at H
           have c35b0 : decide (0 ≤ t166) = false := decide_eq_false c35
           clear c35
           simp only [Option.some.injEq, Prod.mk.injEq] at H
           obtain ⟨rfl, rfl, rfl, rfl, rfl, rfl, rfl, rfl⟩ := H
           go_wp2_with (first | ((with_reducible refine gate_callee (f := 32) rfl ?_); refine goesL_ (some 53) rfl rfl Tryd.func32 (by kernel_rfl) rfl #[.string (⟨#[40, 41, 44, 59, 61, 60, 62, 43, 42]⟩ : ByteArray), .int .u8 (bt a0 0)] rfl (by (try simp only [List.map_toArray, List.map_cons, List.map_nil]); first | done | rfl | (simp only [List.length_drop, List.length_take]; rfl)) ?_; (with_reducible refine (strings_IndexByte.calls (⟨#[40, 41, 44, 59, 61, 60, 62, 43, 42]⟩ : ByteArray) (bt a0 0) t166 _ A34.out).mono ?_); rintro e w' ⟨rfl, ⟨nd, rfl⟩⟩; refine ⟨_, rfl, ?_⟩; (try (rw [drewN_self wc]; generalize hq_ : World.drewN wc _ = wc; have n0_ : Aside0 (wc.heap[gb131]? = some (.cells #[.int .i64 0, .string (⟨#[]⟩ : ByteArray), .int .i64 0, .int .i64 0, .int .u64 0, .string (⟨#[]⟩ : ByteArray), .int .i64 0] 39 (0, 0))) := ⟨by rw [← hq_]; exact (by (with_reducible repeat (first | refine blk_drewN ?_ _ | refine blk_drew ?_ | refine blk_alloc ?_ _)); exact BK131.out)⟩; have n1_ : Aside0 (Below w.heap.size w wc) := ⟨by rw [← hq_]; exact (by repeat (first | (with_reducible first | exact HB.out | apply below_alloc | apply pw_below_drewN | apply below_drew1 | refine below_set ?_ GE131.out) | exact HB.out))⟩; clear BK131 HB hq_; have BK131 := n0_; have HB := n1_; clear n0_ n1_)); have hcz39_0 : wc.cell? ⟨gb131, 0, none⟩ = some (.int .i64 0) := (blk_cell BK131.out 0).trans rfl; have hcz39_1 : wc.cell? ⟨gb131, 1, none⟩ = some (.string (⟨#[]⟩ : ByteArray)) := (blk_cell BK131.out 1).trans rfl; have hcz39_2 : wc.cell? ⟨gb131, 2, none⟩ = some (.int .i64 0) := (blk_cell BK131.out 2).trans rfl; have hcz39_3 : wc.cell? ⟨gb131, 3, none⟩ = some (.int .i64 0) := (blk_cell BK131.out 3).trans rfl; have hcz39_4 : wc.cell? ⟨gb131, 4, none⟩ = some (.int .u64 0) := (blk_cell BK131.out 4).trans rfl; have hcz39_5 : wc.cell? ⟨gb131, 5, none⟩ = some (.string (⟨#[]⟩ : ByteArray)) := (blk_cell BK131.out 5).trans rfl; have hcz39_6 : wc.cell? ⟨gb131, 6, none⟩ = some (.int .i64 0) := (blk_cell BK131.out 6).trans rfl; have hfz39_0 := blk_frozen BK131.out 0; have hfz39_1 := blk_frozen BK131.out 1; have hfz39_2 := blk_frozen BK131.out 2; have hfz39_3 := blk_frozen BK131.out 3; have hfz39_4 := blk_frozen BK131.out 4; have hfz39_5 := blk_frozen BK131.out 5; have hfz39_6 := blk_frozen BK131.out 6))
           refine bodyPost_ret (results_ct rfl _ _ gb131 39 #[.int .i64 0, .string (⟨#[]⟩ : ByteArray), .int .i64 0, .int .i64 0, .int .u64 0, .string (⟨#[]⟩ : ByteArray), .int .i64 0] (0, 0) _ rfl (by (with_reducible repeat (first | refine blk_drewN ?_ _ | refine blk_drew ?_ | refine blk_alloc ?_ _)); refine blk_put (cs := #[.int .i64 0, .string (⟨#[]⟩ : ByteArray), .int .i64 0, .int .i64 0, .int .u64 0, .string (⟨#[]⟩ : ByteArray), .int .i64 0]) ?_ 6 _ rfl; (with_reducible repeat (first | refine blk_drewN ?_ _ | refine blk_drew ?_ | refine blk_alloc ?_ _)); refine blk_put (cs := #[.int .i64 0, .string (⟨#[]⟩ : ByteArray), .int .i64 0, .int .i64 0, .int .u64 0, .string (⟨#[]⟩ : ByteArray), .int .i64 0]) ?_ 5 _ rfl; (with_reducible repeat (first | refine blk_drewN ?_ _ | refine blk_drew ?_ | refine blk_alloc ?_ _)); refine blk_put (cs := #[.int .i64 0, .string (⟨#[]⟩ : ByteArray), .int .i64 0, .int .i64 0, .int .u64 0, .string (⟨#[]⟩ : ByteArray), .int .i64 0]) ?_ 4 _ rfl; (with_reducible repeat (first | refine blk_drewN ?_ _ | refine blk_drew ?_ | refine blk_alloc ?_ _)); refine blk_put (cs := #[.int .i64 0, .string (⟨#[]⟩ : ByteArray), .int .i64 0, .int .i64 0, .int .u64 0, .string (⟨#[]⟩ : ByteArray), .int .i64 0]) ?_ 3 _ rfl; (with_reducible repeat (first | refine blk_drewN ?_ _ | refine blk_drew ?_ | refine blk_alloc ?_ _)); refine blk_put (cs := #[.int .i64 0, .string (⟨#[]⟩ : ByteArray), .int .i64 0, .int .i64 0, .int .u64 0, .string (⟨#[]⟩ : ByteArray), .int .i64 0]) ?_ 2 _ rfl; (with_reducible repeat (first | refine blk_drewN ?_ _ | refine blk_drew ?_ | refine blk_alloc ?_ _)); refine blk_put (cs := #[.int .i64 0, .string (⟨#[]⟩ : ByteArray), .int .i64 0, .int .i64 0, .int .u64 0, .string (⟨#[]⟩ : ByteArray), .int .i64 0]) ?_ 1 _ rfl; (with_reducible repeat (first | refine blk_drewN ?_ _ | refine blk_drew ?_ | refine blk_alloc ?_ _)); refine blk_put (cs := #[.int .i64 0, .string (⟨#[]⟩ : ByteArray), .int .i64 0, .int .i64 0, .int .u64 0, .string (⟨#[]⟩ : ByteArray), .int .i64 0]) ?_ 0 _ rfl; (with_reducible repeat (first | refine blk_drewN ?_ _ | refine blk_drew ?_ | refine blk_alloc ?_ _)); exact BK131.out) Tryd.underlying39 rfl (by kernel_rfl)) rfl ?_
           exact ⟨by first | rfl | (simp [errW_none, errW_some] <;> rfl) | (simp [*, errW_none, errW_some] <;> rfl), by repeat (first | (with_reducible first | exact HB.out | apply below_alloc | apply pw_below_drewN | apply below_drew1 | refine below_set ?_ GE131.out) | exact HB.out)⟩
 ·rw [if_neg c2] at H
  exact absurd H (by simp)
end Go.Proofs.YtjehfmimbbdnkaaDoor.L
namespace Go.Proofs.YtjehfmimbbdnkaaDoor.L
open Go.RowKit Go.Proofs.YtjehfmimbbdnkaaDoorW.PrintWords Go.Proofs.YtjehfmimbbdnkaaDoorW.PrintLast Go.Proofs.YtjehfmimbbdnkaaDoorW.PrintMore
attribute [local go_sem] max2_int min2_int max_two min_two max_three min_three max_four min_four
set_option linter.unusedVariables false
set_option linter.unusedSimpArgs false
mutual
def lex_Lex.l0 : Nat → ByteArray → List (S39) → Int → Int → Int → Option ((List (S39)) × Int × Int)
 | 0, _, _, _, _, _ => none
 | k + 1, x0, x5, x6, x14, x15 => if x15 < x14 then (if x15 < x6 then (lex_Lex.j1 k x0 x5 x6 x15 x14 x15 true) else (if 0 ≤ x15 then (if x15 < (x0.size : Int) then (if (bt x0 x15) = 32 then (lex_Lex.j1 k x0 x5 x6 x15 x14 x15 true) else (if (bt x0 x15) = 9 then (lex_Lex.j1 k x0 x5 x6 x15 x14 x15 true) else (lex_Lex.j1 k x0 x5 x6 x15 x14 x15 ((bt x0 x15) == 10)))) else (none)) else (none))) else (if x5.length < 1954687338268 then (some ((x5 ++ [(⟨0, (⟨#[]⟩ : ByteArray), (⟨0, 0, 0, (⟨#[]⟩ : ByteArray)⟩ : S37), (x0.size : Int)⟩ : S39)]), 0, 0)) else (none))
def lex_Lex.j1 : Nat → ByteArray → List (S39) → Int → Int → Int → Int → Bool → Option ((List (S39)) × Int × Int)
 | 0, _, _, _, _, _, _, _ => none
 | k + 1, x0, x5, x6, x7, x14, x15, x38 => if x38 = true then (lex_Lex.l0 k x0 x5 x6 x14 (wrap64 (x15 + 1))) else (if 0 ≤ x7 then (if x7 ≤ (x0.size : Int) then ((lex_one.f k (x0.extract (x7 : Int).toNat x0.size)).bind fun bt170 => (if bt170.2.2.2.2.2.2.2 = 0 then (some (([] : List (S39)), x7, 3)) else (if x5.length < 1954687338268 then (lex_Lex.l0 k x0 (x5 ++ [(⟨bt170.1, bt170.2.1, (⟨bt170.2.2.1, bt170.2.2.2.1, bt170.2.2.2.2.1, bt170.2.2.2.2.2.1⟩ : S37), x7⟩ : S39)]) (wrap64 (x7 + bt170.2.2.2.2.2.2.2)) x14 (wrap64 (x15 + 1))) else (none)))) else (none)) else (none))
end
def lex_Lex.f (k : Nat) (a0 : ByteArray) : Option ((List (S39)) × Int × Int) := if (a0.size : Int) > 400 then (some (([] : List (S39)), 0, 2)) else (lex_Lex.l0 k a0 ([] : List (S39)) 0 (a0.size : Int) 0)
theorem lex_Lex.mono_l : ∀ k, (∀ y0 y1 y2 y3 y4, LeO (lex_Lex.l0 k y0 y1 y2 y3 y4) (lex_Lex.l0 (k + 1) y0 y1 y2 y3 y4)) ∧ (∀ y0 y1 y2 y3 y4 y5 y6, LeO (lex_Lex.j1 k y0 y1 y2 y3 y4 y5 y6) (lex_Lex.j1 (k + 1) y0 y1 y2 y3 y4 y5 y6))
 | 0 => ⟨fun _ _ _ _ _ r h => by simp [lex_Lex.l0] at h, fun _ _ _ _ _ _ _ r h => by simp [lex_Lex.j1] at h⟩
 | k + 1 => by
  obtain ⟨ih0, ih1⟩ := lex_Lex.mono_l k
  refine ⟨?_, ?_⟩
  ·intro y0 y1 y2 y3 y4
   unfold lex_Lex.l0
   repeat' first
   | (with_reducible exact ih0 _ _ _ _ _)
   | (with_reducible exact ih1 _ _ _ _ _ _ _)
   | (with_reducible exact lex_one.mono _ _)
   | (with_reducible exact LeO.refl _)
   | (with_reducible exact LeO.none _)
   | (with_reducible refine LeO.ite ?_ ?_)
   | (with_reducible refine LeO.bind ?_ (fun _ => ?_))
   | exact ih0 _ _ _ _ _
   | exact ih1 _ _ _ _ _ _ _
   | exact lex_one.mono _ _
   | exact LeO.none _
   | refine LeO.ite ?_ ?_
   | refine LeO.bind ?_ (fun _ => ?_)
  ·intro y0 y1 y2 y3 y4 y5 y6
   unfold lex_Lex.j1
   repeat' first
   | (with_reducible exact ih0 _ _ _ _ _)
   | (with_reducible exact ih1 _ _ _ _ _ _ _)
   | (with_reducible exact lex_one.mono _ _)
   | (with_reducible exact LeO.refl _)
   | (with_reducible exact LeO.none _)
   | (with_reducible refine LeO.ite ?_ ?_)
   | (with_reducible refine LeO.bind ?_ (fun _ => ?_))
   | exact ih0 _ _ _ _ _
   | exact ih1 _ _ _ _ _ _ _
   | exact lex_one.mono _ _
   | exact LeO.none _
   | refine LeO.ite ?_ ?_
   | refine LeO.bind ?_ (fun _ => ?_)
theorem lex_Lex.mono : ∀ a0 k, LeO (lex_Lex.f k a0) (lex_Lex.f (k + 1) a0) := by
 intro a0 k
 obtain ⟨ih0, ih1⟩ := lex_Lex.mono_l k
 unfold lex_Lex.f
 repeat' first
   | (with_reducible exact ih0 _ _ _ _ _)
   | (with_reducible exact ih1 _ _ _ _ _ _ _)
   | (with_reducible exact lex_one.mono _ _)
   | (with_reducible exact LeO.refl _)
   | (with_reducible exact LeO.none _)
   | (with_reducible refine LeO.ite ?_ ?_)
   | (with_reducible refine LeO.bind ?_ (fun _ => ?_))
   | exact ih0 _ _ _ _ _
   | exact ih1 _ _ _ _ _ _ _
   | exact lex_one.mono _ _
   | exact LeO.none _
   | refine LeO.ite ?_ ?_
   | refine LeO.bind ?_ (fun _ => ?_)
set_option maxHeartbeats 8000000 in
set_option maxRecDepth 100000 in
theorem lex_Lex.calls (k : Nat) (a0 : ByteArray) (r1 : List (S39)) (r2 : Int) (r3 : Int) (w : World) (h : lex_Lex.f k a0 = some (r1, r2, r3)) (hG : GL w) :
  Calls Tryd.prog 9 #[.string a0] w fun e w' => ∃ v0_ : Value, e = .returned (.tuple #[v0_, .int .i64 r2, .int .i64 r3]) ∧ Kd.R k39 39 w' w.heap.size (fun _ => True) v0_ r1 ∧ Below w.heap.size w w' := by
 have hu39 := Tryd.underlying39
 have HB := Aside0.mk (Below.refl w.heap.size w)
 have HG := Aside0.mk hG
 clear hG
 have H : (if (a0.size : Int) > 400 then (some (([] : List (S39)), 0, 2)) else (lex_Lex.l0 k a0 ([] : List (S39)) 0 (a0.size : Int) 0)) = some (r1, r2, r3) := h
 clear h
 by_cases c2 : (a0.size : Int) > 400
 ·rw [if_pos c2] at H
  have c2b0 : decide (400 < (a0.size : Int)) = true := decide_eq_true c2
  have c2b1 : decide (400 < a0.size) = true := decide_eq_true (by omega)
  clear c2
  simp only [Option.some.injEq, Prod.mk.injEq] at H
  obtain ⟨rfl, rfl, rfl⟩ := H
  go_enter Tryd.func9, Tryd.ntmps9
  go_wp2
  go_ret3
  exact ⟨_, by first | rfl | (simp [errW_none, errW_some] <;> rfl) | (simp [*, errW_none, errW_some] <;> rfl), by first | exact Kd.R_nil _ _ _ _ _ | exact Kd.N_nil _ _ _ _ _ | exact Kd.V_nil _ _ _ _ _ | exact Kd.Q_nil _ _ _ _ _ | exact Kd.S_nil _ _ _ _ _, by repeat (first | (with_reducible first | exact HB.out | apply below_alloc | apply pw_below_drewN | apply below_drew1) | exact HB.out)⟩
 ·rw [if_neg c2] at H
  have c2b0 : decide (400 < (a0.size : Int)) = false := decide_eq_false c2
  have c2b1 : decide (400 < a0.size) = false := decide_eq_false (by omega)
  clear c2
  have H' := Aside0.mk H
  clear H
  go_enter Tryd.func9, Tryd.ntmps9
  go_wp2
  go_loopg [5, 6, 15] k (fun kq v5 v6 v15 w' => ∃ (x5_1 : List (S39)) (x6_1 : Int) (x15_1 : Int), v6 = .int .i64 x6_1 ∧ v15 = .int .i64 x15_1 ∧ Aside0 (lex_Lex.l0 kq a0 x5_1 x6_1 (a0.size : Int) x15_1 = some (r1, r2, r3)) ∧ Aside0 (kq ≤ k) ∧ Aside0 (Kd.R k39 39 w' w.heap.size (fun _ => True) v5 x5_1) ∧ Aside0 (Below w.heap.size w w'))
  case atStart => exact ⟨(([] : List (S39))), (0), (0), (by first | rfl | (simp; done) | (simp [*]; done)), (by first | rfl | (simp; done) | (simp [*]; done)), H', ⟨Nat.le_refl _⟩, ⟨by first | exact Kd.R_nil _ _ _ _ _ | exact Kd.N_nil _ _ _ _ _ | exact Kd.V_nil _ _ _ _ _ | exact Kd.Q_nil _ _ _ _ _ | exact Kd.S_nil _ _ _ _ _⟩, ⟨by repeat (first | (with_reducible first | exact HB.out | apply below_alloc | apply pw_below_drewN | apply below_drew1) | exact HB.out)⟩⟩
  case round =>
   clear H'
   try clear c2
   try clear c2b0
   try clear c2b1
   try clear p2
   obtain ⟨x5_1, x6_1, x15_1, rfl, rfl, HA, HK1, HO_5, HB⟩ := hrel
   cases gk with
   | zero => exact absurd HA.out (by simp [lex_Lex.l0])
   | succ k1 =>
    have H := HA.out
    clear HA
    simp only [lex_Lex.l0] at H
    by_cases c3 : x15_1 < (a0.size : Int)
    ·rw [if_pos c3] at H
     have c3b0 : decide (x15_1 < (a0.size : Int)) = true := decide_eq_true c3
     clear c3
     have HC4 := Aside0.mk H
     clear H
     go_upto_region 8 with (fail)
     go_cut [38] (fun v38 wc => ∃ (kq : Nat) (x38_3 : Bool), v38 = .bool x38_3 ∧ Aside0 (lex_Lex.j1 kq a0 x5_1 x6_1 x15_1 (a0.size : Int) x15_1 x38_3 = some (r1, r2, r3)) ∧ Aside0 (kq ≤ k1) ∧ Aside0 (Kd.R k39 39 wc w.heap.size (fun _ => True) u5 x5_1) ∧ Aside0 (Below w.heap.size w wc))
     case first =>
      have H := HC4.out
      clear HC4
      by_cases c5 : x15_1 < x6_1
      ·rw [if_pos c5] at H
       have c5b0 : decide (x15_1 < x6_1) = true := decide_eq_true c5
       clear c5
       (first | rw [c5b0] | (simp only [i64_w, i32_w]; rw [c5b0]) | skip)
       have H' := Aside0.mk H
       clear H
       go_wp2
       go_meet
       case rel => exact ⟨_, (true), (by first | rfl | (simp; done) | (simp [*]; done)), H', ⟨by have := HK1.out; first | omega | exact Nat.le_refl _⟩, ⟨by (with_reducible repeat (first | apply Kd.R_alloc | apply Kd.R_drewN | apply Kd.R_drew)); exact HO_5.out⟩, ⟨by repeat (first | (with_reducible first | exact HB.out | apply below_alloc | apply pw_below_drewN | apply below_drew1) | exact HB.out)⟩⟩
      ·rw [if_neg c5] at H
       have c5b0 : decide (x15_1 < x6_1) = false := decide_eq_false c5
       clear c5
       (first | rw [c5b0] | (simp only [i64_w, i32_w]; rw [c5b0]) | skip)
       by_cases c6 : 0 ≤ x15_1
       ·rw [if_pos c6] at H
        have c6b0 : decide (0 ≤ x15_1) = true := decide_eq_true c6
        clear c6
        by_cases c7 : x15_1 < (a0.size : Int)
        ·rw [if_pos c7] at H
         have c7b0 : decide (x15_1 < (a0.size : Int)) = true := decide_eq_true c7
         clear c7
         by_cases c9 : (bt a0 x15_1) = 32
         ·rw [if_pos c9] at H
          have c9b0 : ((bt a0 x15_1) == 32) = true := beq_iff_eq.mpr c9
          have c9b1 : ((bt a0 x15_1) != 32) = false := bne_eq_false_iff_eq.mpr c9
          clear c9
          have H' := Aside0.mk H
          clear H
          have p8 : 0 ≤ (x15_1 : Int) := of_decide_eq_true (by first | (with_reducible assumption) | assumption)
          have q8 : x15_1 < (a0.size : Int) := of_decide_eq_true (by first | (with_reducible assumption) | assumption)
          have hx8 := bt_at a0 x15_1
          replace p8 := eq_true p8
          replace q8 := eq_true q8
          go_wp2
          go_meet
          case rel => exact ⟨_, (true), (by first | rfl | (simp; done) | (simp [*]; done)), H', ⟨by have := HK1.out; first | omega | exact Nat.le_refl _⟩, ⟨by (with_reducible repeat (first | apply Kd.R_alloc | apply Kd.R_drewN | apply Kd.R_drew)); exact HO_5.out⟩, ⟨by repeat (first | (with_reducible first | exact HB.out | apply below_alloc | apply pw_below_drewN | apply below_drew1) | exact HB.out)⟩⟩
         ·rw [if_neg c9] at H
          have c9b0 : ((bt a0 x15_1) == 32) = false := beq_eq_false_iff_ne.mpr c9
          have c9b1 : ((bt a0 x15_1) != 32) = true := bne_iff_ne.mpr c9
          by_cases c11 : (bt a0 x15_1) = 9
          ·rw [if_pos c11] at H
           have c11b0 : ((bt a0 x15_1) == 9) = true := beq_iff_eq.mpr c11
           have c11b1 : ((bt a0 x15_1) != 9) = false := bne_eq_false_iff_eq.mpr c11
           clear c11
           have H' := Aside0.mk H
           clear H
           have p8 : 0 ≤ (x15_1 : Int) := of_decide_eq_true (by first | (with_reducible assumption) | assumption)
           have q8 : x15_1 < (a0.size : Int) := of_decide_eq_true (by first | (with_reducible assumption) | assumption)
           have hx8 := bt_at a0 x15_1
           replace p8 := eq_true p8
           replace q8 := eq_true q8
           have p10 : 0 ≤ (x15_1 : Int) := of_decide_eq_true (by first | (with_reducible assumption) | assumption)
           have q10 : x15_1 < (a0.size : Int) := of_decide_eq_true (by first | (with_reducible assumption) | assumption)
           have hx10 := bt_at a0 x15_1
           replace p10 := eq_true p10
           replace q10 := eq_true q10
           go_wp2
           go_meet
           case rel => exact ⟨_, (true), (by first | rfl | (simp; done) | (simp [*]; done)), H', ⟨by have := HK1.out; first | omega | exact Nat.le_refl _⟩, ⟨by (with_reducible repeat (first | apply Kd.R_alloc | apply Kd.R_drewN | apply Kd.R_drew)); exact HO_5.out⟩, ⟨by repeat (first | (with_reducible first | exact HB.out | apply below_alloc | apply pw_below_drewN | apply below_drew1) | exact HB.out)⟩⟩
          ·rw [if_neg c11] at H
           have c11b0 : ((bt a0 x15_1) == 9) = false := beq_eq_false_iff_ne.mpr c11
           have c11b1 : ((bt a0 x15_1) != 9) = true := bne_iff_ne.mpr c11
           have H' := Aside0.mk H
           clear H
           have p8 : 0 ≤ (x15_1 : Int) := of_decide_eq_true (by first | (with_reducible assumption) | assumption)
           have q8 : x15_1 < (a0.size : Int) := of_decide_eq_true (by first | (with_reducible assumption) | assumption)
           have hx8 := bt_at a0 x15_1
           replace p8 := eq_true p8
           replace q8 := eq_true q8
           have p10 : 0 ≤ (x15_1 : Int) := of_decide_eq_true (by first | (with_reducible assumption) | assumption)
           have q10 : x15_1 < (a0.size : Int) := of_decide_eq_true (by first | (with_reducible assumption) | assumption)
           have hx10 := bt_at a0 x15_1
           replace p10 := eq_true p10
           replace q10 := eq_true q10
           have p12 : 0 ≤ (x15_1 : Int) := of_decide_eq_true (by first | (with_reducible assumption) | assumption)
           have q12 : x15_1 < (a0.size : Int) := of_decide_eq_true (by first | (with_reducible assumption) | assumption)
           have hx12 := bt_at a0 x15_1
           replace p12 := eq_true p12
           replace q12 := eq_true q12
           go_wp2
           go_meet
           case rel => exact ⟨_, (((bt a0 x15_1) == 10)), (by first | rfl | (simp; done) | (simp [*]; done)), H', ⟨by have := HK1.out; first | omega | exact Nat.le_refl _⟩, ⟨by (with_reducible repeat (first | apply Kd.R_alloc | apply Kd.R_drewN | apply Kd.R_drew)); exact HO_5.out⟩, ⟨by repeat (first | (with_reducible first | exact HB.out | apply below_alloc | apply pw_below_drewN | apply below_drew1) | exact HB.out)⟩⟩
        ·rw [if_neg c7] at H
         exact absurd H (by simp)
       ·rw [if_neg c6] at H
        exact absurd H (by simp)
     case rest =>
      clear HC4
      try clear c1
      try clear p1
      try clear q1
      try clear hx1
      try clear c2
      try clear c2b0
      try clear c2b1
      try clear p2
      try clear c3
      try clear c3b0
      try clear c5
      try clear c5b0
      try clear c6
      try clear c6b0
      try clear c7
      try clear c7b0
      try clear p8
      try clear q8
      try clear hx8
      try clear c9
      try clear c9b0
      try clear c9b1
      try clear p10
      try clear q10
      try clear hx10
      try clear c11
      try clear c11b0
      try clear c11b1
      try clear p12
      try clear q12
      try clear hx12
      try clear p10
      try clear p12
      try clear p2
      try clear p8
      try clear q10
      try clear q12
      try clear q8
      obtain ⟨kq, x38_3, rfl, HA, HJ3, HO_5, HB⟩ := hcut
      cases kq with
      | zero => exact absurd HA.out (by simp [lex_Lex.j1])
      | succ kj3 =>
       have H := HA.out
       clear HA
       simp only [lex_Lex.j1] at H
       by_cases c13 : x38_3 = true
       ·subst c13
        have H1 : (lex_Lex.l0 kj3 a0 x5_1 x6_1 (a0.size : Int) (wrap64 (x15_1 + 1))) = some (r1, r2, r3) := by rw [if_pos rfl] at H; exact H
        clear H
        have H := H1
        clear H1
        have H' := Aside0.mk H
        clear H
        go_wp2
        go_roundg kj3
        case measure => have := HK1.out; have := HJ3.out; omega
        case rel => exact ⟨(x5_1), (x6_1), (wrap64 (x15_1 + 1)), (by first | rfl | (simp; done) | (simp [*]; done)), (by first | rfl | (simp; done) | (simp [*]; done)), H', ⟨by have := HK1.out; have := HJ3.out; omega⟩, ⟨by (with_reducible repeat (first | apply Kd.R_alloc | apply Kd.R_drewN | apply Kd.R_drew)); exact HO_5.out⟩, ⟨by repeat (first | (with_reducible first | exact HB.out | apply below_alloc | apply pw_below_drewN | apply below_drew1) | exact HB.out)⟩⟩
       ·replace c13 := Bool.eq_false_iff.mpr c13
        subst c13
        have H1 : (if 0 ≤ x15_1 then (if x15_1 ≤ (a0.size : Int) then ((lex_one.f kj3 (a0.extract (x15_1 : Int).toNat a0.size)).bind fun bt170 => (if bt170.2.2.2.2.2.2.2 = 0 then (some (([] : List (S39)), x15_1, 3)) else (if x5_1.length < 1954687338268 then (lex_Lex.l0 kj3 a0 (x5_1 ++ [(⟨bt170.1, bt170.2.1, (⟨bt170.2.2.1, bt170.2.2.2.1, bt170.2.2.2.2.1, bt170.2.2.2.2.2.1⟩ : S37), x15_1⟩ : S39)]) (wrap64 (x15_1 + bt170.2.2.2.2.2.2.2)) (a0.size : Int) (wrap64 (x15_1 + 1))) else (none)))) else (none)) else (none)) = some (r1, r2, r3) := by rw [if_neg (show ¬ (false = true) by decide)] at H; exact H
        clear H
        have H := H1
        clear H1
        by_cases c14 : 0 ≤ x15_1
        ·rw [if_pos c14] at H
         have c14b0 := eq_true c14
         have c14b1 : decide (0 ≤ x15_1) = true := decide_eq_true c14
         clear c14
         by_cases c15 : x15_1 ≤ (a0.size : Int)
         ·rw [if_pos c15] at H
          have c15b0 := eq_true c15
          have c15b1 : decide (x15_1 ≤ (a0.size : Int)) = true := decide_eq_true c15
          clear c15
          replace H := Option.bind_eq_some_iff.mp H
          obtain ⟨⟨t170, t171, t172, t173, t174, t175, t176, t177⟩, A160, H⟩ := H
          replace H : (if t177 = 0 then (some (([] : List (S39)), x15_1, 3)) else (if x5_1.length < 1954687338268 then (lex_Lex.l0 kj3 a0 (x5_1 ++ [(⟨t170, t171, (⟨t172, t173, t174, t175⟩ : S37), x15_1⟩ : S39)]) (wrap64 (x15_1 + t177)) (a0.size : Int) (wrap64 (x15_1 + 1))) else (none))) = some (r1, r2, r3) := H
          have A16 := Aside0.mk A160
          clear A160
          by_cases c17 : t177 = 0
          ·rw [if_pos c17] at H
           have c17b0 : (t177 == 0) = true := beq_iff_eq.mpr c17
           have c17b1 : (t177 != 0) = false := bne_eq_false_iff_eq.mpr c17
           clear c17
           simp only [Option.some.injEq, Prod.mk.injEq] at H
           obtain ⟨rfl, rfl, rfl⟩ := H
           go_wp2_with (first | ((with_reducible refine gate_callee (f := 19) rfl ?_); refine goesL_ (some 43) rfl rfl Tryd.func19 (by kernel_rfl) rfl #[.string (a0.extract (x15_1 : Int).toNat a0.size)] rfl (by (try simp only [List.map_toArray, List.map_cons, List.map_nil]); first | done | rfl | (simp only [List.length_drop, List.length_take]; rfl)) ?_; (with_reducible refine (lex_one.calls kj3 (a0.extract (x15_1 : Int).toNat a0.size) t170 t171 t172 t173 t174 t175 t176 t177 _ A16.out ?side1).mono ?_); (case side1 => exact GL.of_below HG.out (by repeat (first | (with_reducible first | exact HB.out | apply below_alloc | apply pw_below_drewN | apply below_drew1) | exact HB.out))); rintro e w18 ⟨rfl, hb⟩; refine ⟨_, rfl, ?_⟩; have n0_ := Aside0.mk (Kd.R_below (by (with_reducible repeat (first | apply Kd.R_alloc | apply Kd.R_drewN | apply Kd.R_drew)); exact HO_5.out) hb); have n1_ := Aside0.mk (below_step (by repeat (first | (with_reducible first | exact HB.out | apply below_alloc | apply pw_below_drewN | apply below_drew1) | exact HB.out)) hb); clear HO_5; clear HB; have HO_5 := n0_; have HB := n1_; clear n0_ n1_; (try clear hb); (try clear hb2); (try clear hk); (try clear hi)) | ((with_reducible refine gate_dst (N := 8) rfl ?_); refine box_event ?hg (N := 8) ?hd (cs := #[.int .i64 0, .string (⟨#[]⟩ : ByteArray), .int .i64 0, .int .i64 0, .int .u64 0, .string (⟨#[]⟩ : ByteArray), .int .i64 0]) (t := 39) ?hr ?_; (case hd => rfl); (case hg => rfl); (case hr => first | (go_simp; done) | (go_simp; rfl)); intro gb178 hg w19 hbox hb; have n0_ := Aside0.mk (Kd.R_below (Kd.R_elderB (by (with_reducible repeat (first | apply Kd.R_alloc | apply Kd.R_drewN | apply Kd.R_drew)); exact HO_5.out) gb178 (Nat.le_of_eq hg.symm)) hb); have n1_ := Aside0.mk (below_step (by repeat (first | (with_reducible first | exact HB.out | apply below_alloc | apply pw_below_drewN | apply below_drew1) | exact HB.out)) hb); have n2_ := Aside0.mk (hbox); have n3_ := Aside0.mk ((by rw [hg]; exact (below_size (by repeat (first | (with_reducible first | exact HB.out | apply below_alloc | apply pw_below_drewN | apply below_drew1) | exact HB.out))) : w.heap.size ≤ gb178)); have n4_ := Aside0.mk ((by rw [hg]; exact (below_size (by repeat (first | (with_reducible first | exact HB.out | apply below_alloc | apply pw_below_drewN | apply below_drew1) | exact HB.out))) : w.heap.size ≤ gb178)); clear HO_5; clear HB; have HO_5 := n0_; have HB := n1_; have BK178 := n2_; have GW178 := n3_; have GE178 := n4_; clear n0_ n1_ n2_ n3_ n4_; clear hb hbox hg; have hcz20_0 : w19.cell? ⟨gb178, 0, none⟩ = some (.int .i64 0) := (blk_cell BK178.out 0).trans rfl; have hcz20_1 : w19.cell? ⟨gb178, 1, none⟩ = some (.string (⟨#[]⟩ : ByteArray)) := (blk_cell BK178.out 1).trans rfl; have hcz20_2 : w19.cell? ⟨gb178, 2, none⟩ = some (.int .i64 0) := (blk_cell BK178.out 2).trans rfl; have hcz20_3 : w19.cell? ⟨gb178, 3, none⟩ = some (.int .i64 0) := (blk_cell BK178.out 3).trans rfl; have hcz20_4 : w19.cell? ⟨gb178, 4, none⟩ = some (.int .u64 0) := (blk_cell BK178.out 4).trans rfl; have hcz20_5 : w19.cell? ⟨gb178, 5, none⟩ = some (.string (⟨#[]⟩ : ByteArray)) := (blk_cell BK178.out 5).trans rfl; have hcz20_6 : w19.cell? ⟨gb178, 6, none⟩ = some (.int .i64 0) := (blk_cell BK178.out 6).trans rfl; have hfz20_0 := blk_frozen BK178.out 0; have hfz20_1 := blk_frozen BK178.out 1; have hfz20_2 := blk_frozen BK178.out 2; have hfz20_3 := blk_frozen BK178.out 3; have hfz20_4 := blk_frozen BK178.out 4; have hfz20_5 := blk_frozen BK178.out 5; have hfz20_6 := blk_frozen BK178.out 6))
           go_ret3
           exact ⟨_, by first | rfl | (simp [errW_none, errW_some] <;> rfl) | (simp [*, errW_none, errW_some] <;> rfl), by first | exact Kd.R_nil _ _ _ _ _ | exact Kd.N_nil _ _ _ _ _ | exact Kd.V_nil _ _ _ _ _ | exact Kd.Q_nil _ _ _ _ _ | exact Kd.S_nil _ _ _ _ _, by repeat (first | (with_reducible first | exact HB.out | apply below_alloc | apply pw_below_drewN | apply below_drew1 | refine below_set ?_ GE178.out) | exact HB.out)⟩
          ·rw [if_neg c17] at H
           have c17b0 : (t177 == 0) = false := beq_eq_false_iff_ne.mpr c17
           have c17b1 : (t177 != 0) = true := bne_iff_ne.mpr c17
           by_cases c21 : x5_1.length < 1954687338268
           ·rw [if_pos c21] at H
            have LMc21 := Aside0.mk c21
            clear c21
            obtain ⟨y179, hy179⟩ : ∃ y_ : List (S39), y_ = (x5_1 ++ [(⟨t170, t171, (⟨t172, t173, t174, t175⟩ : S37), x15_1⟩ : S39)]) := ⟨_, rfl⟩
            replace H : (lex_Lex.l0 kj3 a0 y179 (wrap64 (x15_1 + t177)) (a0.size : Int) (wrap64 (x15_1 + 1))) = some (r1, r2, r3) := by first | (rw [hy179]; with_reducible exact H) | (have H2_ := (Option.bind_some _ _).symm.trans H; rw [hy179]; with_reducible exact H2_) | (have H2_ := (Option.bind_some _ _).symm.trans H; with_reducible exact H2_) | with_reducible exact H | (rw [hy179]; exact H) | exact H
            have Ny179 := Aside0.mk hy179
            clear hy179
            have H' := Aside0.mk H
            clear H
            have hgen_ : True := trivial
            go_wp2_with (first | ((with_reducible refine gate_dst (N := 47) rfl ?_); have chk_ := hgen_; clear chk_ hgen_; obtain ⟨W1, hW1⟩ : ∃ W1 : World, W1 = (((((((w23).setCell ⟨gb178, 0, none⟩ (.int .i64 t170)).setCell ⟨gb178, 1, none⟩ (.string t171)).setCell ⟨gb178, 2, none⟩ (.int .i64 t172)).setCell ⟨gb178, 3, none⟩ (.int .i64 t173)).setCell ⟨gb178, 4, none⟩ (.int .u64 t174)).setCell ⟨gb178, 5, none⟩ (.string t175)).setCell ⟨gb178, 6, none⟩ (.int .i64 t176) := ⟨_, rfl⟩; rw [← hW1]; have m0_ : W1.heap[gb178]? = some (.cells #[.int .i64 t170, .string t171, .int .i64 t172, .int .i64 t173, .int .u64 t174, .string t175, .int .i64 t176] 39 (0, 0)) := (by rw [hW1]; refine blk_put (cs := #[.int .i64 t170, .string t171, .int .i64 t172, .int .i64 t173, .int .u64 t174, .string t175, .int .i64 0]) ?_ 6 _ rfl; refine blk_put (cs := #[.int .i64 t170, .string t171, .int .i64 t172, .int .i64 t173, .int .u64 t174, .string (⟨#[]⟩ : ByteArray), .int .i64 0]) ?_ 5 _ rfl; refine blk_put (cs := #[.int .i64 t170, .string t171, .int .i64 t172, .int .i64 t173, .int .u64 0, .string (⟨#[]⟩ : ByteArray), .int .i64 0]) ?_ 4 _ rfl; refine blk_put (cs := #[.int .i64 t170, .string t171, .int .i64 t172, .int .i64 0, .int .u64 0, .string (⟨#[]⟩ : ByteArray), .int .i64 0]) ?_ 3 _ rfl; refine blk_put (cs := #[.int .i64 t170, .string t171, .int .i64 0, .int .i64 0, .int .u64 0, .string (⟨#[]⟩ : ByteArray), .int .i64 0]) ?_ 2 _ rfl; refine blk_put (cs := #[.int .i64 t170, .string (⟨#[]⟩ : ByteArray), .int .i64 0, .int .i64 0, .int .u64 0, .string (⟨#[]⟩ : ByteArray), .int .i64 0]) ?_ 1 _ rfl; refine blk_put (cs := #[.int .i64 0, .string (⟨#[]⟩ : ByteArray), .int .i64 0, .int .i64 0, .int .u64 0, .string (⟨#[]⟩ : ByteArray), .int .i64 0]) ?_ 0 _ rfl; exact BK178.out); have m1_ : Below w.heap.size w W1 := (by rw [hW1]; (repeat (with_reducible refine below_set ?_ GE178.out)); exact HB.out); have m2_ := Kd.R_far (p := ⟨gb178, 6, none⟩) (Kd.R_far (p := ⟨gb178, 5, none⟩) (Kd.R_far (p := ⟨gb178, 4, none⟩) (Kd.R_far (p := ⟨gb178, 3, none⟩) (Kd.R_far (p := ⟨gb178, 2, none⟩) (Kd.R_far (p := ⟨gb178, 1, none⟩) (Kd.R_far (p := ⟨gb178, 0, none⟩) (Kd.R_mono HO_5.out (fun k_ hk => (⟨hk, hk.2⟩ : _ ∧ k_ ≠ gb178))) (fun _ hk => hk.2) (.int .i64 t170)) (fun _ hk => hk.2) (.string t171)) (fun _ hk => hk.2) (.int .i64 t172)) (fun _ hk => hk.2) (.int .i64 t173)) (fun _ hk => hk.2) (.int .u64 t174)) (fun _ hk => hk.2) (.string t175)) (fun _ hk => hk.2) (.int .i64 t176); rw [← hW1] at m2_; clear hW1 BK178 HB HO_5; (try clear hcz24_0); (try clear hcz24_1); (try clear hcz24_2); (try clear hcz24_3); (try clear hcz24_4); (try clear hcz24_5); (try clear hcz24_6); (try clear hfz24_0); (try clear hfz24_1); (try clear hfz24_2); (try clear hfz24_3); (try clear hfz24_4); (try clear hfz24_5); (try clear hfz24_6); have BK178 := Aside0.mk m0_; have HB := Aside0.mk m1_; have HO_5 := Aside0.mk m2_; clear m0_ m1_ m2_; have hc178_0 : W1.cell? ⟨gb178, 0, none⟩ = some (.int .i64 t170) := (blk_cell BK178.out 0).trans rfl; have hf178_0 := blk_frozen BK178.out 0; have hc178_1 : W1.cell? ⟨gb178, 1, none⟩ = some (.string t171) := (blk_cell BK178.out 1).trans rfl; have hf178_1 := blk_frozen BK178.out 1; have hc178_2 : W1.cell? ⟨gb178, 2, none⟩ = some (.int .i64 t172) := (blk_cell BK178.out 2).trans rfl; have hf178_2 := blk_frozen BK178.out 2; have hc178_3 : W1.cell? ⟨gb178, 3, none⟩ = some (.int .i64 t173) := (blk_cell BK178.out 3).trans rfl; have hf178_3 := blk_frozen BK178.out 3; have hc178_4 : W1.cell? ⟨gb178, 4, none⟩ = some (.int .u64 t174) := (blk_cell BK178.out 4).trans rfl; have hf178_4 := blk_frozen BK178.out 4; have hc178_5 : W1.cell? ⟨gb178, 5, none⟩ = some (.string t175) := (blk_cell BK178.out 5).trans rfl; have hf178_5 := blk_frozen BK178.out 5; have hc178_6 : W1.cell? ⟨gb178, 6, none⟩ = some (.int .i64 t176) := (blk_cell BK178.out 6).trans rfl; have hf178_6 := blk_frozen BK178.out 6) | ((with_reducible refine gate_callee (f := 19) rfl ?_); refine goesL_ (some 43) rfl rfl Tryd.func19 (by kernel_rfl) rfl #[.string (a0.extract (x15_1 : Int).toNat a0.size)] rfl (by (try simp only [List.map_toArray, List.map_cons, List.map_nil]); first | done | rfl | (simp only [List.length_drop, List.length_take]; rfl)) ?_; (with_reducible refine (lex_one.calls kj3 (a0.extract (x15_1 : Int).toNat a0.size) t170 t171 t172 t173 t174 t175 t176 t177 _ A16.out ?side1).mono ?_); (case side1 => exact GL.of_below HG.out (by repeat (first | (with_reducible first | exact HB.out | apply below_alloc | apply pw_below_drewN | apply below_drew1) | exact HB.out))); rintro e w22 ⟨rfl, hb⟩; refine ⟨_, rfl, ?_⟩; have n0_ := Aside0.mk (Kd.R_below (by (with_reducible repeat (first | apply Kd.R_alloc | apply Kd.R_drewN | apply Kd.R_drew)); exact HO_5.out) hb); have n1_ := Aside0.mk (below_step (by repeat (first | (with_reducible first | exact HB.out | apply below_alloc | apply pw_below_drewN | apply below_drew1) | exact HB.out)) hb); clear HO_5; clear HB; have HO_5 := n0_; have HB := n1_; clear n0_ n1_; (try clear hb); (try clear hb2); (try clear hk); (try clear hi)) | ((with_reducible refine gate_dst (N := 8) rfl ?_); refine box_event ?hg (N := 8) ?hd (cs := #[.int .i64 0, .string (⟨#[]⟩ : ByteArray), .int .i64 0, .int .i64 0, .int .u64 0, .string (⟨#[]⟩ : ByteArray), .int .i64 0]) (t := 39) ?hr ?_; (case hd => rfl); (case hg => rfl); (case hr => first | (go_simp; done) | (go_simp; rfl)); intro gb178 hg w23 hbox hb; have n0_ := Aside0.mk (Kd.R_below (Kd.R_elderB (by (with_reducible repeat (first | apply Kd.R_alloc | apply Kd.R_drewN | apply Kd.R_drew)); exact HO_5.out) gb178 (Nat.le_of_eq hg.symm)) hb); have n1_ := Aside0.mk (below_step (by repeat (first | (with_reducible first | exact HB.out | apply below_alloc | apply pw_below_drewN | apply below_drew1) | exact HB.out)) hb); have n2_ := Aside0.mk (hbox); have n3_ := Aside0.mk ((by rw [hg]; exact (below_size (by repeat (first | (with_reducible first | exact HB.out | apply below_alloc | apply pw_below_drewN | apply below_drew1) | exact HB.out))) : w.heap.size ≤ gb178)); have n4_ := Aside0.mk ((by rw [hg]; exact (below_size (by repeat (first | (with_reducible first | exact HB.out | apply below_alloc | apply pw_below_drewN | apply below_drew1) | exact HB.out))) : w.heap.size ≤ gb178)); clear HO_5; clear HB; have HO_5 := n0_; have HB := n1_; have BK178 := n2_; have GW178 := n3_; have GE178 := n4_; clear n0_ n1_ n2_ n3_ n4_; clear hb hbox hg; have hcz24_0 : w23.cell? ⟨gb178, 0, none⟩ = some (.int .i64 0) := (blk_cell BK178.out 0).trans rfl; have hcz24_1 : w23.cell? ⟨gb178, 1, none⟩ = some (.string (⟨#[]⟩ : ByteArray)) := (blk_cell BK178.out 1).trans rfl; have hcz24_2 : w23.cell? ⟨gb178, 2, none⟩ = some (.int .i64 0) := (blk_cell BK178.out 2).trans rfl; have hcz24_3 : w23.cell? ⟨gb178, 3, none⟩ = some (.int .i64 0) := (blk_cell BK178.out 3).trans rfl; have hcz24_4 : w23.cell? ⟨gb178, 4, none⟩ = some (.int .u64 0) := (blk_cell BK178.out 4).trans rfl; have hcz24_5 : w23.cell? ⟨gb178, 5, none⟩ = some (.string (⟨#[]⟩ : ByteArray)) := (blk_cell BK178.out 5).trans rfl; have hcz24_6 : w23.cell? ⟨gb178, 6, none⟩ = some (.int .i64 0) := (blk_cell BK178.out 6).trans rfl; have hfz24_0 := blk_frozen BK178.out 0; have hfz24_1 := blk_frozen BK178.out 1; have hfz24_2 := blk_frozen BK178.out 2; have hfz24_3 := blk_frozen BK178.out 3; have hfz24_4 := blk_frozen BK178.out 4; have hfz24_5 := blk_frozen BK178.out 5; have hfz24_6 := blk_frozen BK178.out 6) | ((with_reducible refine gate_builtin (b := .append) (xs := #[.tmp 51, .tmp 53]) rfl ?_); at_builtin; refine Kd.R_append k39 (w0 := w) w.heap.size rfl (.tmp 51) (.tmp 53) 22 39 (.agg #[(.int .i64 0), (.string ⟨#[]⟩), (.int .i64 0), (.int .i64 0), (.int .u64 0), (.string ⟨#[]⟩), (.int .i64 0)]) 72 rfl Tryd.underlying22 info39 rfl (by decide) (by omega) u5 x5_1 (⟨t170, t171, (⟨t172, t173, t174, t175⟩ : S37), x15_1⟩ : S39) [.int .i64 t170, .string t171, .int .i64 t172, .int .i64 t173, .int .u64 t174, .string t175, .int .i64 x15_1] (fun k_ => k_ ≠ gb178) (fun _ => False) rfl (by first | (go_simp; done) | (go_simp; rfl)) ?aP (fun _ hk => hk.elim) ?aF ?aO ?aB ?aS ?aL ?_; (case aP => exact k39_mkM _ _ _ (⟨t170, t171, (⟨t172, t173, t174, t175⟩ : S37), x15_1⟩ : S39)); (case aB => exact (by repeat (first | (with_reducible first | exact HB.out | apply below_alloc | apply pw_below_drewN | apply below_drew1 | refine below_set ?_ GE178.out) | exact HB.out))); (case aF => exact (fun k_ hk => Kd.freshB (g := gb178) (o := .cells #[.int .i64 t170, .string t171, .int .i64 t172, .int .i64 t173, .int .u64 t174, .string t175, .int .i64 x15_1] 39 (0, 0)) (by (with_reducible repeat (first | refine blk_drewN ?_ _ | refine blk_drew ?_ | refine blk_alloc ?_ _)); refine blk_put (cs := #[.int .i64 t170, .string t171, .int .i64 t172, .int .i64 t173, .int .u64 t174, .string t175, .int .i64 t176]) ?_ 6 _ rfl; (with_reducible repeat (first | refine blk_drewN ?_ _ | refine blk_drew ?_ | refine blk_alloc ?_ _)); exact BK178.out) k_ hk)); (case aO => exact (by (with_reducible repeat (first | apply Kd.R_alloc | apply Kd.R_drewN | apply Kd.R_drew)); exact Kd.R_mono (Kd.R_far (p := ⟨gb178, 6, none⟩) HO_5.out (fun _ hk => hk.2) (.int .i64 x15_1)) (fun _ hk => hk.1.2))); (case aS => exact (below_size (by repeat (first | (with_reducible first | exact HB.out | apply below_alloc | apply pw_below_drewN | apply below_drew1 | refine below_set ?_ GE178.out) | exact HB.out)))); (case aL => have := LMc21.out; omega); intro v180 w25 ho hb hg hat; rw [← Ny179.out] at ho; have n0_ := Aside0.mk (blk_grown (g := gb178) (o := .cells #[.int .i64 t170, .string t171, .int .i64 t172, .int .i64 t173, .int .u64 t174, .string t175, .int .i64 x15_1] 39 (0, 0)) (by (with_reducible repeat (first | refine blk_drewN ?_ _ | refine blk_drew ?_ | refine blk_alloc ?_ _)); refine blk_put (cs := #[.int .i64 t170, .string t171, .int .i64 t172, .int .i64 t173, .int .u64 t174, .string t175, .int .i64 t176]) ?_ 6 _ rfl; (with_reducible repeat (first | refine blk_drewN ?_ _ | refine blk_drew ?_ | refine blk_alloc ?_ _)); exact BK178.out) hg (Kd.R_away HO_5.out (fun _ hk => hk.2))); have n1_ := Aside0.mk (hb); have n2_ := Aside0.mk (ho); clear BK178; clear HB; clear HO_5; have BK178 := n0_; have HB := n1_; have HO181 := n2_; clear n0_ n1_ n2_; clear ho hb hg hat))
            go_roundg kj3
            case measure => have := HK1.out; have := HJ3.out; omega
            case rel => exact ⟨(y179), (wrap64 (x15_1 + t177)), (wrap64 (x15_1 + 1)), (by first | rfl | (simp; done) | (simp [*]; done)), (by first | rfl | (simp; done) | (simp [*]; done)), H', ⟨by have := HK1.out; have := HJ3.out; omega⟩, ⟨by (with_reducible repeat (first | apply Kd.R_alloc | apply Kd.R_drewN | apply Kd.R_drew)); exact Kd.R_mono HO181.out (fun _ hk => trivial)⟩, ⟨by repeat (first | (with_reducible first | exact HB.out | apply below_alloc | apply pw_below_drewN | apply below_drew1 | refine below_set ?_ GE178.out) | exact HB.out)⟩⟩
           ·rw [if_neg c21] at H
            exact absurd H (by simp)
         ·rw [if_neg c15] at H
          exact absurd H (by simp)
        ·rw [if_neg c14] at H
         exact absurd H (by simp)
    ·rw [if_neg c3] at H
     have c3b0 : decide (x15_1 < (a0.size : Int)) = false := decide_eq_false c3
     clear c3
     by_cases c26 : x5_1.length < 1954687338268
     ·rw [if_pos c26] at H
      have LMc26 := Aside0.mk c26
      clear c26
      obtain ⟨y167, hy167⟩ : ∃ y_ : List (S39), y_ = (x5_1 ++ [(⟨0, (⟨#[]⟩ : ByteArray), (⟨0, 0, 0, (⟨#[]⟩ : ByteArray)⟩ : S37), (a0.size : Int)⟩ : S39)]) := ⟨_, rfl⟩
      replace H : (some (y167, 0, 0)) = some (r1, r2, r3) := by first | (rw [hy167]; with_reducible exact H) | (have H2_ := (Option.bind_some _ _).symm.trans H; rw [hy167]; with_reducible exact H2_) | (have H2_ := (Option.bind_some _ _).symm.trans H; with_reducible exact H2_) | with_reducible exact H | (rw [hy167]; exact H) | exact H
      have Ny167 := Aside0.mk hy167
      clear hy167
      simp only [Option.some.injEq, Prod.mk.injEq] at H
      obtain ⟨rfl, rfl, rfl⟩ := H
      go_wp2_with (first | ((with_reducible refine gate_builtin (b := .append) (xs := #[.tmp 59, .tmp 63]) rfl ?_); at_builtin; refine Kd.R_append k39 (w0 := w) w.heap.size rfl (.tmp 59) (.tmp 63) 22 39 (.agg #[(.int .i64 0), (.string ⟨#[]⟩), (.int .i64 0), (.int .i64 0), (.int .u64 0), (.string ⟨#[]⟩), (.int .i64 0)]) 72 rfl Tryd.underlying22 info39 rfl (by decide) (by omega) u5 x5_1 (⟨0, (⟨#[]⟩ : ByteArray), (⟨0, 0, 0, (⟨#[]⟩ : ByteArray)⟩ : S37), (a0.size : Int)⟩ : S39) [.int .i64 0, .string (⟨#[]⟩ : ByteArray), .int .i64 0, .int .i64 0, .int .u64 0, .string (⟨#[]⟩ : ByteArray), .int .i64 (a0.size : Int)] (fun _ => True) (fun _ => False) rfl rfl ?aP (fun _ hk => hk.elim) ?aF ?aO ?aB ?aS ?aL ?_; (case aP => exact k39_mkM _ _ _ (⟨0, (⟨#[]⟩ : ByteArray), (⟨0, 0, 0, (⟨#[]⟩ : ByteArray)⟩ : S37), (a0.size : Int)⟩ : S39)); (case aB => exact (by repeat (first | (with_reducible first | exact HB.out | apply below_alloc | apply pw_below_drewN | apply below_drew1) | exact HB.out))); (case aF => exact (fun _ _ => trivial)); (case aO => exact (by (with_reducible repeat (first | apply Kd.R_alloc | apply Kd.R_drewN | apply Kd.R_drew)); exact HO_5.out)); (case aS => exact (below_size (by repeat (first | (with_reducible first | exact HB.out | apply below_alloc | apply pw_below_drewN | apply below_drew1) | exact HB.out)))); (case aL => have := LMc26.out; omega); intro v168 w27 ho hb hg hat; rw [← Ny167.out] at ho; have n0_ := Aside0.mk (hb); have n1_ := Aside0.mk (ho); clear HB; clear HO_5; have HB := n0_; have HO169 := n1_; clear n0_ n1_; clear ho hb hg hat))
      go_ret3
      exact ⟨_, by first | rfl | (simp [errW_none, errW_some] <;> rfl) | (simp [*, errW_none, errW_some] <;> rfl), by (with_reducible repeat (first | apply Kd.R_alloc | apply Kd.R_drewN | apply Kd.R_drew)); exact HO169.out, by repeat (first | (with_reducible first | exact HB.out | apply below_alloc | apply pw_below_drewN | apply below_drew1) | exact HB.out)⟩
     ·rw [if_neg c26] at H
      exact absurd H (by simp)
end Go.Proofs.YtjehfmimbbdnkaaDoor.L
namespace Go.Proofs.YtjehfmimbbdnkaaDoor.L
open Go.RowKit Go.Proofs.YtjehfmimbbdnkaaDoorW.PrintWords Go.Proofs.YtjehfmimbbdnkaaDoorW.PrintLast Go.Proofs.YtjehfmimbbdnkaaDoorW.PrintMore
attribute [local go_sem] max2_int min2_int max_two min_two max_three min_three max_four min_four
set_option linter.unusedVariables false
set_option linter.unusedSimpArgs false
def falseworklaw16_num.f (a0 : Int) : Option (Int) := some a0
set_option maxHeartbeats 8000000 in
set_option maxRecDepth 100000 in
theorem falseworklaw16_num.calls (a0 : Int) (r : Int) (w : World) (h : falseworklaw16_num.f a0 = some r) :
  Calls Tryd.prog 12 #[.int .i64 a0] w fun e w' => e = .returned (.int .i64 r) ∧ Drawn0 w w' := by
 have H : (some a0) = some r := h
 clear h
 obtain rfl := Option.some.inj H
 go_enter Tryd.func12, Tryd.ntmps12
 go_wp2
 go_ret
 exact ⟨by first | rfl | (simp; done) | (simp [*]; done), by repeat (first | exact Drawn0.refl _ | apply Drawn0.step)⟩
end Go.Proofs.YtjehfmimbbdnkaaDoor.L
namespace Go.Proofs.YtjehfmimbbdnkaaDoor.L
open Go.RowKit Go.Proofs.YtjehfmimbbdnkaaDoorW.PrintWords Go.Proofs.YtjehfmimbbdnkaaDoorW.PrintLast Go.Proofs.YtjehfmimbbdnkaaDoorW.PrintMore
attribute [local go_sem] max2_int min2_int max_two min_two max_three min_three max_four min_four
set_option linter.unusedVariables false
set_option linter.unusedSimpArgs false
def falseworkref16_digits.l0 : Nat → Int → ByteArray → Int → Option (ByteArray)
 | 0, _, _, _ => none
 | k + 1, x0, x3, x4 => if x4 = 0 then (if x0 < 0 then (if 1 + x3.size ≤ 9223372036854775807 then (some ((⟨#[45]⟩ : ByteArray) ++ x3)) else (none)) else (some x3)) else (if (Int.tmod x4 10) < 0 then ((some (([(wrap64 (48 + (wrap64 (-(Int.tmod x4 10))))) % 256] : List Int) : List Int)).bind fun y294 => (if (strOfNums y294).size + x3.size ≤ 9223372036854775807 then (falseworkref16_digits.l0 k x0 ((strOfNums y294) ++ x3) (wrap64 (Int.tdiv x4 10))) else (none))) else ((some (([(wrap64 (48 + (Int.tmod x4 10))) % 256] : List Int) : List Int)).bind fun y297 => (if (strOfNums y297).size + x3.size ≤ 9223372036854775807 then (falseworkref16_digits.l0 k x0 ((strOfNums y297) ++ x3) (wrap64 (Int.tdiv x4 10))) else (none))))
def falseworkref16_digits.f (k : Nat) (a0 : Int) : Option (ByteArray) := if a0 = 0 then (some (⟨#[48]⟩ : ByteArray)) else (falseworkref16_digits.l0 k a0 (⟨#[]⟩ : ByteArray) a0)
theorem falseworkref16_digits.mono_l : ∀ k, (∀ y0 y1 y2, LeO (falseworkref16_digits.l0 k y0 y1 y2) (falseworkref16_digits.l0 (k + 1) y0 y1 y2))
 | 0 => fun _ _ _ r h => by simp [falseworkref16_digits.l0] at h
 | k + 1 => by
  have ih0 := falseworkref16_digits.mono_l k
  ·intro y0 y1 y2
   unfold falseworkref16_digits.l0
   repeat' first
   | (with_reducible exact ih0 _ _ _)
   | (with_reducible exact LeO.refl _)
   | (with_reducible exact LeO.none _)
   | (with_reducible refine LeO.ite ?_ ?_)
   | (with_reducible refine LeO.bind ?_ (fun _ => ?_))
   | exact ih0 _ _ _
   | exact LeO.none _
   | refine LeO.ite ?_ ?_
   | refine LeO.bind ?_ (fun _ => ?_)
theorem falseworkref16_digits.mono : ∀ a0 k, LeO (falseworkref16_digits.f k a0) (falseworkref16_digits.f (k + 1) a0) := by
 intro a0 k
 have ih0 := falseworkref16_digits.mono_l k
 unfold falseworkref16_digits.f
 repeat' first
   | (with_reducible exact ih0 _ _ _)
   | (with_reducible exact LeO.refl _)
   | (with_reducible exact LeO.none _)
   | (with_reducible refine LeO.ite ?_ ?_)
   | (with_reducible refine LeO.bind ?_ (fun _ => ?_))
   | exact ih0 _ _ _
   | exact LeO.none _
   | refine LeO.ite ?_ ?_
   | refine LeO.bind ?_ (fun _ => ?_)
set_option maxHeartbeats 8000000 in
set_option maxRecDepth 100000 in
theorem falseworkref16_digits.calls (k : Nat) (a0 : Int) (r : ByteArray) (w : World) (h : falseworkref16_digits.f k a0 = some r) :
  Calls Tryd.prog 23 #[.int .i64 a0] w fun e w' => e = .returned (.string r) ∧ Below w.heap.size w w' := by
 have HB := Aside0.mk (Below.refl w.heap.size w)
 have H : (if a0 = 0 then (some (⟨#[48]⟩ : ByteArray)) else (falseworkref16_digits.l0 k a0 (⟨#[]⟩ : ByteArray) a0)) = some r := h
 clear h
 by_cases c2 : a0 = 0
 ·rw [if_pos c2] at H
  have c2b0 : (a0 == 0) = true := beq_iff_eq.mpr c2
  have c2b1 : (a0 != 0) = false := bne_eq_false_iff_eq.mpr c2
  clear c2
  obtain rfl := Option.some.inj H
  go_enter Tryd.func23, Tryd.ntmps23
  go_wp2
  go_ret
  exact ⟨by first | rfl | (simp [errW_none, errW_some] <;> rfl) | (simp [*, errW_none, errW_some] <;> rfl), by repeat (first | (with_reducible first | exact HB.out | apply below_alloc | apply pw_below_drewN | apply below_drew1) | exact HB.out)⟩
 ·rw [if_neg c2] at H
  have c2b0 : (a0 == 0) = false := beq_eq_false_iff_ne.mpr c2
  have c2b1 : (a0 != 0) = true := bne_iff_ne.mpr c2
  have H' := Aside0.mk H
  clear H
  go_enter Tryd.func23, Tryd.ntmps23
  go_wp2
  go_loopg [3, 4] k (fun kq v3 v4 w' => ∃ (x3_1 : ByteArray) (x4_1 : Int), v3 = .string x3_1 ∧ v4 = .int .i64 x4_1 ∧ Aside0 (falseworkref16_digits.l0 kq a0 x3_1 x4_1 = some r) ∧ Aside0 (kq ≤ k) ∧ Aside0 (Below w.heap.size w w'))
  case atStart => exact ⟨((⟨#[]⟩ : ByteArray)), (a0), (by first | rfl | (simp; done) | (simp [*]; done)), (by first | rfl | (simp; done) | (simp [*]; done)), H', ⟨Nat.le_refl _⟩, ⟨by repeat (first | (with_reducible first | exact HB.out | apply below_alloc | apply pw_below_drewN | apply below_drew1) | exact HB.out)⟩⟩
  case round =>
   clear H'
   try clear c2
   try clear c2b0
   try clear c2b1
   try clear p2
   obtain ⟨x3_1, x4_1, rfl, rfl, HA, HK1, HB⟩ := hrel
   cases gk with
   | zero => exact absurd HA.out (by simp [falseworkref16_digits.l0])
   | succ k1 =>
    have H := HA.out
    clear HA
    simp only [falseworkref16_digits.l0] at H
    by_cases c3 : x4_1 = 0
    ·rw [if_pos c3] at H
     have c3b0 : (x4_1 == 0) = true := beq_iff_eq.mpr c3
     have c3b1 : (x4_1 != 0) = false := bne_eq_false_iff_eq.mpr c3
     clear c3
     by_cases c4 : a0 < 0
     ·rw [if_pos c4] at H
      have c4b0 : decide (a0 < 0) = true := decide_eq_true c4
      clear c4
      by_cases c5 : 1 + x3_1.size ≤ 9223372036854775807
      ·rw [if_pos c5] at H
       have c5b0 := eq_true c5
       have c5b1 : decide (1 + x3_1.size ≤ 9223372036854775807) = true := decide_eq_true c5
       try have c5b2 : (9223372036854775807 < 1 + x3_1.size) = False := eq_false (Nat.not_lt.2 c5)
       obtain rfl := Option.some.inj H
       go_wp2
       go_ret
       exact ⟨by first | rfl | (simp [errW_none, errW_some] <;> rfl) | (simp [*, errW_none, errW_some] <;> rfl), by repeat (first | (with_reducible first | exact HB.out | apply below_alloc | apply pw_below_drewN | apply below_drew1) | exact HB.out)⟩
      ·rw [if_neg c5] at H
       exact absurd H (by simp)
     ·rw [if_neg c4] at H
      have c4b0 : decide (a0 < 0) = false := decide_eq_false c4
      clear c4
      obtain rfl := Option.some.inj H
      go_wp2
      go_ret
      exact ⟨by first | rfl | (simp [errW_none, errW_some] <;> rfl) | (simp [*, errW_none, errW_some] <;> rfl), by repeat (first | (with_reducible first | exact HB.out | apply below_alloc | apply pw_below_drewN | apply below_drew1) | exact HB.out)⟩
    ·rw [if_neg c3] at H
     have c3b0 : (x4_1 == 0) = false := beq_eq_false_iff_ne.mpr c3
     have c3b1 : (x4_1 != 0) = true := bne_iff_ne.mpr c3
     by_cases c6 : (Int.tmod x4_1 10) < 0
     ·rw [if_pos c6] at H
      have c6b0 : decide ((Int.tmod x4_1 10) < 0) = true := decide_eq_true c6
      clear c6
      obtain ⟨y294, hy294⟩ : ∃ y_ : List Int, y_ = (([(wrap64 (48 + (wrap64 (-(Int.tmod x4_1 10))))) % 256] : List Int)) := ⟨_, rfl⟩
      replace H : (if (strOfNums y294).size + x3_1.size ≤ 9223372036854775807 then (falseworkref16_digits.l0 k1 a0 ((strOfNums y294) ++ x3_1) (wrap64 (Int.tdiv x4_1 10))) else (none)) = some r := by first | (rw [hy294]; with_reducible exact H) | (have H2_ := (Option.bind_some _ _).symm.trans H; rw [hy294]; with_reducible exact H2_) | (have H2_ := (Option.bind_some _ _).symm.trans H; with_reducible exact H2_) | with_reducible exact H | (rw [hy294]; exact H) | exact H
      have Ny294 := Aside0.mk hy294
      clear hy294
      by_cases c7 : (strOfNums y294).size + x3_1.size ≤ 9223372036854775807
      ·rw [if_pos c7] at H
       have c7b0 := eq_true c7
       have c7b1 : decide ((strOfNums y294).size + x3_1.size ≤ 9223372036854775807) = true := decide_eq_true c7
       try have c7b2 : (9223372036854775807 < (strOfNums y294).size + x3_1.size) = False := eq_false (Nat.not_lt.2 c7)
       have H' := Aside0.mk H
       clear H
       go_wp2_with (first | ((with_reducible refine gate_dst (N := 22) rfl ?_); refine Kd.R_lit (Kd.int .u8) _ 5 ?hg (N := 22) ?hd (xs := ([(wrap64 (48 + (wrap64 (-(Int.tmod x4_1 10))))) % 256] : List Int)) (inner := [.int .u8 ((wrap64 (48 + (wrap64 (-(Int.tmod x4_1 10))))) % 256)]) (ok := fun _ => True) (okp := fun _ => True) ?hr ?hp (fun _ hk => hk) trivial (Below.refl _ _) (Nat.le_refl _) (by simp) ?_; (case hd => rfl); (case hg => rfl); (case hr => first | (go_simp; done) | (go_simp; rfl)); (case hp => exact (Reps.one (show Kd.M (Kd.int .u8) _ _ _ ((wrap64 (48 + (wrap64 (-(Int.tmod x4_1 10))))) % 256) [.int .u8 ((wrap64 (48 + (wrap64 (-(Int.tmod x4_1 10))))) % 256)] from rfl) (Reps.none _ _))); intro v295 w8 ho9 hb hg_ hnew_; clear hg_ hnew_; (first | rw [← Ny294.out] at ho9 | (simp only [Int.reduceToNat] at ho9; rw [← Ny294.out] at ho9)); have n0_ := Aside0.mk (Kd.R_lower ho9 (below_size (by repeat (first | (with_reducible first | exact HB.out | apply below_alloc | apply pw_below_drewN | apply below_drew1) | exact HB.out)))); have n1_ := Aside0.mk (below_step (by repeat (first | (with_reducible first | exact HB.out | apply below_alloc | apply pw_below_drewN | apply below_drew1) | exact HB.out)) hb); clear HB; have HO296 := n0_; have HB := n1_; clear n0_ n1_; clear hb ho9; have hcv10 := own_string (P := Tryd.prog) Tryd.underlying34 Tryd.underlying5 Tryd.underlying9 (Kd.own_of_R HO296.out)))
       go_roundg k1
       case measure => have := HK1.out; omega
       case rel => exact ⟨((strOfNums y294) ++ x3_1), (wrap64 (Int.tdiv x4_1 10)), (by first | rfl | (simp; done) | (simp [*]; done)), (by first | rfl | (simp; done) | (simp [*]; done)), H', ⟨by have := HK1.out; omega⟩, ⟨by repeat (first | (with_reducible first | exact HB.out | apply below_alloc | apply pw_below_drewN | apply below_drew1) | exact HB.out)⟩⟩
      ·rw [if_neg c7] at H
       exact absurd H (by simp)
     ·rw [if_neg c6] at H
      have c6b0 : decide ((Int.tmod x4_1 10) < 0) = false := decide_eq_false c6
      clear c6
      obtain ⟨y297, hy297⟩ : ∃ y_ : List Int, y_ = (([(wrap64 (48 + (Int.tmod x4_1 10))) % 256] : List Int)) := ⟨_, rfl⟩
      replace H : (if (strOfNums y297).size + x3_1.size ≤ 9223372036854775807 then (falseworkref16_digits.l0 k1 a0 ((strOfNums y297) ++ x3_1) (wrap64 (Int.tdiv x4_1 10))) else (none)) = some r := by first | (rw [hy297]; with_reducible exact H) | (have H2_ := (Option.bind_some _ _).symm.trans H; rw [hy297]; with_reducible exact H2_) | (have H2_ := (Option.bind_some _ _).symm.trans H; with_reducible exact H2_) | with_reducible exact H | (rw [hy297]; exact H) | exact H
      have Ny297 := Aside0.mk hy297
      clear hy297
      by_cases c11 : (strOfNums y297).size + x3_1.size ≤ 9223372036854775807
      ·rw [if_pos c11] at H
       have c11b0 := eq_true c11
       have c11b1 : decide ((strOfNums y297).size + x3_1.size ≤ 9223372036854775807) = true := decide_eq_true c11
       try have c11b2 : (9223372036854775807 < (strOfNums y297).size + x3_1.size) = False := eq_false (Nat.not_lt.2 c11)
       have H' := Aside0.mk H
       clear H
       go_wp2_with (first | ((with_reducible refine gate_dst (N := 22) rfl ?_); refine Kd.R_lit (Kd.int .u8) _ 5 ?hg (N := 22) ?hd (xs := ([(wrap64 (48 + (Int.tmod x4_1 10))) % 256] : List Int)) (inner := [.int .u8 ((wrap64 (48 + (Int.tmod x4_1 10))) % 256)]) (ok := fun _ => True) (okp := fun _ => True) ?hr ?hp (fun _ hk => hk) trivial (Below.refl _ _) (Nat.le_refl _) (by simp) ?_; (case hd => rfl); (case hg => rfl); (case hr => first | (go_simp; done) | (go_simp; rfl)); (case hp => exact (Reps.one (show Kd.M (Kd.int .u8) _ _ _ ((wrap64 (48 + (Int.tmod x4_1 10))) % 256) [.int .u8 ((wrap64 (48 + (Int.tmod x4_1 10))) % 256)] from rfl) (Reps.none _ _))); intro v298 w12 ho13 hb hg_ hnew_; clear hg_ hnew_; (first | rw [← Ny297.out] at ho13 | (simp only [Int.reduceToNat] at ho13; rw [← Ny297.out] at ho13)); have n0_ := Aside0.mk (Kd.R_lower ho13 (below_size (by repeat (first | (with_reducible first | exact HB.out | apply below_alloc | apply pw_below_drewN | apply below_drew1) | exact HB.out)))); have n1_ := Aside0.mk (below_step (by repeat (first | (with_reducible first | exact HB.out | apply below_alloc | apply pw_below_drewN | apply below_drew1) | exact HB.out)) hb); clear HB; have HO299 := n0_; have HB := n1_; clear n0_ n1_; clear hb ho13; have hcv14 := own_string (P := Tryd.prog) Tryd.underlying34 Tryd.underlying5 Tryd.underlying9 (Kd.own_of_R HO299.out)))
       go_roundg k1
       case measure => have := HK1.out; omega
       case rel => exact ⟨((strOfNums y297) ++ x3_1), (wrap64 (Int.tdiv x4_1 10)), (by first | rfl | (simp; done) | (simp [*]; done)), (by first | rfl | (simp; done) | (simp [*]; done)), H', ⟨by have := HK1.out; omega⟩, ⟨by repeat (first | (with_reducible first | exact HB.out | apply below_alloc | apply pw_below_drewN | apply below_drew1) | exact HB.out)⟩⟩
      ·rw [if_neg c11] at H
       exact absurd H (by simp)
end Go.Proofs.YtjehfmimbbdnkaaDoor.L
namespace Go.Proofs.YtjehfmimbbdnkaaDoor.L
open Go.RowKit Go.Proofs.YtjehfmimbbdnkaaDoorW.PrintWords Go.Proofs.YtjehfmimbbdnkaaDoorW.PrintLast Go.Proofs.YtjehfmimbbdnkaaDoorW.PrintMore
attribute [local go_sem] max2_int min2_int max_two min_two max_three min_three max_four min_four
set_option linter.unusedVariables false
set_option linter.unusedSimpArgs false
def falseworkref16_Digits.f (k : Nat) (a0 : Int) : Option (ByteArray) := (falseworkref16_digits.f k a0).bind fun t368 => (some t368)
theorem falseworkref16_Digits.mono : ∀ a0 k, LeO (falseworkref16_Digits.f k a0) (falseworkref16_Digits.f (k + 1) a0) := by
 intro a0 k
 unfold falseworkref16_Digits.f
 repeat' first
   | (with_reducible exact falseworkref16_digits.mono _ _)
   | (with_reducible exact LeO.refl _)
   | (with_reducible exact LeO.none _)
   | (with_reducible refine LeO.ite ?_ ?_)
   | (with_reducible refine LeO.bind ?_ (fun _ => ?_))
   | exact falseworkref16_digits.mono _ _
   | exact LeO.none _
   | refine LeO.ite ?_ ?_
   | refine LeO.bind ?_ (fun _ => ?_)
set_option maxHeartbeats 8000000 in
set_option maxRecDepth 100000 in
theorem falseworkref16_Digits.calls (k : Nat) (a0 : Int) (r : ByteArray) (w : World) (h : falseworkref16_Digits.f k a0 = some r) :
  Calls Tryd.prog 16 #[.int .i64 a0] w fun e w' => e = .returned (.string r) ∧ Below w.heap.size w w' := by
 have HB := Aside0.mk (Below.refl w.heap.size w)
 have H : ((falseworkref16_digits.f k a0).bind fun t368 => (some t368)) = some r := h
 clear h
 replace H := Option.bind_eq_some_iff.mp H
 obtain ⟨t368, A20, H⟩ := H
 replace H : (some t368) = some r := H
 have A2 := Aside0.mk A20
 clear A20
 obtain rfl := Option.some.inj H
 go_enter Tryd.func16, Tryd.ntmps16
 go_wp2_with (first | ((with_reducible refine gate_callee (f := 23) rfl ?_); refine goesL_ (some 4) rfl rfl Tryd.func23 (by kernel_rfl) rfl #[.int .i64 a0] rfl (by (try simp only [List.map_toArray, List.map_cons, List.map_nil]); first | done | rfl | (simp only [List.length_drop, List.length_take]; rfl)) ?_; (with_reducible refine (falseworkref16_digits.calls k a0 t368 _ A2.out).mono ?_); rintro e w3 ⟨rfl, hb⟩; refine ⟨_, rfl, ?_⟩; have n0_ := Aside0.mk (below_step (by repeat (first | (with_reducible first | exact HB.out | apply below_alloc | apply pw_below_drewN | apply below_drew1) | exact HB.out)) hb); clear HB; have HB := n0_; clear n0_; (try clear hb); (try clear hb2); (try clear hk); (try clear hi)))
 go_ret
 exact ⟨by first | rfl | (simp [errW_none, errW_some] <;> rfl) | (simp [*, errW_none, errW_some] <;> rfl), by repeat (first | (with_reducible first | exact HB.out | apply below_alloc | apply pw_below_drewN | apply below_drew1) | exact HB.out)⟩
end Go.Proofs.YtjehfmimbbdnkaaDoor.L
