/- Own texts of this session, packed by its program wip/pp/pack.py: lemmas and walks of functions. -/
import Derived.Test.YtjehfmimbbdnkaaDoorKForms2
import Derived.Test.YtjehfmimbbdnkaaDoorKForms7
import Derived.Test.YtjehfmimbbdnkaaDoorKForms8
import Derived.Test.YtjehfmimbbdnkaaDoorKForms9
namespace Go.Proofs.YtjehfmimbbdnkaaDoor.L
open Go.RowKit Go.Proofs.YtjehfmimbbdnkaaDoorW.PrintWords Go.Proofs.YtjehfmimbbdnkaaDoorW.PrintLast Go.Proofs.YtjehfmimbbdnkaaDoorW.PrintMore
attribute [local go_sem] max2_int min2_int max_two min_two max_three min_three max_four min_four
set_option linter.unusedVariables false
set_option linter.unusedSimpArgs false
attribute [local go_sem high] eqA37
def falseworklaw16_LexTexts.l0 : Nat → List Int → List Int → Int → Option (Bool)
 | 0, _, _, _ => none
 | k + 1, x0, x3, x4 => if x4 < (x0.length : Int) then (if 0 ≤ x4 then (if x3.length < 140737488355328 then (falseworklaw16_LexTexts.l0 k x0 (x3 ++ [(32 + (Int.tmod (rd x0 x4) 95)) % 256]) (wrap64 (x4 + 1))) else (none)) else (none)) else ((falseworkref16_Value.f k 5 0 0 (strOfNums x3)).bind fun t333 => ((lex_Lex.f k t333).bind fun bt334 => ((falseworkref16_Value.f k 4 0 0 (strOfNums x0)).bind fun t339 => ((lex_Lex.f k t339).bind fun bt340 => (if (x0.length : Int) > 40 then ((falseworklaw16_num.f bt334.2.2).bind fun t345 => (if t345 = 3 then ((falseworklaw16_num.f bt340.2.2).bind fun t346 => (if t346 = 3 then ((falseworklaw16_awake.f k).bind fun t347 => (some t347)) else (some false))) else (some false))) else ((falseworklaw16_num.f bt334.2.2).bind fun t348 => (if t348 = 0 then ((falseworklaw16_num.f bt340.2.2).bind fun t349 => (if t349 = 0 then (if (bt334.1.length : Int) = 2 then (if (bt340.1.length : Int) = 2 then (if 0 < (bt334.1.length : Int) then (if (((rd_T39 bt334.1 0).f2.f0) == 5 && (((rd_T39 bt334.1 0).f2.f1) == 0 && (((rd_T39 bt334.1 0).f2.f2) == 0 && ((((rd_T39 bt334.1 0).f2.f3).toList) == ((strOfNums x3).toList))))) = true then (if 0 < (bt340.1.length : Int) then (some (((rd_T39 bt340.1 0).f2.f0) == 4 && (((rd_T39 bt340.1 0).f2.f1) == 0 && (((rd_T39 bt340.1 0).f2.f2) == 0 && ((((rd_T39 bt340.1 0).f2.f3).toList) == ((strOfNums x0).toList)))))) else (none)) else (some false)) else (none)) else (some false)) else (some false)) else (some false))) else (some false))))))))
def falseworklaw16_LexTexts.f (k : Nat) (l0 : List Int) : Option (Bool) := if (l0.length : Int) > 60 then ((falseworklaw16_awake.f k).bind fun t328 => (some t328)) else (falseworklaw16_LexTexts.l0 k l0 ([] : List Int) 0)
theorem falseworklaw16_LexTexts.mono_l : ∀ k, (∀ y0 y1 y2, LeO (falseworklaw16_LexTexts.l0 k y0 y1 y2) (falseworklaw16_LexTexts.l0 (k + 1) y0 y1 y2))
 | 0 => fun _ _ _ r h => by simp [falseworklaw16_LexTexts.l0] at h
 | k + 1 => by
  have ih0 := falseworklaw16_LexTexts.mono_l k
  ·intro y0 y1 y2
   unfold falseworklaw16_LexTexts.l0
   repeat' first
   | (with_reducible exact ih0 _ _ _)
   | (with_reducible exact falseworklaw16_awake.mono _)
   | (with_reducible exact falseworkref16_Value.mono _ _ _ _ _)
   | (with_reducible exact lex_Lex.mono _ _)
   | (with_reducible exact LeO.refl _)
   | (with_reducible exact LeO.none _)
   | (with_reducible refine LeO.ite ?_ ?_)
   | (with_reducible refine LeO.bind ?_ (fun _ => ?_))
   | exact ih0 _ _ _
   | exact falseworklaw16_awake.mono _
   | exact falseworkref16_Value.mono _ _ _ _ _
   | exact lex_Lex.mono _ _
   | exact LeO.none _
   | refine LeO.ite ?_ ?_
   | refine LeO.bind ?_ (fun _ => ?_)
theorem falseworklaw16_LexTexts.mono : ∀ a0 k, LeO (falseworklaw16_LexTexts.f k a0) (falseworklaw16_LexTexts.f (k + 1) a0) := by
 intro a0 k
 have ih0 := falseworklaw16_LexTexts.mono_l k
 unfold falseworklaw16_LexTexts.f
 repeat' first
   | (with_reducible exact ih0 _ _ _)
   | (with_reducible exact falseworklaw16_awake.mono _)
   | (with_reducible exact falseworkref16_Value.mono _ _ _ _ _)
   | (with_reducible exact lex_Lex.mono _ _)
   | (with_reducible exact LeO.refl _)
   | (with_reducible exact LeO.none _)
   | (with_reducible refine LeO.ite ?_ ?_)
   | (with_reducible refine LeO.bind ?_ (fun _ => ?_))
   | exact ih0 _ _ _
   | exact falseworklaw16_awake.mono _
   | exact falseworkref16_Value.mono _ _ _ _ _
   | exact lex_Lex.mono _ _
   | exact LeO.none _
   | refine LeO.ite ?_ ?_
   | refine LeO.bind ?_ (fun _ => ?_)
def falseworklaw16_LexTexts.T12 : Bool × List (List Nat × List Nat) := (true, [([], []), ([0], [0]), ([1], [1]), ([2, 1], [2]), ([3], [3]), ([4, 3, 3], [3, 4]), ([5, 3], [3, 5]), ([3, 6], [3, 6]), ([7, 5], [7]), ([8], [8]), ([9, 8], [8, 9]), ([10, 8], [8, 10]), ([8, 11], [8, 11]), ([12, 8], [12]), ([13], [13]), ([14, 13], [13, 14]), ([15, 13], [13, 15]), ([13, 16], [13, 16]), ([17, 13], [17]), ([18], [18]), ([19, 18], [18, 19]), ([20, 18], [18, 20]), ([21, 18], [18, 21]), ([18], [18]), ([23, 18], [18, 23]), ([24, 18], [18, 24]), ([22, 25, 18], [18, 22, 25]), ([18, 26], [18, 26]), ([27, 18], [27]), ([28], [28]), ([29, 28], [28, 29]), ([30, 28], [28, 30]), ([31, 28], [28, 31]), ([28], [28]), ([33, 28], [28, 33]), ([34, 28], [28, 34]), ([32, 35, 28], [28, 32, 35]), ([28, 36], [28, 36]), ([37, 28, 0, 1, 2, 3, 4, 5, 6, 7, 8, 9, 10, 11, 12, 13, 14, 15, 16, 17, 18, 19, 20, 21, 22, 23, 24, 25, 26, 27, 28, 29, 30, 31, 32, 33, 34, 35, 36, 37], [37])])
def falseworklaw16_LexTexts.B12 : List Nat := [0, 1, 3, 7, 15, 31, 63, 127, 255, 511, 1023, 2047, 4095, 8191, 16383, 32767, 65535, 131071, 262143, 524287, 1048575, 2097151, 4194303, 524287, 8912895, 25690111, 67108863, 134217727, 268435455, 536870911, 1073741823, 2147483647, 4294967295, 536870911, 9126805503, 26306674687, 68719476735, 137438953471, 274877906943]
theorem falseworklaw16_LexTexts.tab12 : rtab .any (opsOf Tryd.f6 12) = falseworklaw16_LexTexts.T12 := by kernel_rfl
theorem falseworklaw16_LexTexts.bits12 : waitsOk falseworklaw16_LexTexts.T12.2 falseworklaw16_LexTexts.B12 = true := by kernel_rfl
set_option maxHeartbeats 8000000 in
set_option maxRecDepth 100000 in
theorem falseworklaw16_LexTexts.calls (k : Nat) (A0 : Option Addr) (c0 : Nat) (l0 : List Int) (r : Bool) (w : World) (hr0 : Kd.C (Kd.int .u8) w A0 l0.length l0) (hc0 : l0.length ≤ c0) (h : falseworklaw16_LexTexts.f k l0 = some r) (hr : r = true) (hG : GL w) :
  Calls Tryd.prog 6 #[.slice A0 l0.length c0] w fun e w' => e = .returned (.bool r) ∧ Below w.heap.size w w' := by
 have HR_ := Aside0.mk hr
 clear hr
 have hu37 := Tryd.underlying37
 have HR0 := Aside0.mk hr0
 have HC0 := Aside0.mk hc0
 clear hr0 hc0
 have HB := Aside0.mk (Below.refl w.heap.size w)
 have HG := Aside0.mk hG
 clear hG
 have H : (if (l0.length : Int) > 60 then ((falseworklaw16_awake.f k).bind fun t328 => (some t328)) else (falseworklaw16_LexTexts.l0 k l0 ([] : List Int) 0)) = some r := h
 clear h
 by_cases c2 : (l0.length : Int) > 60
 ·rw [if_pos c2] at H
  have c2b0 : decide (60 < (l0.length : Int)) = true := decide_eq_true c2
  have c2b1 : decide (60 < l0.length) = true := decide_eq_true (by omega)
  clear c2
  replace H := Option.bind_eq_some_iff.mp H
  obtain ⟨t328, A30, H⟩ := H
  replace H : (some t328) = some r := H
  have A3 := Aside0.mk A30
  clear A30
  obtain rfl := Option.some.inj H
  go_enter Tryd.func6, Tryd.ntmps6
  go_wp2_with (first | ((with_reducible refine gate_callee (f := 13) rfl ?_); refine goesL_ (some 14) rfl rfl Tryd.func13 (by kernel_rfl) rfl #[] rfl (by (try simp only [List.map_toArray, List.map_cons, List.map_nil]); first | done | rfl | (simp only [List.length_drop, List.length_take]; rfl)) ?_; (with_reducible refine (falseworklaw16_awake.calls k  t328 _ A3.out ?side1).mono ?_); (case side1 => exact GL.of_below HG.out (by repeat (first | (with_reducible first | exact HB.out | apply below_alloc | apply pw_below_drewN | apply below_drew1) | exact HB.out))); rintro e w4 ⟨rfl, hb⟩; refine ⟨_, rfl, ?_⟩; have n0_ := Aside0.mk (below_step (by repeat (first | (with_reducible first | exact HB.out | apply below_alloc | apply pw_below_drewN | apply below_drew1) | exact HB.out)) hb); clear HB; have HB := n0_; clear n0_; (try clear hb); (try clear hb2); (try clear hk); (try clear hi)))
  go_ret
  exact ⟨by first | rfl | (simp [errW_none, errW_some] <;> rfl) | (simp [*, errW_none, errW_some] <;> rfl), by repeat (first | (with_reducible first | exact HB.out | apply below_alloc | apply pw_below_drewN | apply below_drew1) | exact HB.out)⟩
 ·rw [if_neg c2] at H
  have c2b0 : decide (60 < (l0.length : Int)) = false := decide_eq_false c2
  have c2b1 : decide (60 < l0.length) = false := decide_eq_false (by omega)
  clear c2
  have H' := Aside0.mk H
  clear H
  go_enter Tryd.func6, Tryd.ntmps6
  go_wp2
  go_loopg [3, 4] k (fun kq v3 v4 w' => ∃ (x3_1 : List Int) (x4_1 : Int), v4 = .int .i64 x4_1 ∧ Aside0 (falseworklaw16_LexTexts.l0 kq l0 x3_1 x4_1 = some r) ∧ Aside0 (kq ≤ k) ∧ Aside0 (Kd.R (Kd.int .u8) 5 w' w.heap.size (fun _ => True) v3 x3_1) ∧ Aside0 (Below w.heap.size w w'))
  case atStart => exact ⟨(([] : List Int)), (0), (by first | rfl | (simp; done) | (simp [*]; done)), H', ⟨Nat.le_refl _⟩, ⟨by first | exact Kd.R_nil _ _ _ _ _ | exact Kd.N_nil _ _ _ _ _ | exact Kd.V_nil _ _ _ _ _ | exact Kd.Q_nil _ _ _ _ _ | exact Kd.S_nil _ _ _ _ _⟩, ⟨by repeat (first | (with_reducible first | exact HB.out | apply below_alloc | apply pw_below_drewN | apply below_drew1) | exact HB.out)⟩⟩
  case round =>
   clear H'
   try clear c1
   try clear c2
   try clear c2b0
   try clear c2b1
   try clear p2
   obtain ⟨x3_1, x4_1, rfl, HA, HK1, HO_3, HB⟩ := hrel
   cases gk with
   | zero => exact absurd HA.out (by simp [falseworklaw16_LexTexts.l0])
   | succ k1 =>
    have H := HA.out
    clear HA
    simp only [falseworklaw16_LexTexts.l0] at H
    by_cases c5 : x4_1 < (l0.length : Int)
    ·rw [if_pos c5] at H
     have c5b0 : decide (x4_1 < (l0.length : Int)) = true := decide_eq_true c5
     clear c5
     by_cases c6 : 0 ≤ x4_1
     ·rw [if_pos c6] at H
      have c6b0 : decide (0 ≤ x4_1) = true := decide_eq_true c6
      clear c6
      by_cases c7 : x3_1.length < 140737488355328
      ·rw [if_pos c7] at H
       have LMc7 := Aside0.mk c7
       clear c7
       obtain ⟨y330, hy330⟩ : ∃ y_ : List Int, y_ = (x3_1 ++ [(32 + (Int.tmod (rd l0 x4_1) 95)) % 256]) := ⟨_, rfl⟩
       replace H : (falseworklaw16_LexTexts.l0 k1 l0 y330 (wrap64 (x4_1 + 1))) = some r := by first | (rw [hy330]; with_reducible exact H) | (have H2_ := (Option.bind_some _ _).symm.trans H; rw [hy330]; with_reducible exact H2_) | (have H2_ := (Option.bind_some _ _).symm.trans H; with_reducible exact H2_) | with_reducible exact H | (rw [hy330]; exact H) | exact H
       have Ny330 := Aside0.mk hy330
       clear hy330
       have H' := Aside0.mk H
       clear H
       have p329 : 0 ≤ (x4_1 : Int) := of_decide_eq_true (by first | (with_reducible assumption) | assumption)
       have q329 : x4_1 < (l0.length : Int) := of_decide_eq_true (by first | (with_reducible assumption) | assumption)
       obtain ⟨ad329, e329, hx329_0⟩ := Kd.at_int HR0.out x4_1 p329 q329
       cases e329
       replace hx329_0 := (HB.out.cell (World.block_lt_of_cell? w _ hx329_0)).trans hx329_0
       replace p329 := eq_true p329
       replace q329 := eq_true q329
       go_wp2_with (first | ((with_reducible refine gate_builtin (b := .append) (xs := #[.tmp 21, .tmp 28]) rfl ?_); (try (refine gate_guard (by rfl) ?_; dsimp only)); at_builtin; refine Kd.R_append (Kd.int .u8) (w0 := w) w.heap.size rfl (.tmp 21) (.tmp 28) 34 5 (.int .u8 0) 1 rfl Tryd.underlying34 info5 rfl (by decide) (by omega) u3 x3_1 ((32 + (Int.tmod (rd l0 x4_1) 95)) % 256) [.int .u8 ((32 + (Int.tmod (rd l0 x4_1) 95)) % 256)] (fun _ => True) (fun _ => False) rfl rfl ?aP (fun _ hk => hk.elim) ?aF ?aO ?aB ?aS ?aL ?_; (case aP => exact rfl); (case aB => exact (by repeat (first | (with_reducible first | exact HB.out | apply below_alloc | apply pw_below_drewN | apply below_drew1) | exact HB.out))); (case aF => exact (fun _ _ => trivial)); (case aO => exact (by (with_reducible repeat (first | apply Kd.R_alloc | apply Kd.R_drewN | apply Kd.R_drew)); exact HO_3.out)); (case aS => exact (below_size (by repeat (first | (with_reducible first | exact HB.out | apply below_alloc | apply pw_below_drewN | apply below_drew1) | exact HB.out)))); (case aL => have := LMc7.out; omega); intro v331 w8 ho hb hg hat; rw [← Ny330.out] at ho; have n0_ := Aside0.mk (hb); have n1_ := Aside0.mk (ho); clear HB; clear HO_3; have HB := n0_; have HO332 := n1_; clear n0_ n1_; clear ho hb hg hat))
       go_roundg k1
       case measure => have := HK1.out; omega
       case rel => exact ⟨(y330), (wrap64 (x4_1 + 1)), (by first | rfl | (simp; done) | (simp [*]; done)), H', ⟨by have := HK1.out; omega⟩, ⟨by (with_reducible repeat (first | apply Kd.R_alloc | apply Kd.R_drewN | apply Kd.R_drew)); exact HO332.out⟩, ⟨by repeat (first | (with_reducible first | exact HB.out | apply below_alloc | apply pw_below_drewN | apply below_drew1) | exact HB.out)⟩⟩
      ·rw [if_neg c7] at H
       first | (cases H; done) | exact absurd HR_.out (by rw [← Option.some.inj H]; decide)
     ·rw [if_neg c6] at H
      first | (cases H; done) | exact absurd HR_.out (by rw [← Option.some.inj H]; decide)
    ·rw [if_neg c5] at H
     have c5b0 : decide (x4_1 < (l0.length : Int)) = false := decide_eq_false c5
     clear c5
     replace H := Option.bind_eq_some_iff.mp H
     obtain ⟨t333, A90, H⟩ := H
     replace H : ((lex_Lex.f k1 t333).bind fun bt334 => ((falseworkref16_Value.f k1 4 0 0 (strOfNums l0)).bind fun t339 => ((lex_Lex.f k1 t339).bind fun bt340 => (if (l0.length : Int) > 40 then ((falseworklaw16_num.f bt334.2.2).bind fun t345 => (if t345 = 3 then ((falseworklaw16_num.f bt340.2.2).bind fun t346 => (if t346 = 3 then ((falseworklaw16_awake.f k1).bind fun t347 => (some t347)) else (some false))) else (some false))) else ((falseworklaw16_num.f bt334.2.2).bind fun t348 => (if t348 = 0 then ((falseworklaw16_num.f bt340.2.2).bind fun t349 => (if t349 = 0 then (if (bt334.1.length : Int) = 2 then (if (bt340.1.length : Int) = 2 then (if 0 < (bt334.1.length : Int) then (if (((rd_T39 bt334.1 0).f2.f0) == 5 && (((rd_T39 bt334.1 0).f2.f1) == 0 && (((rd_T39 bt334.1 0).f2.f2) == 0 && ((((rd_T39 bt334.1 0).f2.f3).toList) == ((strOfNums x3_1).toList))))) = true then (if 0 < (bt340.1.length : Int) then (some (((rd_T39 bt340.1 0).f2.f0) == 4 && (((rd_T39 bt340.1 0).f2.f1) == 0 && (((rd_T39 bt340.1 0).f2.f2) == 0 && ((((rd_T39 bt340.1 0).f2.f3).toList) == ((strOfNums l0).toList)))))) else (none)) else (some false)) else (none)) else (some false)) else (some false)) else (some false))) else (some false))))))) = some r := H
     have A9 := Aside0.mk A90
     clear A90
     replace H := Option.bind_eq_some_iff.mp H
     obtain ⟨⟨t334, t335, t336⟩, A100, H⟩ := H
     replace H : ((falseworkref16_Value.f k1 4 0 0 (strOfNums l0)).bind fun t339 => ((lex_Lex.f k1 t339).bind fun bt340 => (if (l0.length : Int) > 40 then ((falseworklaw16_num.f t336).bind fun t345 => (if t345 = 3 then ((falseworklaw16_num.f bt340.2.2).bind fun t346 => (if t346 = 3 then ((falseworklaw16_awake.f k1).bind fun t347 => (some t347)) else (some false))) else (some false))) else ((falseworklaw16_num.f t336).bind fun t348 => (if t348 = 0 then ((falseworklaw16_num.f bt340.2.2).bind fun t349 => (if t349 = 0 then (if (t334.length : Int) = 2 then (if (bt340.1.length : Int) = 2 then (if 0 < (t334.length : Int) then (if (((rd_T39 t334 0).f2.f0) == 5 && (((rd_T39 t334 0).f2.f1) == 0 && (((rd_T39 t334 0).f2.f2) == 0 && ((((rd_T39 t334 0).f2.f3).toList) == ((strOfNums x3_1).toList))))) = true then (if 0 < (bt340.1.length : Int) then (some (((rd_T39 bt340.1 0).f2.f0) == 4 && (((rd_T39 bt340.1 0).f2.f1) == 0 && (((rd_T39 bt340.1 0).f2.f2) == 0 && ((((rd_T39 bt340.1 0).f2.f3).toList) == ((strOfNums l0).toList)))))) else (none)) else (some false)) else (none)) else (some false)) else (some false)) else (some false))) else (some false)))))) = some r := H
     have A10 := Aside0.mk A100
     clear A100
     replace H := Option.bind_eq_some_iff.mp H
     obtain ⟨t339, A110, H⟩ := H
     replace H : ((lex_Lex.f k1 t339).bind fun bt340 => (if (l0.length : Int) > 40 then ((falseworklaw16_num.f t336).bind fun t345 => (if t345 = 3 then ((falseworklaw16_num.f bt340.2.2).bind fun t346 => (if t346 = 3 then ((falseworklaw16_awake.f k1).bind fun t347 => (some t347)) else (some false))) else (some false))) else ((falseworklaw16_num.f t336).bind fun t348 => (if t348 = 0 then ((falseworklaw16_num.f bt340.2.2).bind fun t349 => (if t349 = 0 then (if (t334.length : Int) = 2 then (if (bt340.1.length : Int) = 2 then (if 0 < (t334.length : Int) then (if (((rd_T39 t334 0).f2.f0) == 5 && (((rd_T39 t334 0).f2.f1) == 0 && (((rd_T39 t334 0).f2.f2) == 0 && ((((rd_T39 t334 0).f2.f3).toList) == ((strOfNums x3_1).toList))))) = true then (if 0 < (bt340.1.length : Int) then (some (((rd_T39 bt340.1 0).f2.f0) == 4 && (((rd_T39 bt340.1 0).f2.f1) == 0 && (((rd_T39 bt340.1 0).f2.f2) == 0 && ((((rd_T39 bt340.1 0).f2.f3).toList) == ((strOfNums l0).toList)))))) else (none)) else (some false)) else (none)) else (some false)) else (some false)) else (some false))) else (some false))))) = some r := H
     have A11 := Aside0.mk A110
     clear A110
     replace H := Option.bind_eq_some_iff.mp H
     obtain ⟨⟨t340, t341, t342⟩, A120, H⟩ := H
     replace H : (if (l0.length : Int) > 40 then ((falseworklaw16_num.f t336).bind fun t345 => (if t345 = 3 then ((falseworklaw16_num.f t342).bind fun t346 => (if t346 = 3 then ((falseworklaw16_awake.f k1).bind fun t347 => (some t347)) else (some false))) else (some false))) else ((falseworklaw16_num.f t336).bind fun t348 => (if t348 = 0 then ((falseworklaw16_num.f t342).bind fun t349 => (if t349 = 0 then (if (t334.length : Int) = 2 then (if (t340.length : Int) = 2 then (if 0 < (t334.length : Int) then (if (((rd_T39 t334 0).f2.f0) == 5 && (((rd_T39 t334 0).f2.f1) == 0 && (((rd_T39 t334 0).f2.f2) == 0 && ((((rd_T39 t334 0).f2.f3).toList) == ((strOfNums x3_1).toList))))) = true then (if 0 < (t340.length : Int) then (some (((rd_T39 t340 0).f2.f0) == 4 && (((rd_T39 t340 0).f2.f1) == 0 && (((rd_T39 t340 0).f2.f2) == 0 && ((((rd_T39 t340 0).f2.f3).toList) == ((strOfNums l0).toList)))))) else (none)) else (some false)) else (none)) else (some false)) else (some false)) else (some false))) else (some false)))) = some r := H
     have A12 := Aside0.mk A120
     clear A120
     by_cases c13 : (l0.length : Int) > 40
     ·rw [if_pos c13] at H
      have c13b0 : decide (40 < (l0.length : Int)) = true := decide_eq_true c13
      have c13b1 : decide (40 < l0.length) = true := decide_eq_true (by omega)
      clear c13
      replace H := Option.bind_eq_some_iff.mp H
      obtain ⟨t345, A140, H⟩ := H
      replace H : (if t345 = 3 then ((falseworklaw16_num.f t342).bind fun t346 => (if t346 = 3 then ((falseworklaw16_awake.f k1).bind fun t347 => (some t347)) else (some false))) else (some false)) = some r := H
      have A14 := Aside0.mk A140
      clear A140
      by_cases c15 : t345 = 3
      ·rw [if_pos c15] at H
       have c15b0 : (t345 == 3) = true := beq_iff_eq.mpr c15
       have c15b1 : (t345 != 3) = false := bne_eq_false_iff_eq.mpr c15
       clear c15
       replace H := Option.bind_eq_some_iff.mp H
       obtain ⟨t346, A160, H⟩ := H
       replace H : (if t346 = 3 then ((falseworklaw16_awake.f k1).bind fun t347 => (some t347)) else (some false)) = some r := H
       have A16 := Aside0.mk A160
       clear A160
       by_cases c17 : t346 = 3
       ·rw [if_pos c17] at H
        have c17b0 : (t346 == 3) = true := beq_iff_eq.mpr c17
        have c17b1 : (t346 != 3) = false := bne_eq_false_iff_eq.mpr c17
        clear c17
        replace H := Option.bind_eq_some_iff.mp H
        obtain ⟨t347, A180, H⟩ := H
        replace H : (some t347) = some r := H
        have A18 := Aside0.mk A180
        clear A180
        obtain rfl := Option.some.inj H
        have hcv19 := own_string (P := Tryd.prog) Tryd.underlying34 Tryd.underlying5 Tryd.underlying9 (Kd.own_of_R HO_3.out)
        go_wp2_with (first | ((with_reducible refine gate_callee (f := 17) rfl ?_); refine goesL_ (some 34) rfl rfl Tryd.func17 (by kernel_rfl) rfl #[.agg #[.int .i64 5, .int .i64 0, .int .u64 0, .string (strOfNums x3_1)]] rfl (by (try simp only [List.map_toArray, List.map_cons, List.map_nil]); first | done | rfl | (simp only [List.length_drop, List.length_take]; rfl)) ?_; (with_reducible refine (falseworkref16_Value.calls k1 5 0 0 (strOfNums x3_1) t333 _ A9.out).mono ?_); rintro e w20 ⟨rfl, hb⟩; refine ⟨_, rfl, ?_⟩; have n0_ := Aside0.mk (Kd.R_below (by (with_reducible repeat (first | apply Kd.R_alloc | apply Kd.R_drewN | apply Kd.R_drew)); exact HO_3.out) hb); have n1_ := Aside0.mk (below_step (by repeat (first | (with_reducible first | exact HB.out | apply below_alloc | apply pw_below_drewN | apply below_drew1) | exact HB.out)) hb); clear HO_3; clear HB; have HO_3 := n0_; have HB := n1_; clear n0_ n1_; (try clear hb); (try clear hb2); (try clear hk); (try clear hi)) | ((with_reducible refine gate_callee (f := 9) rfl ?_); refine goesL_ (some 35) rfl rfl Tryd.func9 (by kernel_rfl) rfl #[.string t333] rfl (by (try simp only [List.map_toArray, List.map_cons, List.map_nil]); first | done | rfl | (simp only [List.length_drop, List.length_take]; rfl)) ?_; (with_reducible refine (lex_Lex.calls k1 t333 t334 t335 t336 _ A10.out ?side1).mono ?_); (case side1 => exact GL.of_below HG.out (by repeat (first | (with_reducible first | exact HB.out | apply below_alloc | apply pw_below_drewN | apply below_drew1) | exact HB.out))); rintro e w21 ⟨v337, rfl, ho0, hb⟩; refine ⟨_, rfl, ?_⟩; have n0_ := Aside0.mk (Kd.R_below (by (with_reducible repeat (first | apply Kd.R_alloc | apply Kd.R_drewN | apply Kd.R_drew)); exact HO_3.out) hb); have n1_ := Aside0.mk (Kd.R_lower ho0 (below_size (by repeat (first | (with_reducible first | exact HB.out | apply below_alloc | apply pw_below_drewN | apply below_drew1) | exact HB.out)))); have n2_ := Aside0.mk (below_step (by repeat (first | (with_reducible first | exact HB.out | apply below_alloc | apply pw_below_drewN | apply below_drew1) | exact HB.out)) hb); clear HO_3; clear HB; have HO_3 := n0_; have HO338 := n1_; have HB := n2_; clear n0_ n1_ n2_; (try clear hb); (try clear hb2); (try clear hk); (try clear hi); (try clear ho0); have hcv22 := Kd.C_string (P := Tryd.prog) (A := A0) (c := c0) Tryd.underlying34 Tryd.underlying5 Tryd.underlying9 (Kd.C_below HR0.out HB.out)) | ((with_reducible refine gate_callee (f := 17) rfl ?_); refine goesL_ (some 43) rfl rfl Tryd.func17 (by kernel_rfl) rfl #[.agg #[.int .i64 4, .int .i64 0, .int .u64 0, .string (strOfNums l0)]] rfl (by (try simp only [List.map_toArray, List.map_cons, List.map_nil]); first | done | rfl | (simp only [List.length_drop, List.length_take]; rfl)) ?_; (with_reducible refine (falseworkref16_Value.calls k1 4 0 0 (strOfNums l0) t339 _ A11.out).mono ?_); rintro e w23 ⟨rfl, hb⟩; refine ⟨_, rfl, ?_⟩; have n0_ := Aside0.mk (Kd.R_below (by (with_reducible repeat (first | apply Kd.R_alloc | apply Kd.R_drewN | apply Kd.R_drew)); exact HO_3.out) hb); have n1_ := Aside0.mk (Kd.R_below (by (with_reducible repeat (first | apply Kd.R_alloc | apply Kd.R_drewN | apply Kd.R_drew)); exact HO338.out) hb); have n2_ := Aside0.mk (below_step (by repeat (first | (with_reducible first | exact HB.out | apply below_alloc | apply pw_below_drewN | apply below_drew1) | exact HB.out)) hb); clear HO_3; clear HO338; clear HB; have HO_3 := n0_; have HO338 := n1_; have HB := n2_; clear n0_ n1_ n2_; (try clear hb); (try clear hb2); (try clear hk); (try clear hi)) | ((with_reducible refine gate_callee (f := 9) rfl ?_); refine goesL_ (some 44) rfl rfl Tryd.func9 (by kernel_rfl) rfl #[.string t339] rfl (by (try simp only [List.map_toArray, List.map_cons, List.map_nil]); first | done | rfl | (simp only [List.length_drop, List.length_take]; rfl)) ?_; (with_reducible refine (lex_Lex.calls k1 t339 t340 t341 t342 _ A12.out ?side1).mono ?_); (case side1 => exact GL.of_below HG.out (by repeat (first | (with_reducible first | exact HB.out | apply below_alloc | apply pw_below_drewN | apply below_drew1) | exact HB.out))); rintro e w24 ⟨v343, rfl, ho0, hb⟩; refine ⟨_, rfl, ?_⟩; have n0_ := Aside0.mk (Kd.R_below (by (with_reducible repeat (first | apply Kd.R_alloc | apply Kd.R_drewN | apply Kd.R_drew)); exact HO_3.out) hb); have n1_ := Aside0.mk (Kd.R_elder' (by (with_reducible repeat (first | apply Kd.R_alloc | apply Kd.R_drewN | apply Kd.R_drew)); exact HO338.out) (Kd.R_base ho0) hb); have n2_ := Aside0.mk (Kd.R_lower (Kd.R_new' ho0 (Kd.R_lt (by (with_reducible repeat (first | apply Kd.R_alloc | apply Kd.R_drewN | apply Kd.R_drew)); exact HO338.out))) (below_size (by repeat (first | (with_reducible first | exact HB.out | apply below_alloc | apply pw_below_drewN | apply below_drew1) | exact HB.out)))); have n3_ := Aside0.mk (below_step (by repeat (first | (with_reducible first | exact HB.out | apply below_alloc | apply pw_below_drewN | apply below_drew1) | exact HB.out)) hb); clear HO_3; clear HO338; clear HB; have HO_3 := n0_; have HO338 := n1_; have HO344 := n2_; have HB := n3_; clear n0_ n1_ n2_ n3_; (try clear hb); (try clear hb2); (try clear hk); (try clear hi); (try clear ho0)) | ((with_reducible refine gate_callee (f := 12) rfl ?_); refine goesL_ (some 52) rfl rfl Tryd.func12 (by kernel_rfl) rfl #[.int .i64 t336] rfl (by (try simp only [List.map_toArray, List.map_cons, List.map_nil]); first | done | rfl | (simp only [List.length_drop, List.length_take]; rfl)) ?_; (with_reducible refine (falseworklaw16_num.calls t336 t345 _ A14.out).mono ?_); rintro e w' ⟨rfl, ⟨nd, rfl⟩⟩; refine ⟨_, rfl, ?_⟩) | (go_at_call 12; (with_reducible refine (falseworklaw16_num.calls t342 t346 _ A16.out).mono ?_); rintro e w' ⟨rfl, ⟨nd, rfl⟩⟩) | (go_at_call 13; (with_reducible refine (falseworklaw16_awake.calls k1  t347 _ A18.out ?side1).mono ?_); (case side1 => exact GL.of_below HG.out (by repeat (first | (with_reducible first | exact HB.out | apply below_alloc | apply pw_below_drewN | apply below_drew1) | exact HB.out))); rintro e w25 ⟨rfl, hb⟩; have n0_ := Aside0.mk (Kd.R_below (by (with_reducible repeat (first | apply Kd.R_alloc | apply Kd.R_drewN | apply Kd.R_drew)); exact HO_3.out) hb); have n1_ := Aside0.mk (Kd.R_below (by (with_reducible repeat (first | apply Kd.R_alloc | apply Kd.R_drewN | apply Kd.R_drew)); exact HO338.out) hb); have n2_ := Aside0.mk (Kd.R_below (by (with_reducible repeat (first | apply Kd.R_alloc | apply Kd.R_drewN | apply Kd.R_drew)); exact HO344.out) hb); have n3_ := Aside0.mk (below_step (by repeat (first | (with_reducible first | exact HB.out | apply below_alloc | apply pw_below_drewN | apply below_drew1) | exact HB.out)) hb); clear HO_3; clear HO338; clear HO344; clear HB; have HO_3 := n0_; have HO338 := n1_; have HO344 := n2_; have HB := n3_; clear n0_ n1_ n2_ n3_; (try clear hb); (try clear hb2); (try clear hk); (try clear hi)))
        go_ret
        exact ⟨by first | rfl | (simp [errW_none, errW_some] <;> rfl) | (simp [*, errW_none, errW_some] <;> rfl), by repeat (first | (with_reducible first | exact HB.out | apply below_alloc | apply pw_below_drewN | apply below_drew1) | exact HB.out)⟩
       ·rw [if_neg c17] at H
        first | (cases H; done) | exact absurd HR_.out (by rw [← Option.some.inj H]; decide)
      ·rw [if_neg c15] at H
       first | (cases H; done) | exact absurd HR_.out (by rw [← Option.some.inj H]; decide)
     ·rw [if_neg c13] at H
      have c13b0 : decide (40 < (l0.length : Int)) = false := decide_eq_false c13
      have c13b1 : decide (40 < l0.length) = false := decide_eq_false (by omega)
      clear c13
      replace H := Option.bind_eq_some_iff.mp H
      obtain ⟨t348, A380, H⟩ := H
      replace H : (if t348 = 0 then ((falseworklaw16_num.f t342).bind fun t349 => (if t349 = 0 then (if (t334.length : Int) = 2 then (if (t340.length : Int) = 2 then (if 0 < (t334.length : Int) then (if (((rd_T39 t334 0).f2.f0) == 5 && (((rd_T39 t334 0).f2.f1) == 0 && (((rd_T39 t334 0).f2.f2) == 0 && ((((rd_T39 t334 0).f2.f3).toList) == ((strOfNums x3_1).toList))))) = true then (if 0 < (t340.length : Int) then (some (((rd_T39 t340 0).f2.f0) == 4 && (((rd_T39 t340 0).f2.f1) == 0 && (((rd_T39 t340 0).f2.f2) == 0 && ((((rd_T39 t340 0).f2.f3).toList) == ((strOfNums l0).toList)))))) else (none)) else (some false)) else (none)) else (some false)) else (some false)) else (some false))) else (some false)) = some r := H
      have A38 := Aside0.mk A380
      clear A380
      by_cases c39 : t348 = 0
      ·rw [if_pos c39] at H
       have c39b0 : (t348 == 0) = true := beq_iff_eq.mpr c39
       have c39b1 : (t348 != 0) = false := bne_eq_false_iff_eq.mpr c39
       clear c39
       replace H := Option.bind_eq_some_iff.mp H
       obtain ⟨t349, A400, H⟩ := H
       replace H : (if t349 = 0 then (if (t334.length : Int) = 2 then (if (t340.length : Int) = 2 then (if 0 < (t334.length : Int) then (if (((rd_T39 t334 0).f2.f0) == 5 && (((rd_T39 t334 0).f2.f1) == 0 && (((rd_T39 t334 0).f2.f2) == 0 && ((((rd_T39 t334 0).f2.f3).toList) == ((strOfNums x3_1).toList))))) = true then (if 0 < (t340.length : Int) then (some (((rd_T39 t340 0).f2.f0) == 4 && (((rd_T39 t340 0).f2.f1) == 0 && (((rd_T39 t340 0).f2.f2) == 0 && ((((rd_T39 t340 0).f2.f3).toList) == ((strOfNums l0).toList)))))) else (none)) else (some false)) else (none)) else (some false)) else (some false)) else (some false)) = some r := H
       have A40 := Aside0.mk A400
       clear A400
       by_cases c41 : t349 = 0
       ·rw [if_pos c41] at H
        have c41b0 : (t349 == 0) = true := beq_iff_eq.mpr c41
        have c41b1 : (t349 != 0) = false := bne_eq_false_iff_eq.mpr c41
        clear c41
        by_cases c42 : (t334.length : Int) = 2
        ·rw [if_pos c42] at H
         have c42b0 : ((t334.length : Int) == 2) = true := beq_iff_eq.mpr c42
         have c42b1 : ((t334.length : Int) != 2) = false := bne_eq_false_iff_eq.mpr c42
         clear c42
         by_cases c43 : (t340.length : Int) = 2
         ·rw [if_pos c43] at H
          have c43b0 : ((t340.length : Int) == 2) = true := beq_iff_eq.mpr c43
          have c43b1 : ((t340.length : Int) != 2) = false := bne_eq_false_iff_eq.mpr c43
          clear c43
          by_cases c44 : 0 < (t334.length : Int)
          ·rw [if_pos c44] at H
           have c44b0 : decide (0 < (t334.length : Int)) = true := decide_eq_true c44
           have c44b1 : decide (0 < t334.length) = true := decide_eq_true (by omega)
           clear c44
           by_cases c45 : (((rd_T39 t334 0).f2.f0) == 5 && (((rd_T39 t334 0).f2.f1) == 0 && (((rd_T39 t334 0).f2.f2) == 0 && ((((rd_T39 t334 0).f2.f3).toList) == ((strOfNums x3_1).toList))))) = true
           ·rw [if_pos c45] at H
            have c45b0 : (((rd_T39 t334 0).f2.f0) == 5 && (((rd_T39 t334 0).f2.f1) == 0 && (((rd_T39 t334 0).f2.f2) == 0 && ((((rd_T39 t334 0).f2.f3).toList) == ((strOfNums x3_1).toList))))) = true := c45
            (try (have c45b1 : decide (((rd_T39 t334 0).f2.f0) = 5 && (((rd_T39 t334 0).f2.f1) == 0 && (((rd_T39 t334 0).f2.f2) == 0 && ((((rd_T39 t334 0).f2.f3).toList) == ((strOfNums x3_1).toList))))) = true := by simpa using c45))
            (try (have c45b2 : (((rd_T39 t334 0).f2.f0) == 5 && (((rd_T39 t334 0).f2.f1) == 0 && (((rd_T39 t334 0).f2.f2) == 0 && ((((rd_T39 t334 0).f2.f3).toList) == ((strOfNums x3_1).toList))))) = true := by simpa using c45))
            clear c45
            by_cases c46 : 0 < (t340.length : Int)
            ·rw [if_pos c46] at H
             have c46b0 : decide (0 < (t340.length : Int)) = true := decide_eq_true c46
             have c46b1 : decide (0 < t340.length) = true := decide_eq_true (by omega)
             clear c46
             obtain rfl := Option.some.inj H
             have hcv47 := own_string (P := Tryd.prog) Tryd.underlying34 Tryd.underlying5 Tryd.underlying9 (Kd.own_of_R HO_3.out)
             try go_wp2_with (first | ((with_reducible refine gate_callee (f := 17) rfl ?_); refine goesL_ (some 34) rfl rfl Tryd.func17 (by kernel_rfl) rfl #[.agg #[.int .i64 5, .int .i64 0, .int .u64 0, .string (strOfNums x3_1)]] rfl (by (try simp only [List.map_toArray, List.map_cons, List.map_nil]); first | done | rfl | (simp only [List.length_drop, List.length_take]; rfl)) ?_; (with_reducible refine (falseworkref16_Value.calls k1 5 0 0 (strOfNums x3_1) t333 _ A9.out).mono ?_); rintro e w48 ⟨rfl, hb⟩; refine ⟨_, rfl, ?_⟩; have n0_ := Aside0.mk (Kd.R_below (by (with_reducible repeat (first | apply Kd.R_alloc | apply Kd.R_drewN | apply Kd.R_drew)); exact HO_3.out) hb); have n1_ := Aside0.mk (below_step (by repeat (first | (with_reducible first | exact HB.out | apply below_alloc | apply pw_below_drewN | apply below_drew1) | exact HB.out)) hb); clear HO_3; clear HB; have HO_3 := n0_; have HB := n1_; clear n0_ n1_; (try clear hb); (try clear hb2); (try clear hk); (try clear hi)) | ((with_reducible refine gate_callee (f := 9) rfl ?_); refine goesL_ (some 35) rfl rfl Tryd.func9 (by kernel_rfl) rfl #[.string t333] rfl (by (try simp only [List.map_toArray, List.map_cons, List.map_nil]); first | done | rfl | (simp only [List.length_drop, List.length_take]; rfl)) ?_; (with_reducible refine (lex_Lex.calls k1 t333 t334 t335 t336 _ A10.out ?side1).mono ?_); (case side1 => exact GL.of_below HG.out (by repeat (first | (with_reducible first | exact HB.out | apply below_alloc | apply pw_below_drewN | apply below_drew1) | exact HB.out))); rintro e w49 ⟨v337, rfl, ho0, hb⟩; refine ⟨_, rfl, ?_⟩; have n0_ := Aside0.mk (Kd.R_below (by (with_reducible repeat (first | apply Kd.R_alloc | apply Kd.R_drewN | apply Kd.R_drew)); exact HO_3.out) hb); have n1_ := Aside0.mk (Kd.R_lower ho0 (below_size (by repeat (first | (with_reducible first | exact HB.out | apply below_alloc | apply pw_below_drewN | apply below_drew1) | exact HB.out)))); have n2_ := Aside0.mk (below_step (by repeat (first | (with_reducible first | exact HB.out | apply below_alloc | apply pw_below_drewN | apply below_drew1) | exact HB.out)) hb); clear HO_3; clear HB; have HO_3 := n0_; have HO338 := n1_; have HB := n2_; clear n0_ n1_ n2_; (try clear hb); (try clear hb2); (try clear hk); (try clear hi); (try clear ho0); have hcv50 := Kd.C_string (P := Tryd.prog) (A := A0) (c := c0) Tryd.underlying34 Tryd.underlying5 Tryd.underlying9 (Kd.C_below HR0.out HB.out)) | ((with_reducible refine gate_callee (f := 17) rfl ?_); refine goesL_ (some 43) rfl rfl Tryd.func17 (by kernel_rfl) rfl #[.agg #[.int .i64 4, .int .i64 0, .int .u64 0, .string (strOfNums l0)]] rfl (by (try simp only [List.map_toArray, List.map_cons, List.map_nil]); first | done | rfl | (simp only [List.length_drop, List.length_take]; rfl)) ?_; (with_reducible refine (falseworkref16_Value.calls k1 4 0 0 (strOfNums l0) t339 _ A11.out).mono ?_); rintro e w51 ⟨rfl, hb⟩; refine ⟨_, rfl, ?_⟩; have n0_ := Aside0.mk (Kd.R_below (by (with_reducible repeat (first | apply Kd.R_alloc | apply Kd.R_drewN | apply Kd.R_drew)); exact HO_3.out) hb); have n1_ := Aside0.mk (Kd.R_below (by (with_reducible repeat (first | apply Kd.R_alloc | apply Kd.R_drewN | apply Kd.R_drew)); exact HO338.out) hb); have n2_ := Aside0.mk (below_step (by repeat (first | (with_reducible first | exact HB.out | apply below_alloc | apply pw_below_drewN | apply below_drew1) | exact HB.out)) hb); clear HO_3; clear HO338; clear HB; have HO_3 := n0_; have HO338 := n1_; have HB := n2_; clear n0_ n1_ n2_; (try clear hb); (try clear hb2); (try clear hk); (try clear hi)) | ((with_reducible refine gate_callee (f := 9) rfl ?_); refine goesL_ (some 44) rfl rfl Tryd.func9 (by kernel_rfl) rfl #[.string t339] rfl (by (try simp only [List.map_toArray, List.map_cons, List.map_nil]); first | done | rfl | (simp only [List.length_drop, List.length_take]; rfl)) ?_; (with_reducible refine (lex_Lex.calls k1 t339 t340 t341 t342 _ A12.out ?side1).mono ?_); (case side1 => exact GL.of_below HG.out (by repeat (first | (with_reducible first | exact HB.out | apply below_alloc | apply pw_below_drewN | apply below_drew1) | exact HB.out))); rintro e w52 ⟨v343, rfl, ho0, hb⟩; refine ⟨_, rfl, ?_⟩; have n0_ := Aside0.mk (Kd.R_below (by (with_reducible repeat (first | apply Kd.R_alloc | apply Kd.R_drewN | apply Kd.R_drew)); exact HO_3.out) hb); have n1_ := Aside0.mk (Kd.R_elder' (by (with_reducible repeat (first | apply Kd.R_alloc | apply Kd.R_drewN | apply Kd.R_drew)); exact HO338.out) (Kd.R_base ho0) hb); have n2_ := Aside0.mk (Kd.R_lower (Kd.R_new' ho0 (Kd.R_lt (by (with_reducible repeat (first | apply Kd.R_alloc | apply Kd.R_drewN | apply Kd.R_drew)); exact HO338.out))) (below_size (by repeat (first | (with_reducible first | exact HB.out | apply below_alloc | apply pw_below_drewN | apply below_drew1) | exact HB.out)))); have n3_ := Aside0.mk (below_step (by repeat (first | (with_reducible first | exact HB.out | apply below_alloc | apply pw_below_drewN | apply below_drew1) | exact HB.out)) hb); clear HO_3; clear HO338; clear HB; have HO_3 := n0_; have HO338 := n1_; have HO344 := n2_; have HB := n3_; clear n0_ n1_ n2_ n3_; (try clear hb); (try clear hb2); (try clear hk); (try clear hi); (try clear ho0)))
             have n0_ := Aside0.mk (Kd.R_drew HO_3.out)
             have n1_ := Aside0.mk (Kd.R_drew HO338.out)
             have n2_ := Aside0.mk (Kd.R_drew HO344.out)
             have n3_ := Aside0.mk (below_drew1 HB.out)
             clear HO_3
             clear HO338
             clear HO344
             clear HB
             have HO_3 := n0_
             have HO338 := n1_
             have HO344 := n2_
             have HB := n3_
             clear n0_ n1_ n2_ n3_
             obtain ⟨Aq1, cq1, eq1⟩ := Kd.R_slice HO338.out
             subst eq1
             obtain ⟨Aq2, cq2, eq2⟩ := Kd.R_slice HO344.out
             subst eq2
             have p350 : 0 ≤ (0 : Int) := (by omega)
             have q350 : 0 < (t334.length : Int) := of_decide_eq_true (by first | (with_reducible assumption) | assumption)
             obtain ⟨ad350, e350, hx350_0, hx350_1, hx350_2, hx350_3, hx350_4, hx350_5, hx350_6⟩ := at_T39 (Kd.R_reads' HO338.out).2.2 0 p350 q350
             cases e350
             have qi350 : (0 < t334.length) = True := eq_true (by omega)
             (try rw [show ((0 : Int)).toNat = 0 from rfl] at hx350_0)
             (try rw [show 0 * 7 = 0 from rfl] at hx350_0)
             (try rw [Addr.add_zero'] at hx350_0)
             (try rw [show ((0 : Int)).toNat = 0 from rfl] at hx350_1)
             (try rw [show 0 * 7 = 0 from rfl] at hx350_1)
             (try rw [Addr.add_zero'] at hx350_1)
             (try rw [show ((0 : Int)).toNat = 0 from rfl] at hx350_2)
             (try rw [show 0 * 7 = 0 from rfl] at hx350_2)
             (try rw [Addr.add_zero'] at hx350_2)
             (try rw [show ((0 : Int)).toNat = 0 from rfl] at hx350_3)
             (try rw [show 0 * 7 = 0 from rfl] at hx350_3)
             (try rw [Addr.add_zero'] at hx350_3)
             (try rw [show ((0 : Int)).toNat = 0 from rfl] at hx350_4)
             (try rw [show 0 * 7 = 0 from rfl] at hx350_4)
             (try rw [Addr.add_zero'] at hx350_4)
             (try rw [show ((0 : Int)).toNat = 0 from rfl] at hx350_5)
             (try rw [show 0 * 7 = 0 from rfl] at hx350_5)
             (try rw [Addr.add_zero'] at hx350_5)
             (try rw [show ((0 : Int)).toNat = 0 from rfl] at hx350_6)
             (try rw [show 0 * 7 = 0 from rfl] at hx350_6)
             (try rw [Addr.add_zero'] at hx350_6)
             replace p350 := eq_true p350
             replace q350 := eq_true q350
             have p351 : 0 ≤ (0 : Int) := (by omega)
             have q351 : 0 < (t340.length : Int) := of_decide_eq_true (by first | (with_reducible assumption) | assumption)
             obtain ⟨ad351, e351, hx351_0, hx351_1, hx351_2, hx351_3, hx351_4, hx351_5, hx351_6⟩ := at_T39 (Kd.R_reads' HO344.out).2.2 0 p351 q351
             cases e351
             have qi351 : (0 < t340.length) = True := eq_true (by omega)
             (try rw [show ((0 : Int)).toNat = 0 from rfl] at hx351_0)
             (try rw [show 0 * 7 = 0 from rfl] at hx351_0)
             (try rw [Addr.add_zero'] at hx351_0)
             (try rw [show ((0 : Int)).toNat = 0 from rfl] at hx351_1)
             (try rw [show 0 * 7 = 0 from rfl] at hx351_1)
             (try rw [Addr.add_zero'] at hx351_1)
             (try rw [show ((0 : Int)).toNat = 0 from rfl] at hx351_2)
             (try rw [show 0 * 7 = 0 from rfl] at hx351_2)
             (try rw [Addr.add_zero'] at hx351_2)
             (try rw [show ((0 : Int)).toNat = 0 from rfl] at hx351_3)
             (try rw [show 0 * 7 = 0 from rfl] at hx351_3)
             (try rw [Addr.add_zero'] at hx351_3)
             (try rw [show ((0 : Int)).toNat = 0 from rfl] at hx351_4)
             (try rw [show 0 * 7 = 0 from rfl] at hx351_4)
             (try rw [Addr.add_zero'] at hx351_4)
             (try rw [show ((0 : Int)).toNat = 0 from rfl] at hx351_5)
             (try rw [show 0 * 7 = 0 from rfl] at hx351_5)
             (try rw [Addr.add_zero'] at hx351_5)
             (try rw [show ((0 : Int)).toNat = 0 from rfl] at hx351_6)
             (try rw [show 0 * 7 = 0 from rfl] at hx351_6)
             (try rw [Addr.add_zero'] at hx351_6)
             replace p351 := eq_true p351
             replace q351 := eq_true q351
             refine start_ (n := 39) (S := fun w' => w'.cell? ad350 = some (.int .i64 ((rd_T39 t334 0).f0)) ∧ w'.cell? ⟨ad350.block, ad350.off + 1, none⟩ = some (.string ((rd_T39 t334 0).f1)) ∧ w'.cell? ⟨ad350.block, ad350.off + 2, none⟩ = some (.int .i64 ((rd_T39 t334 0).f2.f0)) ∧ w'.cell? ⟨ad350.block, ad350.off + 3, none⟩ = some (.int .i64 ((rd_T39 t334 0).f2.f1)) ∧ w'.cell? ⟨ad350.block, ad350.off + 4, none⟩ = some (.int .u64 ((rd_T39 t334 0).f2.f2)) ∧ w'.cell? ⟨ad350.block, ad350.off + 5, none⟩ = some (.string ((rd_T39 t334 0).f2.f3)) ∧ w'.cell? ⟨ad350.block, ad350.off + 6, none⟩ = some (.int .i64 ((rd_T39 t334 0).f3)) ∧ w'.cell? ad351 = some (.int .i64 ((rd_T39 t340 0).f0)) ∧ w'.cell? ⟨ad351.block, ad351.off + 1, none⟩ = some (.string ((rd_T39 t340 0).f1)) ∧ w'.cell? ⟨ad351.block, ad351.off + 2, none⟩ = some (.int .i64 ((rd_T39 t340 0).f2.f0)) ∧ w'.cell? ⟨ad351.block, ad351.off + 3, none⟩ = some (.int .i64 ((rd_T39 t340 0).f2.f1)) ∧ w'.cell? ⟨ad351.block, ad351.off + 4, none⟩ = some (.int .u64 ((rd_T39 t340 0).f2.f2)) ∧ w'.cell? ⟨ad351.block, ad351.off + 5, none⟩ = some (.string ((rd_T39 t340 0).f2.f3)) ∧ w'.cell? ⟨ad351.block, ad351.off + 6, none⟩ = some (.int .i64 ((rd_T39 t340 0).f3)) ∧ (convert 34 9 u3).run Tryd.prog w' = .ok (.string (strOfNums x3_1)) w' ∧ (convert 34 9 (.slice A0 l0.length c0)).run Tryd.prog w' = .ok (.string (strOfNums l0)) w') (ds := []) #[false, false, false, false, false, false, false, false, false, false, false, false, false, false, false, false, false, false, false, false, false, false, false, false, false, false, false, false, false, false, false, false, false, false, false, false, false, false, false] (by kernel_rfl) rfl rfl ⟨hx350_0, hx350_1, hx350_2, hx350_3, hx350_4, hx350_5, hx350_6, hx351_0, hx351_1, hx351_2, hx351_3, hx351_4, hx351_5, hx351_6, own_string (P := Tryd.prog) Tryd.underlying34 Tryd.underlying5 Tryd.underlying9 (Kd.own_of_R HO_3.out), Kd.C_string Tryd.underlying34 Tryd.underlying5 Tryd.underlying9 (Kd.C_below HR0.out HB.out)⟩ (fun hHeld => ?_); refine with_tabW falseworklaw16_LexTexts.tab12 falseworklaw16_LexTexts.bits12 (fun HT_ HW_ => ?_)
             generalize w52.drew = w53 at HO_3 HO338 HO344 HB hx350_0 hx350_1 hx350_2 hx350_3 hx350_4 hx350_5 hx350_6 hx351_0 hx351_1 hx351_2 hx351_3 hx351_4 hx351_5 hx351_6 hHeld ⊢
             refine pure_ (i := 0) (N := some 62) (v := ?_) (a' := ?_) #[true, false, false, false, false, false, false, false, false, false, false, false, false, false, false, false, false, false, false, false, false, false, false, false, false, false, false, false, false, false, false, false, false, false, false, false, false, false, false] rfl rfl (any_of HT_.out (by kernel_rfl)) (fun _ _ _ h => h) (Or.inl ⟨by rfl, ?_⟩) ?_ ?_
             rotate_left
             ·intro w'
              go_simp
              with_reducible rfl
             rotate_left
             ·simp only [Act.put, List.setIfInBounds_toArray, List.set_cons_zero, List.set_cons_succ, i64_w, i32_w]
              rfl
             refine one_ (i := 1) (N := some 63) #[true, true, false, false, false, false, false, false, false, false, false, false, false, false, false, false, false, false, false, false, false, false, false, false, false, false, false, false, false, false, false, false, false, false, false, false, false, false, false] rfl rfl (one_of HT_.out (by kernel_rfl)) (by decide) (fun K hK => ?_)
             refine goes_ Tryd.func12 (by kernel_rfl) rfl #[.int .i64 t336] (by rfl) rfl rfl (by (try simp only [List.map_toArray, List.map_cons, List.map_nil]); first | done | rfl | (simp only [List.length_drop, List.length_take]; rfl)) ?_
             with_reducible refine (falseworklaw16_num.calls t336 t348 _ A38.out).mono ?_
             rintro e w' ⟨rfl, ⟨nd, rfl⟩⟩
             refine ⟨_, rfl, ?_⟩
             refine hK.out _ _ ⟨hHeld.1, hHeld.2.1, hHeld.2.2.1, hHeld.2.2.2.1, hHeld.2.2.2.2.1, hHeld.2.2.2.2.2.1, hHeld.2.2.2.2.2.2.1, hHeld.2.2.2.2.2.2.2.1, hHeld.2.2.2.2.2.2.2.2.1, hHeld.2.2.2.2.2.2.2.2.2.1, hHeld.2.2.2.2.2.2.2.2.2.2.1, hHeld.2.2.2.2.2.2.2.2.2.2.2.1, hHeld.2.2.2.2.2.2.2.2.2.2.2.2.1, hHeld.2.2.2.2.2.2.2.2.2.2.2.2.2.1, own_string (P := Tryd.prog) Tryd.underlying34 Tryd.underlying5 Tryd.underlying9 (Kd.own_of_R (by repeat (first | exact HO_3.out | apply Kd.R_drewN | apply Kd.R_drew))), Kd.C_string Tryd.underlying34 Tryd.underlying5 Tryd.underlying9 (Kd.C_below HR0.out (by repeat (first | exact HB.out | apply pw_below_drewN | apply below_drew1)))⟩ (fun hHeld => ?_)
             clear hK K
             refine norm_ (a' := ?_) ?_ ?_
             rotate_left
             ·show Act.put _ (some 63) _ = _
              simp only [Act.put, List.setIfInBounds_toArray, List.set_cons_zero, List.set_cons_succ, i64_w, i32_w]
              rfl
             refine pure_ (i := 2) (N := some 64) (v := ?_) (a' := ?_) #[true, true, true, false, false, false, false, false, false, false, false, false, false, false, false, false, false, false, false, false, false, false, false, false, false, false, false, false, false, false, false, false, false, false, false, false, false, false, false] rfl rfl (any_of HT_.out (by kernel_rfl)) (fun _ _ _ h => h) (Or.inl ⟨by rfl, ?_⟩) ?_ ?_
             rotate_left
             ·intro w'
              go_simp
              with_reducible rfl
             rotate_left
             ·simp only [Act.put, List.setIfInBounds_toArray, List.set_cons_zero, List.set_cons_succ, i64_w, i32_w]
              rfl
             refine pure_ (i := 3) (N := some 65) (v := ?_) (a' := ?_) #[true, true, true, true, false, false, false, false, false, false, false, false, false, false, false, false, false, false, false, false, false, false, false, false, false, false, false, false, false, false, false, false, false, false, false, false, false, false, false] rfl rfl (any_of HT_.out (by kernel_rfl)) (fun _ _ _ h => h) (Or.inl ⟨by rfl, ?_⟩) ?_ ?_
             rotate_left
             ·intro w'
              go_simp
              with_reducible rfl
             rotate_left
             ·simp only [Act.put, List.setIfInBounds_toArray, List.set_cons_zero, List.set_cons_succ, i64_w, i32_w]
              rfl
             refine pure_ (i := 4) (N := some 66) (v := ?_) (a' := ?_) #[true, true, true, true, true, false, false, false, false, false, false, false, false, false, false, false, false, false, false, false, false, false, false, false, false, false, false, false, false, false, false, false, false, false, false, false, false, false, false] rfl rfl (any_of HT_.out (by kernel_rfl)) (fun _ _ _ h => h) (Or.inl ⟨by rfl, ?_⟩) ?_ ?_
             rotate_left
             ·intro w'
              go_simp
              with_reducible rfl
             rotate_left
             ·simp only [Act.put, List.setIfInBounds_toArray, List.set_cons_zero, List.set_cons_succ, i64_w, i32_w]
              rfl
             refine one_ (i := 5) (N := some 67) #[true, true, true, true, true, true, false, false, false, false, false, false, false, false, false, false, false, false, false, false, false, false, false, false, false, false, false, false, false, false, false, false, false, false, false, false, false, false, false] rfl rfl (one_of HT_.out (by kernel_rfl)) (by decide) (fun K hK => ?_)
             refine goes_ Tryd.func12 (by kernel_rfl) rfl #[.int .i64 t342] (by rfl) rfl rfl (by (try simp only [List.map_toArray, List.map_cons, List.map_nil]); first | done | rfl | (simp only [List.length_drop, List.length_take]; rfl)) ?_
             with_reducible refine (falseworklaw16_num.calls t342 t349 _ A40.out).mono ?_
             rintro e w' ⟨rfl, ⟨nd, rfl⟩⟩
             refine ⟨_, rfl, ?_⟩
             obtain ⟨Ao54, co54, eo54⟩ := Kd.R_slice HO338.out
             (first | subst eo54 | (injection eo54 with f1_ f2_ f3_; have f4_ := f1_.symm; have f5_ := f3_.symm; clear f1_ f2_ f3_; subst f4_; subst f5_))
             obtain ⟨Ao55, co55, eo55⟩ := Kd.R_slice HO344.out
             (first | subst eo55 | (injection eo55 with f1_ f2_ f3_; have f4_ := f1_.symm; have f5_ := f3_.symm; clear f1_ f2_ f3_; subst f4_; subst f5_))
             have hcv56 := own_string (P := Tryd.prog) Tryd.underlying34 Tryd.underlying5 Tryd.underlying9 (Kd.own_of_R HO_3.out)
             have hcv57 := Kd.C_string (P := Tryd.prog) (A := A0) (c := c0) Tryd.underlying34 Tryd.underlying5 Tryd.underlying9 (Kd.C_below HR0.out HB.out)
             refine hK.out _ _ ⟨hHeld.1, hHeld.2.1, hHeld.2.2.1, hHeld.2.2.2.1, hHeld.2.2.2.2.1, hHeld.2.2.2.2.2.1, hHeld.2.2.2.2.2.2.1, hHeld.2.2.2.2.2.2.2.1, hHeld.2.2.2.2.2.2.2.2.1, hHeld.2.2.2.2.2.2.2.2.2.1, hHeld.2.2.2.2.2.2.2.2.2.2.1, hHeld.2.2.2.2.2.2.2.2.2.2.2.1, hHeld.2.2.2.2.2.2.2.2.2.2.2.2.1, hHeld.2.2.2.2.2.2.2.2.2.2.2.2.2.1, own_string (P := Tryd.prog) Tryd.underlying34 Tryd.underlying5 Tryd.underlying9 (Kd.own_of_R (by repeat (first | exact HO_3.out | apply Kd.R_drewN | apply Kd.R_drew))), Kd.C_string Tryd.underlying34 Tryd.underlying5 Tryd.underlying9 (Kd.C_below HR0.out (by repeat (first | exact HB.out | apply pw_below_drewN | apply below_drew1)))⟩ (fun hHeld => ?_)
             clear hK K
             refine norm_ (a' := ?_) ?_ ?_
             rotate_left
             ·show Act.put _ (some 67) _ = _
              simp only [Act.put, List.setIfInBounds_toArray, List.set_cons_zero, List.set_cons_succ, i64_w, i32_w]
              rfl
             refine pure_ (i := 6) (N := some 68) (v := ?_) (a' := ?_) #[true, true, true, true, true, true, true, false, false, false, false, false, false, false, false, false, false, false, false, false, false, false, false, false, false, false, false, false, false, false, false, false, false, false, false, false, false, false, false] rfl rfl (any_of HT_.out (by kernel_rfl)) (fun _ _ _ h => h) (Or.inl ⟨by rfl, ?_⟩) ?_ ?_
             rotate_left
             ·intro w'
              go_simp
              with_reducible rfl
             rotate_left
             ·simp only [Act.put, List.setIfInBounds_toArray, List.set_cons_zero, List.set_cons_succ, i64_w, i32_w]
              rfl
             refine pure_ (i := 7) (N := some 69) (v := ?_) (a' := ?_) #[true, true, true, true, true, true, true, true, false, false, false, false, false, false, false, false, false, false, false, false, false, false, false, false, false, false, false, false, false, false, false, false, false, false, false, false, false, false, false] rfl rfl (any_of HT_.out (by kernel_rfl)) (fun _ _ _ h => h) (Or.inl ⟨by rfl, ?_⟩) ?_ ?_
             rotate_left
             ·intro w'
              go_simp
              with_reducible rfl
             rotate_left
             ·simp only [Act.put, List.setIfInBounds_toArray, List.set_cons_zero, List.set_cons_succ, i64_w, i32_w]
              rfl
             refine pure_ (i := 8) (N := some 70) (v := ?_) (a' := ?_) #[true, true, true, true, true, true, true, true, true, false, false, false, false, false, false, false, false, false, false, false, false, false, false, false, false, false, false, false, false, false, false, false, false, false, false, false, false, false, false] rfl rfl (any_of HT_.out (by kernel_rfl)) (fun _ _ _ h => h) (Or.inl ⟨by rfl, ?_⟩) ?_ ?_
             rotate_left
             ·intro w'
              go_simp
              with_reducible rfl
             rotate_left
             ·simp only [Act.put, List.setIfInBounds_toArray, List.set_cons_zero, List.set_cons_succ, i64_w, i32_w]
              rfl
             refine pure_ (i := 9) (N := some 71) (v := ?_) (a' := ?_) #[true, true, true, true, true, true, true, true, true, true, false, false, false, false, false, false, false, false, false, false, false, false, false, false, false, false, false, false, false, false, false, false, false, false, false, false, false, false, false] rfl rfl (any_of HT_.out (by kernel_rfl)) (fun _ _ _ h => h) (Or.inl ⟨by rfl, ?_⟩) ?_ ?_
             rotate_left
             ·intro w'
              go_simp
              with_reducible rfl
             rotate_left
             ·simp only [Act.put, List.setIfInBounds_toArray, List.set_cons_zero, List.set_cons_succ, i64_w, i32_w]
              rfl
             refine pure_ (i := 10) (N := some 72) (v := ?_) (a' := ?_) #[true, true, true, true, true, true, true, true, true, true, true, false, false, false, false, false, false, false, false, false, false, false, false, false, false, false, false, false, false, false, false, false, false, false, false, false, false, false, false] rfl rfl (any_of HT_.out (by kernel_rfl)) (fun _ _ _ h => h) (Or.inl ⟨by rfl, ?_⟩) ?_ ?_
             rotate_left
             ·intro w'
              go_simp
              with_reducible rfl
             rotate_left
             ·simp only [Act.put, List.setIfInBounds_toArray, List.set_cons_zero, List.set_cons_succ, i64_w, i32_w]
              rfl
             refine pure_ (i := 11) (N := some 73) (v := ?_) (a' := ?_) #[true, true, true, true, true, true, true, true, true, true, true, true, false, false, false, false, false, false, false, false, false, false, false, false, false, false, false, false, false, false, false, false, false, false, false, false, false, false, false] rfl rfl (any_of HT_.out (by kernel_rfl)) (fun _ _ _ h => h) (Or.inl ⟨by rfl, ?_⟩) ?_ ?_
             rotate_left
             ·intro w'
              go_simp
              with_reducible rfl
             rotate_left
             ·simp only [Act.put, List.setIfInBounds_toArray, List.set_cons_zero, List.set_cons_succ, i64_w, i32_w]
              rfl
             refine pure_ (i := 12) (N := some 74) (v := ?_) (a' := ?_) #[true, true, true, true, true, true, true, true, true, true, true, true, true, false, false, false, false, false, false, false, false, false, false, false, false, false, false, false, false, false, false, false, false, false, false, false, false, false, false] rfl rfl (any_of HT_.out (by kernel_rfl)) (fun _ _ _ h => h) (Or.inl ⟨by rfl, ?_⟩) ?_ ?_
             rotate_left
             ·intro w'
              go_simp
              with_reducible rfl
             rotate_left
             ·simp only [Act.put, List.setIfInBounds_toArray, List.set_cons_zero, List.set_cons_succ, i64_w, i32_w]
              rfl
             refine pure_ (i := 13) (N := some 75) (v := ?_) (a' := ?_) #[true, true, true, true, true, true, true, true, true, true, true, true, true, true, false, false, false, false, false, false, false, false, false, false, false, false, false, false, false, false, false, false, false, false, false, false, false, false, false] rfl rfl (any_of HT_.out (by kernel_rfl)) (fun _ _ _ h => h) (Or.inl ⟨by rfl, ?_⟩) ?_ ?_
             rotate_left
             ·intro w'
              go_simp
              with_reducible rfl
             rotate_left
             ·simp only [Act.put, List.setIfInBounds_toArray, List.set_cons_zero, List.set_cons_succ, i64_w, i32_w]
              rfl
             refine pure_ (i := 14) (N := some 76) (v := ?_) (a' := ?_) #[true, true, true, true, true, true, true, true, true, true, true, true, true, true, true, false, false, false, false, false, false, false, false, false, false, false, false, false, false, false, false, false, false, false, false, false, false, false, false] rfl rfl (any_of HT_.out (by kernel_rfl)) (fun _ _ _ h => h) (Or.inl ⟨by rfl, ?_⟩) ?_ ?_
             rotate_left
             ·intro w'
              go_simp
              with_reducible rfl
             rotate_left
             ·simp only [Act.put, List.setIfInBounds_toArray, List.set_cons_zero, List.set_cons_succ, i64_w, i32_w]
              rfl
             refine pure_ (i := 15) (N := some 77) (v := ?_) (a' := ?_) #[true, true, true, true, true, true, true, true, true, true, true, true, true, true, true, true, false, false, false, false, false, false, false, false, false, false, false, false, false, false, false, false, false, false, false, false, false, false, false] rfl rfl (any_of HT_.out (by kernel_rfl)) (fun _ _ _ h => h) (Or.inl ⟨by rfl, ?_⟩) ?_ ?_
             rotate_left
             ·intro w'
              go_simp
              with_reducible rfl
             rotate_left
             ·simp only [Act.put, List.setIfInBounds_toArray, List.set_cons_zero, List.set_cons_succ, i64_w, i32_w]
              rfl
             refine pure_ (i := 16) (N := some 78) (v := ?_) (a' := ?_) #[true, true, true, true, true, true, true, true, true, true, true, true, true, true, true, true, true, false, false, false, false, false, false, false, false, false, false, false, false, false, false, false, false, false, false, false, false, false, false] rfl rfl (any_of HT_.out (by kernel_rfl)) (fun _ _ _ h => h) (Or.inl ⟨by rfl, ?_⟩) ?_ ?_
             rotate_left
             ·intro w'
              go_simp
              with_reducible rfl
             rotate_left
             ·simp only [Act.put, List.setIfInBounds_toArray, List.set_cons_zero, List.set_cons_succ, i64_w, i32_w]
              rfl
             refine pure_ (i := 17) (N := some 79) (v := ?_) (a' := ?_) #[true, true, true, true, true, true, true, true, true, true, true, true, true, true, true, true, true, true, false, false, false, false, false, false, false, false, false, false, false, false, false, false, false, false, false, false, false, false, false] rfl rfl (any_of HT_.out (by kernel_rfl)) (fun _ _ _ h => h) (Or.inl ⟨by rfl, ?_⟩) ?_ ?_
             rotate_left
             ·intro w'
              go_simp
              with_reducible rfl
             rotate_left
             ·simp only [Act.put, List.setIfInBounds_toArray, List.set_cons_zero, List.set_cons_succ, i64_w, i32_w]
              rfl
             refine pure_ (i := 18) (N := some 80) (v := ?_) (a' := ?_) #[true, true, true, true, true, true, true, true, true, true, true, true, true, true, true, true, true, true, true, false, false, false, false, false, false, false, false, false, false, false, false, false, false, false, false, false, false, false, false] rfl rfl (any_of HT_.out (by kernel_rfl)) (fun _ _ _ h => h) (Or.inl ⟨by rfl, ?_⟩) ?_ ?_
             rotate_left
             ·intro w'
              go_simp
              with_reducible rfl
             rotate_left
             ·simp only [Act.put, List.setIfInBounds_toArray, List.set_cons_zero, List.set_cons_succ, i64_w, i32_w]
              rfl
             refine pure_ (i := 19) (N := some 81) (v := ?_) (a' := ?_) #[true, true, true, true, true, true, true, true, true, true, true, true, true, true, true, true, true, true, true, true, false, false, false, false, false, false, false, false, false, false, false, false, false, false, false, false, false, false, false] rfl rfl (any_of HT_.out (by kernel_rfl)) (fun _ _ _ h => h) (Or.inl ⟨by rfl, ?_⟩) ?_ ?_
             rotate_left
             ·intro w'
              go_simp
              with_reducible rfl
             rotate_left
             ·simp only [Act.put, List.setIfInBounds_toArray, List.set_cons_zero, List.set_cons_succ, i64_w, i32_w]
              rfl
             refine pure_ (i := 20) (N := some 82) (v := ?_) (a' := ?_) #[true, true, true, true, true, true, true, true, true, true, true, true, true, true, true, true, true, true, true, true, true, false, false, false, false, false, false, false, false, false, false, false, false, false, false, false, false, false, false] rfl rfl (any_of HT_.out (by kernel_rfl)) (fun _ _ _ h => h) (Or.inl ⟨by rfl, ?_⟩) ?_ ?_
             rotate_left
             ·intro w'
              go_simp
              with_reducible rfl
             rotate_left
             ·simp only [Act.put, List.setIfInBounds_toArray, List.set_cons_zero, List.set_cons_succ, i64_w, i32_w]
              rfl
             refine pure_ (i := 21) (N := some 83) (v := ?_) (a' := ?_) #[true, true, true, true, true, true, true, true, true, true, true, true, true, true, true, true, true, true, true, true, true, true, false, false, false, false, false, false, false, false, false, false, false, false, false, false, false, false, false] rfl rfl (any_of HT_.out (by kernel_rfl)) (fun _ _ _ h => h) (Or.inl ⟨by rfl, ?_⟩) ?_ ?_
             rotate_left
             ·intro w'
              go_simp
              with_reducible rfl
             rotate_left
             ·simp only [Act.put, List.setIfInBounds_toArray, List.set_cons_zero, List.set_cons_succ, i64_w, i32_w]
              rfl
             refine pure_ (i := 23) (N := some 85) (v := ?_) (a' := ?_) #[true, true, true, true, true, true, true, true, true, true, true, true, true, true, true, true, true, true, true, true, true, true, false, true, false, false, false, false, false, false, false, false, false, false, false, false, false, false, false] rfl rfl (any_of HT_.out (by kernel_rfl)) (fun _ _ _ h => h) (Or.inl ⟨by rfl, ?_⟩) ?_ ?_
             rotate_left
             ·intro w'
              go_simp
              with_reducible rfl
             rotate_left
             ·simp only [Act.put, List.setIfInBounds_toArray, List.set_cons_zero, List.set_cons_succ, i64_w, i32_w]
              rfl
             refine take_ (i := 24) (N := some 86) (v := ?_) (a' := ?_) #[true, true, true, true, true, true, true, true, true, true, true, true, true, true, true, true, true, true, true, true, true, true, false, true, true, false, false, false, false, false, false, false, false, false, false, false, false, false, false] rfl rfl (take_ofW HT_.out HW_.out (by kernel_rfl)) (fun _ _ _ h => h) (Or.inl ⟨by rfl, ?_⟩) hHeld ?_ ?_
             rotate_left
             ·rintro w' ⟨s0, s1, s2, s3, s4, s5, s6, s7, s8, s9, s10, s11, s12, s13, sc1, sc2⟩
              clear s0 s1 s2 s3 s4 s5 s6 s7 s8 s9 s10 s11 s12 s13
              go_simp; (try rw [sc1]); (try rw [sc2]); go_simp
              all_goals (with_reducible rfl)
             rotate_left
             ·simp only [Act.put, List.setIfInBounds_toArray, List.set_cons_zero, List.set_cons_succ, i64_w, i32_w]
              rfl
             refine pure_ (i := 25) (N := some 87) (v := ?_) (a' := ?_) #[true, true, true, true, true, true, true, true, true, true, true, true, true, true, true, true, true, true, true, true, true, true, false, true, true, true, false, false, false, false, false, false, false, false, false, false, false, false, false] rfl rfl (any_of HT_.out (by kernel_rfl)) (fun _ _ _ h => h) (Or.inl ⟨by rfl, ?_⟩) ?_ ?_
             rotate_left
             ·intro w'
              go_simp
              with_reducible rfl
             rotate_left
             ·simp only [Act.put, List.setIfInBounds_toArray, List.set_cons_zero, List.set_cons_succ, i64_w, i32_w]
              rfl
             refine take_ (i := 22) (N := some 84) (v := ?_) (a' := ?_) #[true, true, true, true, true, true, true, true, true, true, true, true, true, true, true, true, true, true, true, true, true, true, true, true, true, true, false, false, false, false, false, false, false, false, false, false, false, false, false] rfl rfl (take_ofW HT_.out HW_.out (by kernel_rfl)) (fun _ _ _ h => h) (Or.inl ⟨by rfl, ?_⟩) hHeld ?_ ?_
             rotate_left
             ·rintro w' ⟨s0, s1, s2, s3, s4, s5, s6, s7, s8, s9, s10, s11, s12, s13⟩
              go_simp
              with_reducible rfl
             rotate_left
             ·simp only [Act.put, List.setIfInBounds_toArray, List.set_cons_zero, List.set_cons_succ, i64_w, i32_w]
              rfl
             refine pure_ (i := 26) (N := some 88) (v := ?_) (a' := ?_) #[true, true, true, true, true, true, true, true, true, true, true, true, true, true, true, true, true, true, true, true, true, true, true, true, true, true, true, false, false, false, false, false, false, false, false, false, false, false, false] rfl rfl (any_of HT_.out (by kernel_rfl)) (fun _ _ _ h => h) (Or.inl ⟨by rfl, ?_⟩) ?_ ?_
             rotate_left
             ·intro w'
              go_simp
              with_reducible rfl
             rotate_left
             ·simp only [Act.put, List.setIfInBounds_toArray, List.set_cons_zero, List.set_cons_succ, i64_w, i32_w]
              rfl
             refine pure_ (i := 27) (N := some 89) (v := ?_) (a' := ?_) #[true, true, true, true, true, true, true, true, true, true, true, true, true, true, true, true, true, true, true, true, true, true, true, true, true, true, true, true, false, false, false, false, false, false, false, false, false, false, false] rfl rfl (any_of HT_.out (by kernel_rfl)) (fun _ _ _ h => h) (Or.inl ⟨by rfl, ?_⟩) ?_ ?_
             rotate_left
             ·intro w'
              go_simp
              with_reducible rfl
             rotate_left
             ·simp only [Act.put, List.setIfInBounds_toArray, List.set_cons_zero, List.set_cons_succ, i64_w, i32_w]
              rfl
             refine pure_ (i := 28) (N := some 90) (v := ?_) (a' := ?_) #[true, true, true, true, true, true, true, true, true, true, true, true, true, true, true, true, true, true, true, true, true, true, true, true, true, true, true, true, true, false, false, false, false, false, false, false, false, false, false] rfl rfl (any_of HT_.out (by kernel_rfl)) (fun _ _ _ h => h) (Or.inl ⟨by rfl, ?_⟩) ?_ ?_
             rotate_left
             ·intro w'
              go_simp
              with_reducible rfl
             rotate_left
             ·simp only [Act.put, List.setIfInBounds_toArray, List.set_cons_zero, List.set_cons_succ, i64_w, i32_w]
              rfl
             refine pure_ (i := 29) (N := some 91) (v := ?_) (a' := ?_) #[true, true, true, true, true, true, true, true, true, true, true, true, true, true, true, true, true, true, true, true, true, true, true, true, true, true, true, true, true, true, false, false, false, false, false, false, false, false, false] rfl rfl (any_of HT_.out (by kernel_rfl)) (fun _ _ _ h => h) (Or.inl ⟨by rfl, ?_⟩) ?_ ?_
             rotate_left
             ·intro w'
              go_simp
              with_reducible rfl
             rotate_left
             ·simp only [Act.put, List.setIfInBounds_toArray, List.set_cons_zero, List.set_cons_succ, i64_w, i32_w]
              rfl
             refine pure_ (i := 30) (N := some 92) (v := ?_) (a' := ?_) #[true, true, true, true, true, true, true, true, true, true, true, true, true, true, true, true, true, true, true, true, true, true, true, true, true, true, true, true, true, true, true, false, false, false, false, false, false, false, false] rfl rfl (any_of HT_.out (by kernel_rfl)) (fun _ _ _ h => h) (Or.inl ⟨by rfl, ?_⟩) ?_ ?_
             rotate_left
             ·intro w'
              go_simp
              with_reducible rfl
             rotate_left
             ·simp only [Act.put, List.setIfInBounds_toArray, List.set_cons_zero, List.set_cons_succ, i64_w, i32_w]
              rfl
             refine pure_ (i := 31) (N := some 93) (v := ?_) (a' := ?_) #[true, true, true, true, true, true, true, true, true, true, true, true, true, true, true, true, true, true, true, true, true, true, true, true, true, true, true, true, true, true, true, true, false, false, false, false, false, false, false] rfl rfl (any_of HT_.out (by kernel_rfl)) (fun _ _ _ h => h) (Or.inl ⟨by rfl, ?_⟩) ?_ ?_
             rotate_left
             ·intro w'
              go_simp
              with_reducible rfl
             rotate_left
             ·simp only [Act.put, List.setIfInBounds_toArray, List.set_cons_zero, List.set_cons_succ, i64_w, i32_w]
              rfl
             refine pure_ (i := 33) (N := some 95) (v := ?_) (a' := ?_) #[true, true, true, true, true, true, true, true, true, true, true, true, true, true, true, true, true, true, true, true, true, true, true, true, true, true, true, true, true, true, true, true, false, true, false, false, false, false, false] rfl rfl (any_of HT_.out (by kernel_rfl)) (fun _ _ _ h => h) (Or.inl ⟨by rfl, ?_⟩) ?_ ?_
             rotate_left
             ·intro w'
              go_simp
              with_reducible rfl
             rotate_left
             ·simp only [Act.put, List.setIfInBounds_toArray, List.set_cons_zero, List.set_cons_succ, i64_w, i32_w]
              rfl
             refine take_ (i := 34) (N := some 96) (v := ?_) (a' := ?_) #[true, true, true, true, true, true, true, true, true, true, true, true, true, true, true, true, true, true, true, true, true, true, true, true, true, true, true, true, true, true, true, true, false, true, true, false, false, false, false] rfl rfl (take_ofW HT_.out HW_.out (by kernel_rfl)) (fun _ _ _ h => h) (Or.inl ⟨by rfl, ?_⟩) hHeld ?_ ?_
             rotate_left
             ·rintro w' ⟨s0, s1, s2, s3, s4, s5, s6, s7, s8, s9, s10, s11, s12, s13, sc1, sc2⟩
              clear s0 s1 s2 s3 s4 s5 s6 s7 s8 s9 s10 s11 s12 s13
              go_simp; (try rw [sc1]); (try rw [sc2]); go_simp
              all_goals (with_reducible rfl)
             rotate_left
             ·simp only [Act.put, List.setIfInBounds_toArray, List.set_cons_zero, List.set_cons_succ, i64_w, i32_w]
              rfl
             refine pure_ (i := 35) (N := some 97) (v := ?_) (a' := ?_) #[true, true, true, true, true, true, true, true, true, true, true, true, true, true, true, true, true, true, true, true, true, true, true, true, true, true, true, true, true, true, true, true, false, true, true, true, false, false, false] rfl rfl (any_of HT_.out (by kernel_rfl)) (fun _ _ _ h => h) (Or.inl ⟨by rfl, ?_⟩) ?_ ?_
             rotate_left
             ·intro w'
              go_simp
              with_reducible rfl
             rotate_left
             ·simp only [Act.put, List.setIfInBounds_toArray, List.set_cons_zero, List.set_cons_succ, i64_w, i32_w]
              rfl
             refine take_ (i := 32) (N := some 94) (v := ?_) (a' := ?_) #[true, true, true, true, true, true, true, true, true, true, true, true, true, true, true, true, true, true, true, true, true, true, true, true, true, true, true, true, true, true, true, true, true, true, true, true, false, false, false] rfl rfl (take_ofW HT_.out HW_.out (by kernel_rfl)) (fun _ _ _ h => h) (Or.inl ⟨by rfl, ?_⟩) hHeld ?_ ?_
             rotate_left
             ·rintro w' ⟨s0, s1, s2, s3, s4, s5, s6, s7, s8, s9, s10, s11, s12, s13⟩
              go_simp
              with_reducible rfl
             rotate_left
             ·simp only [Act.put, List.setIfInBounds_toArray, List.set_cons_zero, List.set_cons_succ, i64_w, i32_w]
              rfl
             refine pure_ (i := 36) (N := some 98) (v := ?_) (a' := ?_) #[true, true, true, true, true, true, true, true, true, true, true, true, true, true, true, true, true, true, true, true, true, true, true, true, true, true, true, true, true, true, true, true, true, true, true, true, true, false, false] rfl rfl (any_of HT_.out (by kernel_rfl)) (fun _ _ _ h => h) (Or.inl ⟨by rfl, ?_⟩) ?_ ?_
             rotate_left
             ·intro w'
              go_simp
              with_reducible rfl
             rotate_left
             ·simp only [Act.put, List.setIfInBounds_toArray, List.set_cons_zero, List.set_cons_succ, i64_w, i32_w]
              rfl
             refine pure_ (i := 37) (N := some 99) (v := ?_) (a' := ?_) #[true, true, true, true, true, true, true, true, true, true, true, true, true, true, true, true, true, true, true, true, true, true, true, true, true, true, true, true, true, true, true, true, true, true, true, true, true, true, false] rfl rfl (any_of HT_.out (by kernel_rfl)) (fun _ _ _ h => h) (Or.inl ⟨by rfl, ?_⟩) ?_ ?_
             rotate_left
             ·intro w'
              go_simp
              with_reducible rfl
             rotate_left
             ·simp only [Act.put, List.setIfInBounds_toArray, List.set_cons_zero, List.set_cons_succ, i64_w, i32_w]
              rfl
             refine pure_ (i := 38) (N := some 2) (v := ?_) (a' := ?_) #[true, true, true, true, true, true, true, true, true, true, true, true, true, true, true, true, true, true, true, true, true, true, true, true, true, true, true, true, true, true, true, true, true, true, true, true, true, true, true] rfl rfl (any_of HT_.out (by kernel_rfl)) (fun _ _ _ h => h) (Or.inl ⟨by rfl, ?_⟩) ?_ ?_
             rotate_left
             ·intro w'
              go_simp
              with_reducible rfl
             rotate_left
             ·simp only [Act.put, List.setIfInBounds_toArray, List.set_cons_zero, List.set_cons_succ, i64_w, i32_w]
              rfl
             refine done_ (done_of HT_.out (by kernel_rfl)) ?_
             try go_wp2
             go_ret
             exact ⟨by first | rfl | (simp [errW_none, errW_some] <;> rfl) | (simp [*, errW_none, errW_some] <;> rfl), by repeat (first | (with_reducible first | exact HB.out | apply below_alloc | apply pw_below_drewN | apply below_drew1) | exact HB.out)⟩
            ·rw [if_neg c46] at H
             first | (cases H; done) | exact absurd HR_.out (by rw [← Option.some.inj H]; decide)
           ·rw [if_neg c45] at H
            first | (cases H; done) | exact absurd HR_.out (by rw [← Option.some.inj H]; decide)
          ·rw [if_neg c44] at H
           first | (cases H; done) | exact absurd HR_.out (by rw [← Option.some.inj H]; decide)
         ·rw [if_neg c43] at H
          first | (cases H; done) | exact absurd HR_.out (by rw [← Option.some.inj H]; decide)
        ·rw [if_neg c42] at H
         first | (cases H; done) | exact absurd HR_.out (by rw [← Option.some.inj H]; decide)
       ·rw [if_neg c41] at H
        first | (cases H; done) | exact absurd HR_.out (by rw [← Option.some.inj H]; decide)
      ·rw [if_neg c39] at H
       first | (cases H; done) | exact absurd HR_.out (by rw [← Option.some.inj H]; decide)
end Go.Proofs.YtjehfmimbbdnkaaDoor.L
set_option linter.unusedVariables false
namespace Go.Proofs.YtjehfmimbbdnkaaDoor.LexPure
open Go.RowKit Go.Proofs.YtjehfmimbbdnkaaDoorW.PrintWords Go.Proofs.YtjehfmimbbdnkaaDoorW.PrintLast Go.Proofs.YtjehfmimbbdnkaaDoorW.PrintMore
open Go.Proofs.YtjehfmimbbdnkaaDoor.L Go.Proofs.YtjehfmimbbdnkaaDoor
def dbl : List UInt8 → List UInt8
  | [] => []
  | c :: l => if c = 39 then 39 :: 39 :: dbl l else c :: dbl l
theorem dbl_len : ∀ l, (dbl l).length ≤ 2 * l.length
  | [] => Nat.le_refl _
  | c :: l => by
    have := dbl_len l
    unfold dbl
    split <;> simp <;> omega
theorem textS_dbl : ∀ l : List UInt8, (∀ c ∈ l, 32 ≤ c.toNat ∧ c.toNat ≤ 126) → textS (dbl l ++ [39]) = some (l, (dbl l).length + 1)
  | [], _ => rfl
  | c :: l, h => by
    have hc := h c (by simp)
    have ih := textS_dbl l (fun d hd => h d (by simp [hd]))
    unfold dbl
    by_cases hq : c = 39
    · rw [if_pos hq, hq]
      show textS (39 :: 39 :: (dbl l ++ [39])) = _
      have e : textS (39 :: 39 :: (dbl l ++ [39])) = (textS (dbl l ++ [39])).map fun x => (39 :: x.1, x.2 + 2) := by simp [textS]
      rw [e, ih]
      simp
    · rw [if_neg hq]
      have e : textS (c :: (dbl l ++ [39])) = if c < 32 ∨ 126 < c then none else (textS (dbl l ++ [39])).map fun x => (c :: x.1, x.2 + 1) := by
        rw [textS.eq_def]; simp only [if_neg hq]
      have l1 : (c < 32) ↔ c.toNat < 32 := UInt8.lt_iff_toNat_lt
      have l2 : (126 < c) ↔ 126 < c.toNat := UInt8.lt_iff_toNat_lt
      show textS (c :: (dbl l ++ [39])) = _
      rw [e, if_neg (by rw [l1, l2]; omega), ih]
      simp
theorem value_loop (t : ByteArray) (ht : t.size ≤ 1000) (y0 y1 y2 : Int) : ∀ (m k i : Nat) (acc : List Int), i + m = t.size → acc.length ≤ 2 * i + 1 → m < k →
    falseworkref16_Value.l0 k acc (i : Int) y0 y1 y2 t = some (strOfNums (acc ++ (dbl ((L8 t).drop i) ++ [39]).map fun c : UInt8 => (c.toNat : Int)))
  | _, 0, _, _, _, _, hk => by omega
  | 0, k + 1, i, acc, h, ha, hk => by
    have : (L8 t).drop i = [] := List.drop_eq_nil_of_le (by rw [L8_len]; omega)
    rw [this]
    unfold falseworkref16_Value.l0
    rw [if_neg (by omega), if_pos (by omega)]
    rfl
  | m + 1, k + 1, i, acc, h, ha, hk => by
    have hi : i < t.size := by omega
    have hw : wrap64 ((i : Int) + 1) = ((i + 1 : Nat) : Int) := by rw [wrap_small (by omega) (by omega)]; omega
    have hb := bt_L8 t i hi
    rw [drop_L8 t i hi]
    generalize (L8 t)[i]'(by rw [L8_len]; exact hi) = c at hb ⊢
    unfold falseworkref16_Value.l0
    rw [if_pos (by omega), if_pos (by omega), if_pos (by omega), hb, Option.bind_some, hw]
    by_cases hq : c = 39
    · have hz : (c.toNat : Int) = 39 := by rw [hq]; rfl
      have ih := value_loop t ht y0 y1 y2 m k (i + 1) (acc ++ [39] ++ [39]) (by omega) (by simp; omega) (by omega)
      rw [if_pos hz, if_pos (by rw [List.length_append]; simp; omega), hz, ih]
      have e : dbl (c :: (L8 t).drop (i + 1)) = 39 :: 39 :: dbl ((L8 t).drop (i + 1)) := by rw [dbl, if_pos hq]
      rw [e]
      simp
    · have hz : ¬ (c.toNat : Int) = 39 := fun e => hq (UInt8.toNat_inj.1 (by show _ = 39; omega))
      have ih := value_loop t ht y0 y1 y2 m k (i + 1) (acc ++ [(c.toNat : Int)]) (by omega) (by simp; omega) (by omega)
      rw [if_neg hz, ih]
      have e : dbl (c :: (L8 t).drop (i + 1)) = c :: dbl ((L8 t).drop (i + 1)) := by rw [dbl, if_neg hq]
      rw [e]
      simp
theorem value_text (t : ByteArray) (ht : t.size ≤ 1000) (k : Nat) (hk : 2000 < k) : ∃ r, falseworkref16_Value.f k 5 0 0 t = some r ∧ L8 r = 39 :: (dbl (L8 t) ++ [39]) := by
  unfold falseworkref16_Value.f
  rw [if_neg (by decide), if_neg (by decide), if_neg (by decide), if_neg (by decide), if_pos rfl]
  refine ⟨_, value_loop t ht 5 0 0 t.size k 0 [39] (by omega) (by simp) (by omega), ?_⟩
  rw [L8_strs2, List.map_append, map_back, List.drop_zero]
  rfl
theorem value_bytes (t : ByteArray) (ht : t.size ≤ 1000) (k : Nat) (hk : 2000 < k) : ∃ r, falseworkref16_Value.f k 4 0 0 t = some r ∧ L8 r = 120 :: 39 :: (hexs (L8 t) ++ [39]) := by
  obtain ⟨x, h3, h4⟩ := hex_f t ht k (by omega)
  have hx : x.size = 2 * t.size := by rw [size_of x _ h4, hexs_len, L8_len]
  unfold falseworkref16_Value.f
  rw [if_neg (by decide), if_neg (by decide), if_neg (by decide), if_pos rfl, h3, Option.bind_some, if_pos (by omega), if_pos (by rw [ByteArray.size_append, hx]; show 2 + _ + 1 ≤ _; omega)]
  refine ⟨_, rfl, ?_⟩
  rw [L8_app2, L8_app2, h4]
  rfl
theorem text_one (u : ByteArray) (l : List UInt8) (h : L8 u = 39 :: l) : oneR u = textR u [] 1 (textS ((L8 u).drop 1)) := by
  have h0 : bt u 0 = 39 := bt0 u 39 l h
  unfold oneR
  rw [h0, if_neg (by omega), if_neg (by omega), if_neg (by omega), if_pos rfl]
theorem text_tok (u : ByteArray) (l : List UInt8) (h : L8 u = 39 :: (dbl l ++ [39])) (hl : ∀ c ∈ l, 32 ≤ c.toNat ∧ c.toNat ≤ 126) :
    oneR u = if 40 < l.length then none8 else (3, u, 5, 0, 0, strOfNums (l.map fun c => (c.toNat : Int)), 0, (u.size : Int)) := by
  have hz : u.size = 1 + ((dbl l).length + 1) := by rw [size_of u _ h]; simp; omega
  rw [text_one u _ h, h]
  show textR u [] 1 (textS (dbl l ++ [39])) = _
  rw [textS_dbl l hl]
  show (if 40 < 0 + l.length then none8 else (3, u.extract 0 (1 + ((dbl l).length + 1)), 5, 0, 0, strOfNums ([] ++ l.map fun c => (c.toNat : Int)), 0, ((1 + ((dbl l).length + 1) : Nat) : Int))) = _
  rw [Nat.zero_add, ← hz, ext_all]
  rfl
theorem bytes_tok (u : ByteArray) (l : List UInt8) (h : L8 u = 120 :: 39 :: (hexs l ++ [39])) :
    oneR u = if 40 < l.length then none8 else (3, u, 4, 0, 0, strOfNums (l.map fun c => (c.toNat : Int)), 0, (u.size : Int)) := by
  obtain ⟨s1, s2, s3, s4, s5, s6⟩ := coded_shape u 120 _ h (hexs_hex l)
  have hl := hexs_len l
  rw [coded_one u 120 _ h (.inl rfl)]
  have s5' : bt u 0 = 120 := s5
  unfold codedR
  rw [s1, s2, if_neg (by omega), if_neg (fun x => x s4), if_neg (by rw [s5']; decide), hexs_pairs, show 2 + (hexs l).length + 1 = u.size from by omega, ext_all]
  by_cases h4 : 40 < l.length
  · rw [if_pos (.inr (by omega)), if_pos h4]
  · rw [if_neg (by omega), if_neg h4]
def txt (l : List Int) : List Int := l.map fun x => 32 + x % 95
theorem texts_loop (l : List Int) (hl : l.length ≤ 60) (hb : ∀ x ∈ l, 0 ≤ x ∧ x < 256) (R : Option Bool) (K : Nat)
    (H : ∀ k, K ≤ k → falseworklaw16_LexTexts.l0 (k + 1) l (txt l) (l.length : Int) = R) : ∀ (m k i : Nat), i + m = l.length → K + m < k → falseworklaw16_LexTexts.l0 k l ((txt l).take i) (i : Int) = R
  | _, 0, _, _, hk => by omega
  | 0, k + 1, i, h, hk => by
    have e : (txt l).take i = txt l := List.take_of_length_le (by unfold txt; rw [List.length_map]; omega)
    have hi : i = l.length := by omega
    rw [e, hi]
    exact H k (by omega)
  | m + 1, k + 1, i, h, hk => by
    have hi : i < l.length := by omega
    have hw : wrap64 ((i : Int) + 1) = ((i + 1 : Nat) : Int) := by rw [wrap_small (by omega) (by omega)]; omega
    have hr : rd l (i : Int) = l[i] := by unfold rd; simp [List.getD, hi]
    have hx := hb l[i] (List.getElem_mem _)
    have hv : (32 + Int.tmod l[i] 95) % 256 = 32 + l[i] % 95 := by rw [Int.tmod_eq_emod_of_nonneg hx.1]; omega
    have ht : (txt l).take (i + 1) = (txt l).take i ++ [32 + l[i] % 95] := by
      unfold txt
      rw [List.take_succ_eq_append_getElem (by rw [List.length_map]; exact hi), List.getElem_map]
    have hlen : ((txt l).take i).length ≤ 60 := by rw [List.length_take]; unfold txt; rw [List.length_map]; omega
    have ih := texts_loop l hl hb R K H m k (i + 1) (by omega) (by omega)
    unfold falseworklaw16_LexTexts.l0
    rw [if_pos (by omega), if_pos (by omega), if_pos (by omega), hr, hv, hw, ← ht]
    exact ih
theorem strs_back (l : List Int) (hb : ∀ x ∈ l, 0 ≤ x ∧ x < 256) : (L8 (strOfNums l)).map (fun c => (c.toNat : Int)) = l := by
  rw [L8_strs2, List.map_map]
  have : ∀ x ∈ l, ((fun c : UInt8 => (c.toNat : Int)) ∘ fun n : Int => UInt8.ofNat n.toNat) x = x := by
    intro x hx
    have := hb x hx
    show ((UInt8.ofNat x.toNat).toNat : Int) = x
    rw [UInt8.toNat_ofNat', Nat.mod_eq_of_lt (by omega)]
    omega
  exact (List.map_congr_left this).trans (List.map_id'' (fun _ => rfl) l)
theorem texts_true (l : List Int) (hb : ∀ x ∈ l, 0 ≤ x ∧ x < 256) (k : Nat) (hk : 6000 < k) : falseworklaw16_LexTexts.f k l = some true := by
  unfold falseworklaw16_LexTexts.f
  by_cases h60 : 60 < l.length
  · rw [if_pos (by omega), awake_any k (by omega)]
    rfl
  · rw [if_neg (by omega)]
    have hT : ∀ x ∈ txt l, 0 ≤ x ∧ x < 256 := by
      intro x hx
      unfold txt at hx
      obtain ⟨y, hy, rfl⟩ := List.mem_map.1 hx
      have := hb y hy
      omega
    have hTl : (txt l).length = l.length := by unfold txt; rw [List.length_map]
    have hs1 : (strOfNums (txt l)).size = l.length := by rw [strOfNums_size, hTl]
    have hs2 : (strOfNums l).size = l.length := strOfNums_size l
    refine texts_loop l (by omega) hb (some true) 5900 (fun k hk => ?_) l.length k 0 (by omega) (by omega)
    obtain ⟨r1, a1, a2⟩ := value_text (strOfNums (txt l)) (by omega) k (by omega)
    obtain ⟨r2, b1, b2⟩ := value_bytes (strOfNums l) (by omega) k (by omega)
    have hc1 : ∀ c ∈ L8 (strOfNums (txt l)), 32 ≤ c.toNat ∧ c.toNat ≤ 126 := by
      intro c hc
      rw [L8_strs2] at hc
      obtain ⟨x, hx, rfl⟩ := List.mem_map.1 hc
      unfold txt at hx
      obtain ⟨y, hy, rfl⟩ := List.mem_map.1 hx
      have := hb y hy
      rw [UInt8.toNat_ofNat', Nat.mod_eq_of_lt (by omega)]
      omega
    have hl1 : (L8 (strOfNums (txt l))).length = l.length := by rw [L8_len, hs1]
    have hl2 : (L8 (strOfNums l)).length = l.length := by rw [L8_len, hs2]
    have hd := dbl_len (L8 (strOfNums (txt l)))
    have z1 : r1.size ≤ 130 ∧ 0 < r1.size := by rw [size_of r1 _ a2]; simp; omega
    have z2 : r2.size ≤ 130 ∧ 0 < r2.size := by rw [size_of r2 _ b2]; simp [hexs_len]; omega
    have t1 := text_tok r1 _ a2 hc1
    have t2 := bytes_tok r2 _ b2
    rw [hl1, strs_back _ hT] at t1
    rw [hl2, strs_back _ hb] at t2
    have bl1 := blank0 r1 39 _ a2 (by decide)
    have bl2 := blank0 r2 120 _ b2 (by decide)
    unfold falseworklaw16_LexTexts.l0
    rw [if_neg (by omega), a1, Option.bind_some]
    by_cases h40 : 40 < l.length
    · rw [if_pos h40] at t1 t2
      have L1 := lex_f_bad r1 k (by omega) z1.2 (by omega) bl1 (by rw [t1]; rfl)
      have L2 := lex_f_bad r2 k (by omega) z2.2 (by omega) bl2 (by rw [t2]; rfl)
      rw [L1, Option.bind_some, b1, Option.bind_some, L2, Option.bind_some, if_pos (by omega)]
      simp [falseworklaw16_num.f, awake_any k (by omega)]
    · rw [if_neg h40] at t1 t2
      have L1 := lex_f_single r1 k (by omega) z1.2 (by omega) bl1 (by rw [t1])
      have L2 := lex_f_single r2 k (by omega) z2.2 (by omega) bl2 (by rw [t2])
      rw [t1] at L1
      rw [t2] at L2
      rw [L1, Option.bind_some, b1, Option.bind_some, L2, Option.bind_some, if_neg (by omega)]
      have e1 : ∀ (u : ByteArray) (kd : Int) (v : ByteArray), rd_T39 [tokOf (3, u, kd, 0, 0, v, 0, (u.size : Int)) 0, endTok u] 0 = ⟨3, u, ⟨kd, 0, 0, v⟩, ((0 : Nat) : Int)⟩ := fun _ _ _ => rfl
      simp [falseworklaw16_num.f, e1]
theorem texts_all (l : List Int) (hb : ∀ x ∈ l, 0 ≤ x ∧ x < 256) : ∃ k, falseworklaw16_LexTexts.f k l = some true := ⟨6001, texts_true l hb 6001 (by decide)⟩
end Go.Proofs.YtjehfmimbbdnkaaDoor.LexPure
