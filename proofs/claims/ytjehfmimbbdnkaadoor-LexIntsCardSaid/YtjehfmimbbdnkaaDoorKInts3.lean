/- Own texts of this session, packed by its program wip/pp/pack.py: lemmas and walks of functions. -/
import Derived.Lib.ParseIntBCases
import Derived.Test.YtjehfmimbbdnkaaDoorKInts2
namespace Go.Proofs.YtjehfmimbbdnkaaDoor.L
open Go.RowKit Go.Proofs.YtjehfmimbbdnkaaDoorW.PrintWords Go.Proofs.YtjehfmimbbdnkaaDoorW.PrintLast Go.Proofs.YtjehfmimbbdnkaaDoorW.PrintMore
attribute [local go_sem] max2_int min2_int max_two min_two max_three min_three max_four min_four
set_option linter.unusedVariables false
set_option linter.unusedSimpArgs false
attribute [local go_sem high] eqA37
def falseworklaw16_LexInts.j0 : Nat → Int → ByteArray → List (S39) → Int → Int → ByteArray → Option (Bool)
 | 0, _, _, _, _, _, _ => none
 | k + 1, x0, x5, x6, x8, x11, x12 => (lex_Lex.f k x12).bind fun bt383 => ((falseworklaw16_num.f x8).bind fun t388 => (if t388 = 0 then (if (x6.length : Int) = 2 then (if 0 < (x6.length : Int) then (if (((rd_T39 x6 0).f2.f0) == 2 && (((rd_T39 x6 0).f2.f1) == x0 && (((rd_T39 x6 0).f2.f2) == 0 && ((((rd_T39 x6 0).f2.f3).toList) == ([] : List UInt8))))) = true then (if ((rd_T39 x6 0).f1).toList = x5.toList then ((falseworklaw16_num.f x11).bind fun t391 => (if t391 = 3 then ((falseworklaw16_num.f bt383.2.2).bind fun t392 => (some (t392 == 3))) else (some false))) else (some false)) else (some false)) else (none)) else (some false)) else (some false)))
def falseworklaw16_LexInts.f (k : Nat) (a0 : Int) (a1 : Int) : Option (Bool) := (falseworkref16_Digits.f k a0).bind fun t369 => ((lex_Lex.f k t369).bind fun bt370 => ((some (([(97 + (Int.tmod a1 26)) % 256] : List Int) : List Int)).bind fun y375 => (if t369.size + (strOfNums y375).size ≤ 9223372036854775807 then ((lex_Lex.f k (t369 ++ (strOfNums y375))).bind fun bt378 => (if 1 + t369.size ≤ 9223372036854775807 then (if a0 < 0 then (if 1 ≤ (t369.size : Int) then (if 2 + (t369.extract 1 t369.size).size ≤ 9223372036854775807 then (falseworklaw16_LexInts.j0 k a0 t369 bt370.1 bt370.2.2 bt378.2.2 ((⟨#[45, 48]⟩ : ByteArray) ++ (t369.extract 1 t369.size))) else (none)) else (none)) else (falseworklaw16_LexInts.j0 k a0 t369 bt370.1 bt370.2.2 bt378.2.2 ((⟨#[48]⟩ : ByteArray) ++ t369))) else (none))) else (none))))
theorem falseworklaw16_LexInts.mono_l : ∀ k, (∀ y0 y1 y2 y3 y4 y5, LeO (falseworklaw16_LexInts.j0 k y0 y1 y2 y3 y4 y5) (falseworklaw16_LexInts.j0 (k + 1) y0 y1 y2 y3 y4 y5))
 | 0 => fun _ _ _ _ _ _ r h => by simp [falseworklaw16_LexInts.j0] at h
 | k + 1 => by
  have ih0 := falseworklaw16_LexInts.mono_l k
  ·intro y0 y1 y2 y3 y4 y5
   unfold falseworklaw16_LexInts.j0
   repeat' first
   | (with_reducible exact ih0 _ _ _ _ _ _)
   | (with_reducible exact falseworkref16_Digits.mono _ _)
   | (with_reducible exact lex_Lex.mono _ _)
   | (with_reducible exact LeO.refl _)
   | (with_reducible exact LeO.none _)
   | (with_reducible refine LeO.ite ?_ ?_)
   | (with_reducible refine LeO.bind ?_ (fun _ => ?_))
   | exact ih0 _ _ _ _ _ _
   | exact falseworkref16_Digits.mono _ _
   | exact lex_Lex.mono _ _
   | exact LeO.none _
   | refine LeO.ite ?_ ?_
   | refine LeO.bind ?_ (fun _ => ?_)
theorem falseworklaw16_LexInts.mono : ∀ a0 a1 k, LeO (falseworklaw16_LexInts.f k a0 a1) (falseworklaw16_LexInts.f (k + 1) a0 a1) := by
 intro a0 a1 k
 have ih0 := falseworklaw16_LexInts.mono_l k
 unfold falseworklaw16_LexInts.f
 repeat' first
   | (with_reducible exact ih0 _ _ _ _ _ _)
   | (with_reducible exact falseworkref16_Digits.mono _ _)
   | (with_reducible exact lex_Lex.mono _ _)
   | (with_reducible exact LeO.refl _)
   | (with_reducible exact LeO.none _)
   | (with_reducible refine LeO.ite ?_ ?_)
   | (with_reducible refine LeO.bind ?_ (fun _ => ?_))
   | exact ih0 _ _ _ _ _ _
   | exact falseworkref16_Digits.mono _ _
   | exact lex_Lex.mono _ _
   | exact LeO.none _
   | refine LeO.ite ?_ ?_
   | refine LeO.bind ?_ (fun _ => ?_)
set_option maxHeartbeats 8000000 in
set_option maxRecDepth 100000 in
theorem falseworklaw16_LexInts.calls (k : Nat) (a0 : Int) (a1 : Int) (r : Bool) (w : World) (h : falseworklaw16_LexInts.f k a0 a1 = some r) (hG : GL w) :
  Calls Tryd.prog 5 #[.int .i64 a0, .int .u8 a1] w fun e w' => e = .returned (.bool r) ∧ Below w.heap.size w w' := by
 have hu37 := Tryd.underlying37
 have HB := Aside0.mk (Below.refl w.heap.size w)
 have HG := Aside0.mk hG
 clear hG
 have H : ((falseworkref16_Digits.f k a0).bind fun t369 => ((lex_Lex.f k t369).bind fun bt370 => ((some (([(97 + (Int.tmod a1 26)) % 256] : List Int) : List Int)).bind fun y375 => (if t369.size + (strOfNums y375).size ≤ 9223372036854775807 then ((lex_Lex.f k (t369 ++ (strOfNums y375))).bind fun bt378 => (if 1 + t369.size ≤ 9223372036854775807 then (if a0 < 0 then (if 1 ≤ (t369.size : Int) then (if 2 + (t369.extract 1 t369.size).size ≤ 9223372036854775807 then (falseworklaw16_LexInts.j0 k a0 t369 bt370.1 bt370.2.2 bt378.2.2 ((⟨#[45, 48]⟩ : ByteArray) ++ (t369.extract 1 t369.size))) else (none)) else (none)) else (falseworklaw16_LexInts.j0 k a0 t369 bt370.1 bt370.2.2 bt378.2.2 ((⟨#[48]⟩ : ByteArray) ++ t369))) else (none))) else (none))))) = some r := h
 clear h
 replace H := Option.bind_eq_some_iff.mp H
 obtain ⟨t369, A30, H⟩ := H
 replace H : ((lex_Lex.f k t369).bind fun bt370 => ((some (([(97 + (Int.tmod a1 26)) % 256] : List Int) : List Int)).bind fun y375 => (if t369.size + (strOfNums y375).size ≤ 9223372036854775807 then ((lex_Lex.f k (t369 ++ (strOfNums y375))).bind fun bt378 => (if 1 + t369.size ≤ 9223372036854775807 then (if a0 < 0 then (if 1 ≤ (t369.size : Int) then (if 2 + (t369.extract 1 t369.size).size ≤ 9223372036854775807 then (falseworklaw16_LexInts.j0 k a0 t369 bt370.1 bt370.2.2 bt378.2.2 ((⟨#[45, 48]⟩ : ByteArray) ++ (t369.extract 1 t369.size))) else (none)) else (none)) else (falseworklaw16_LexInts.j0 k a0 t369 bt370.1 bt370.2.2 bt378.2.2 ((⟨#[48]⟩ : ByteArray) ++ t369))) else (none))) else (none)))) = some r := H
 have A3 := Aside0.mk A30
 clear A30
 replace H := Option.bind_eq_some_iff.mp H
 obtain ⟨⟨t370, t371, t372⟩, A40, H⟩ := H
 replace H : ((some (([(97 + (Int.tmod a1 26)) % 256] : List Int) : List Int)).bind fun y375 => (if t369.size + (strOfNums y375).size ≤ 9223372036854775807 then ((lex_Lex.f k (t369 ++ (strOfNums y375))).bind fun bt378 => (if 1 + t369.size ≤ 9223372036854775807 then (if a0 < 0 then (if 1 ≤ (t369.size : Int) then (if 2 + (t369.extract 1 t369.size).size ≤ 9223372036854775807 then (falseworklaw16_LexInts.j0 k a0 t369 t370 t372 bt378.2.2 ((⟨#[45, 48]⟩ : ByteArray) ++ (t369.extract 1 t369.size))) else (none)) else (none)) else (falseworklaw16_LexInts.j0 k a0 t369 t370 t372 bt378.2.2 ((⟨#[48]⟩ : ByteArray) ++ t369))) else (none))) else (none))) = some r := H
 have A4 := Aside0.mk A40
 clear A40
 obtain ⟨y375, hy375⟩ : ∃ y_ : List Int, y_ = (([(97 + (Int.tmod a1 26)) % 256] : List Int)) := ⟨_, rfl⟩
 replace H : (if t369.size + (strOfNums y375).size ≤ 9223372036854775807 then ((lex_Lex.f k (t369 ++ (strOfNums y375))).bind fun bt378 => (if 1 + t369.size ≤ 9223372036854775807 then (if a0 < 0 then (if 1 ≤ (t369.size : Int) then (if 2 + (t369.extract 1 t369.size).size ≤ 9223372036854775807 then (falseworklaw16_LexInts.j0 k a0 t369 t370 t372 bt378.2.2 ((⟨#[45, 48]⟩ : ByteArray) ++ (t369.extract 1 t369.size))) else (none)) else (none)) else (falseworklaw16_LexInts.j0 k a0 t369 t370 t372 bt378.2.2 ((⟨#[48]⟩ : ByteArray) ++ t369))) else (none))) else (none)) = some r := by first | (rw [hy375]; with_reducible exact H) | (have H2_ := (Option.bind_some _ _).symm.trans H; rw [hy375]; with_reducible exact H2_) | (have H2_ := (Option.bind_some _ _).symm.trans H; with_reducible exact H2_) | with_reducible exact H | (rw [hy375]; exact H) | exact H
 have Ny375 := Aside0.mk hy375
 clear hy375
 by_cases c5 : t369.size + (strOfNums y375).size ≤ 9223372036854775807
 ·rw [if_pos c5] at H
  have c5b0 := eq_true c5
  have c5b1 : decide (t369.size + (strOfNums y375).size ≤ 9223372036854775807) = true := decide_eq_true c5
  try have c5b2 : (9223372036854775807 < t369.size + (strOfNums y375).size) = False := eq_false (Nat.not_lt.2 c5)
  replace H := Option.bind_eq_some_iff.mp H
  obtain ⟨⟨t378, t379, t380⟩, A60, H⟩ := H
  replace H : (if 1 + t369.size ≤ 9223372036854775807 then (if a0 < 0 then (if 1 ≤ (t369.size : Int) then (if 2 + (t369.extract 1 t369.size).size ≤ 9223372036854775807 then (falseworklaw16_LexInts.j0 k a0 t369 t370 t372 t380 ((⟨#[45, 48]⟩ : ByteArray) ++ (t369.extract 1 t369.size))) else (none)) else (none)) else (falseworklaw16_LexInts.j0 k a0 t369 t370 t372 t380 ((⟨#[48]⟩ : ByteArray) ++ t369))) else (none)) = some r := H
  have A6 := Aside0.mk A60
  clear A60
  by_cases c7 : 1 + t369.size ≤ 9223372036854775807
  ·rw [if_pos c7] at H
   have c7b0 := eq_true c7
   have c7b1 : decide (1 + t369.size ≤ 9223372036854775807) = true := decide_eq_true c7
   try have c7b2 : (9223372036854775807 < 1 + t369.size) = False := eq_false (Nat.not_lt.2 c7)
   have HC8 := Aside0.mk H
   clear H
   go_enter Tryd.func5, Tryd.ntmps5
   go_upto_if 39 with (first | ((with_reducible refine gate_callee (f := 16) rfl ?_); refine goesL_ (some 17) rfl rfl Tryd.func16 (by kernel_rfl) rfl #[.int .i64 a0] rfl (by (try simp only [List.map_toArray, List.map_cons, List.map_nil]); first | done | rfl | (simp only [List.length_drop, List.length_take]; rfl)) ?_; (with_reducible refine (falseworkref16_Digits.calls k a0 t369 _ A3.out).mono ?_); rintro e w9 ⟨rfl, hb⟩; refine ⟨_, rfl, ?_⟩; have n0_ := Aside0.mk (below_step (by repeat (first | (with_reducible first | exact HB.out | apply below_alloc | apply pw_below_drewN | apply below_drew1) | exact HB.out)) hb); clear HB; have HB := n0_; clear n0_; (try clear hb); (try clear hb2); (try clear hk); (try clear hi)) | ((with_reducible refine gate_callee (f := 9) rfl ?_); refine goesL_ (some 20) rfl rfl Tryd.func9 (by kernel_rfl) rfl #[.string t369] rfl (by (try simp only [List.map_toArray, List.map_cons, List.map_nil]); first | done | rfl | (simp only [List.length_drop, List.length_take]; rfl)) ?_; (with_reducible refine (lex_Lex.calls k t369 t370 t371 t372 _ A4.out ?side1).mono ?_); (case side1 => exact GL.of_below HG.out (by repeat (first | (with_reducible first | exact HB.out | apply below_alloc | apply pw_below_drewN | apply below_drew1) | exact HB.out))); rintro e w10 ⟨v373, rfl, ho0, hb⟩; refine ⟨_, rfl, ?_⟩; have n0_ := Aside0.mk (Kd.R_lower ho0 (below_size (by repeat (first | (with_reducible first | exact HB.out | apply below_alloc | apply pw_below_drewN | apply below_drew1) | exact HB.out)))); have n1_ := Aside0.mk (below_step (by repeat (first | (with_reducible first | exact HB.out | apply below_alloc | apply pw_below_drewN | apply below_drew1) | exact HB.out)) hb); clear HB; have HO374 := n0_; have HB := n1_; clear n0_ n1_; (try clear hb); (try clear hb2); (try clear hk); (try clear hi); (try clear ho0)) | ((with_reducible refine gate_dst (N := 29) rfl ?_); (try (refine gate_guard (by rfl) ?_; dsimp only)); refine Kd.R_lit (Kd.int .u8) _ 5 ?hg (N := 29) ?hd (xs := ([(97 + (Int.tmod a1 26)) % 256] : List Int)) (inner := [.int .u8 ((97 + (Int.tmod a1 26)) % 256)]) (ok := fun _ => True) (okp := fun _ => True) ?hr ?hp (fun _ hk => hk) trivial (Below.refl _ _) (Nat.le_refl _) (by simp) ?_; (case hd => rfl); (case hg => rfl); (case hr => first | (go_simp; done) | (go_simp; rfl)); (case hp => exact (Reps.one (show Kd.M (Kd.int .u8) _ _ _ ((97 + (Int.tmod a1 26)) % 256) [.int .u8 ((97 + (Int.tmod a1 26)) % 256)] from rfl) (Reps.none _ _))); intro v376 w11 ho12 hb hg_ hnew_; clear hg_ hnew_; (first | rw [← Ny375.out] at ho12 | (simp only [Int.reduceToNat] at ho12; rw [← Ny375.out] at ho12)); have n0_ := Aside0.mk (Kd.R_below (by (with_reducible repeat (first | apply Kd.R_alloc | apply Kd.R_drewN | apply Kd.R_drew)); exact HO374.out) hb); have n1_ := Aside0.mk (Kd.R_lower ho12 (below_size (by repeat (first | (with_reducible first | exact HB.out | apply below_alloc | apply pw_below_drewN | apply below_drew1) | exact HB.out)))); have n2_ := Aside0.mk (below_step (by repeat (first | (with_reducible first | exact HB.out | apply below_alloc | apply pw_below_drewN | apply below_drew1) | exact HB.out)) hb); clear HO374; clear HB; have HO374 := n0_; have HO377 := n1_; have HB := n2_; clear n0_ n1_ n2_; clear hb ho12; have hcv13 := own_string (P := Tryd.prog) Tryd.underlying34 Tryd.underlying5 Tryd.underlying9 (Kd.own_of_R HO377.out)) | ((with_reducible refine gate_callee (f := 9) rfl ?_); refine goesL_ (some 32) rfl rfl Tryd.func9 (by kernel_rfl) rfl #[.string (t369 ++ (strOfNums y375))] rfl (by (try simp only [List.map_toArray, List.map_cons, List.map_nil]); first | done | rfl | (simp only [List.length_drop, List.length_take]; rfl)) ?_; (with_reducible refine (lex_Lex.calls k (t369 ++ (strOfNums y375)) t378 t379 t380 _ A6.out ?side1).mono ?_); (case side1 => exact GL.of_below HG.out (by repeat (first | (with_reducible first | exact HB.out | apply below_alloc | apply pw_below_drewN | apply below_drew1) | exact HB.out))); rintro e w14 ⟨v381, rfl, ho0, hb⟩; refine ⟨_, rfl, ?_⟩; have n0_ := Aside0.mk (Kd.R_elder' (by (with_reducible repeat (first | apply Kd.R_alloc | apply Kd.R_drewN | apply Kd.R_drew)); exact HO374.out) (Kd.R_base ho0) hb); have n1_ := Aside0.mk (Kd.R_below (by (with_reducible repeat (first | apply Kd.R_alloc | apply Kd.R_drewN | apply Kd.R_drew)); exact HO377.out) hb); have n2_ := Aside0.mk (Kd.R_lower (Kd.R_new' ho0 (Kd.R_lt (by (with_reducible repeat (first | apply Kd.R_alloc | apply Kd.R_drewN | apply Kd.R_drew)); exact HO374.out))) (below_size (by repeat (first | (with_reducible first | exact HB.out | apply below_alloc | apply pw_below_drewN | apply below_drew1) | exact HB.out)))); have n3_ := Aside0.mk (below_step (by repeat (first | (with_reducible first | exact HB.out | apply below_alloc | apply pw_below_drewN | apply below_drew1) | exact HB.out)) hb); clear HO374; clear HO377; clear HB; have HO374 := n0_; have HO377 := n1_; have HO382 := n2_; have HB := n3_; clear n0_ n1_ n2_ n3_; (try clear hb); (try clear hb2); (try clear hk); (try clear hi); (try clear ho0)))
   (try simp only [Act.put, List.setIfInBounds_toArray, List.set_cons_zero, List.set_cons_succ])
   go_cut [12] (fun v12 wc => ∃ (kq : Nat) (x12_7 : ByteArray), v12 = .string x12_7 ∧ Aside0 (falseworklaw16_LexInts.j0 kq a0 t369 t370 t372 t380 x12_7 = some r) ∧ Aside0 (kq ≤ k) ∧ Aside0 (Kd.R k39 39 wc w.heap.size (fun _ => True) v373 t370) ∧ Aside0 (Below w.heap.size w wc))
   case first =>
    have H := HC8.out
    clear HC8
    by_cases c15 : a0 < 0
    ·rw [if_pos c15] at H
     have c15b0 : decide (a0 < 0) = true := decide_eq_true c15
     clear c15
     (first | rw [c15b0] | (simp only [i64_w, i32_w]; rw [c15b0]) | skip)
     by_cases c16 : 1 ≤ (t369.size : Int)
     ·rw [if_pos c16] at H
      have c16b0 := eq_true c16
      have c16b1 : decide (1 ≤ (t369.size : Int)) = true := decide_eq_true c16
      clear c16
      by_cases c17 : 2 + (t369.extract 1 t369.size).size ≤ 9223372036854775807
      ·rw [if_pos c17] at H
       have c17b0 := eq_true c17
       have c17b1 : decide (2 + (t369.extract 1 t369.size).size ≤ 9223372036854775807) = true := decide_eq_true c17
       try have c17b2 : (9223372036854775807 < 2 + (t369.extract 1 t369.size).size) = False := eq_false (Nat.not_lt.2 c17)
       have H' := Aside0.mk H
       clear H
       go_wp2
       go_meet
       case rel => exact ⟨_, ((⟨#[45, 48]⟩ : ByteArray) ++ (t369.extract 1 t369.size)), (by first | rfl | (simp; done) | (simp [*]; done)), H', ⟨by first | omega | exact Nat.le_refl _⟩, ⟨by (with_reducible repeat (first | apply Kd.R_alloc | apply Kd.R_drewN | apply Kd.R_drew)); exact Kd.R_mono HO374.out (fun _ hk => trivial)⟩, ⟨by repeat (first | (with_reducible first | exact HB.out | apply below_alloc | apply pw_below_drewN | apply below_drew1) | exact HB.out)⟩⟩
      ·rw [if_neg c17] at H
       exact absurd H (by simp)
     ·rw [if_neg c16] at H
      exact absurd H (by simp)
    ·rw [if_neg c15] at H
     have c15b0 : decide (a0 < 0) = false := decide_eq_false c15
     clear c15
     (first | rw [c15b0] | (simp only [i64_w, i32_w]; rw [c15b0]) | skip)
     have H' := Aside0.mk H
     clear H
     go_wp2
     go_meet
     case rel => exact ⟨_, ((⟨#[48]⟩ : ByteArray) ++ t369), (by first | rfl | (simp; done) | (simp [*]; done)), H', ⟨by first | omega | exact Nat.le_refl _⟩, ⟨by (with_reducible repeat (first | apply Kd.R_alloc | apply Kd.R_drewN | apply Kd.R_drew)); exact Kd.R_mono HO374.out (fun _ hk => trivial)⟩, ⟨by repeat (first | (with_reducible first | exact HB.out | apply below_alloc | apply pw_below_drewN | apply below_drew1) | exact HB.out)⟩⟩
   case rest =>
    clear HC8
    try clear c1
    try clear hcv1
    try clear p2
    try clear c5
    try clear c5b0
    try clear c5b1
    try clear c5b2
    try clear c7
    try clear c7b0
    try clear c7b1
    try clear c7b2
    try clear c9
    try clear hcv13
    try clear c15
    try clear c15b0
    try clear c16
    try clear c16b0
    try clear c16b1
    try clear c17
    try clear c17b0
    try clear c17b1
    try clear c17b2
    obtain ⟨kq, x12_7, rfl, HA, HJ7, HO_6, HB⟩ := hcut
    cases kq with
    | zero => exact absurd HA.out (by simp [falseworklaw16_LexInts.j0])
    | succ kj7 =>
     have H := HA.out
     clear HA
     simp only [falseworklaw16_LexInts.j0] at H
     replace H := Option.bind_eq_some_iff.mp H
     obtain ⟨⟨t383, t384, t385⟩, A180, H⟩ := H
     replace H : ((falseworklaw16_num.f t372).bind fun t388 => (if t388 = 0 then (if (t370.length : Int) = 2 then (if 0 < (t370.length : Int) then (if (((rd_T39 t370 0).f2.f0) == 2 && (((rd_T39 t370 0).f2.f1) == a0 && (((rd_T39 t370 0).f2.f2) == 0 && ((((rd_T39 t370 0).f2.f3).toList) == ([] : List UInt8))))) = true then (if ((rd_T39 t370 0).f1).toList = t369.toList then ((falseworklaw16_num.f t380).bind fun t391 => (if t391 = 3 then ((falseworklaw16_num.f t385).bind fun t392 => (some (t392 == 3))) else (some false))) else (some false)) else (some false)) else (none)) else (some false)) else (some false))) = some r := H
     have A18 := Aside0.mk A180
     clear A180
     replace H := Option.bind_eq_some_iff.mp H
     obtain ⟨t388, A190, H⟩ := H
     replace H : (if t388 = 0 then (if (t370.length : Int) = 2 then (if 0 < (t370.length : Int) then (if (((rd_T39 t370 0).f2.f0) == 2 && (((rd_T39 t370 0).f2.f1) == a0 && (((rd_T39 t370 0).f2.f2) == 0 && ((((rd_T39 t370 0).f2.f3).toList) == ([] : List UInt8))))) = true then (if ((rd_T39 t370 0).f1).toList = t369.toList then ((falseworklaw16_num.f t380).bind fun t391 => (if t391 = 3 then ((falseworklaw16_num.f t385).bind fun t392 => (some (t392 == 3))) else (some false))) else (some false)) else (some false)) else (none)) else (some false)) else (some false)) = some r := H
     have A19 := Aside0.mk A190
     clear A190
     by_cases c20 : t388 = 0
     ·rw [if_pos c20] at H
      have c20b0 : (t388 == 0) = true := beq_iff_eq.mpr c20
      have c20b1 : (t388 != 0) = false := bne_eq_false_iff_eq.mpr c20
      clear c20
      by_cases c21 : (t370.length : Int) = 2
      ·rw [if_pos c21] at H
       have c21b0 : ((t370.length : Int) == 2) = true := beq_iff_eq.mpr c21
       have c21b1 : ((t370.length : Int) != 2) = false := bne_eq_false_iff_eq.mpr c21
       clear c21
       by_cases c22 : 0 < (t370.length : Int)
       ·rw [if_pos c22] at H
        have c22b0 : decide (0 < (t370.length : Int)) = true := decide_eq_true c22
        have c22b1 : decide (0 < t370.length) = true := decide_eq_true (by omega)
        clear c22
        by_cases c23 : (((rd_T39 t370 0).f2.f0) == 2 && (((rd_T39 t370 0).f2.f1) == a0 && (((rd_T39 t370 0).f2.f2) == 0 && ((((rd_T39 t370 0).f2.f3).toList) == ([] : List UInt8))))) = true
        ·rw [if_pos c23] at H
         have c23b0 : (((rd_T39 t370 0).f2.f0) == 2 && (((rd_T39 t370 0).f2.f1) == a0 && (((rd_T39 t370 0).f2.f2) == 0 && ((((rd_T39 t370 0).f2.f3).toList) == ([] : List UInt8))))) = true := c23
         (try (have c23e0 := c23b0; simp only [show ∀ l_ : List UInt8, (l_ == ([] : List UInt8)) = l_.isEmpty from fun l_ => by cases l_ <;> rfl] at c23e0))
         (try (have c23b1 : decide (((rd_T39 t370 0).f2.f0) = 2 && (((rd_T39 t370 0).f2.f1) == a0 && (((rd_T39 t370 0).f2.f2) == 0 && ((((rd_T39 t370 0).f2.f3).toList) == ([] : List UInt8))))) = true := by simpa using c23))
         (try (have c23b2 : (((rd_T39 t370 0).f2.f0) == 2 && (((rd_T39 t370 0).f2.f1) == a0 && (((rd_T39 t370 0).f2.f2) == 0 && ((((rd_T39 t370 0).f2.f3).toList) == ([] : List UInt8))))) = true := by simpa using c23))
         clear c23
         by_cases c24 : ((rd_T39 t370 0).f1).toList = t369.toList
         ·rw [if_pos c24] at H
          have c24b0 : (((rd_T39 t370 0).f1).toList == t369.toList) = true := beq_iff_eq.mpr c24
          have c24b1 : (((rd_T39 t370 0).f1).toList != t369.toList) = false := bne_eq_false_iff_eq.mpr c24
          clear c24
          replace H := Option.bind_eq_some_iff.mp H
          obtain ⟨t391, A250, H⟩ := H
          replace H : (if t391 = 3 then ((falseworklaw16_num.f t385).bind fun t392 => (some (t392 == 3))) else (some false)) = some r := H
          have A25 := Aside0.mk A250
          clear A250
          by_cases c26 : t391 = 3
          ·rw [if_pos c26] at H
           have c26b0 : (t391 == 3) = true := beq_iff_eq.mpr c26
           have c26b1 : (t391 != 3) = false := bne_eq_false_iff_eq.mpr c26
           clear c26
           replace H := Option.bind_eq_some_iff.mp H
           obtain ⟨t392, A270, H⟩ := H
           replace H : (some (t392 == 3)) = some r := H
           have A27 := Aside0.mk A270
           clear A270
           obtain rfl := Option.some.inj H
           go_wp2_with (first | ((with_reducible refine gate_callee (f := 9) rfl ?_); refine goesL_ (some 45) rfl rfl Tryd.func9 (by kernel_rfl) rfl #[.string x12_7] rfl (by (try simp only [List.map_toArray, List.map_cons, List.map_nil]); first | done | rfl | (simp only [List.length_drop, List.length_take]; rfl)) ?_; (with_reducible refine (lex_Lex.calls kj7 x12_7 t383 t384 t385 _ A18.out ?side1).mono ?_); (case side1 => exact GL.of_below HG.out (by repeat (first | (with_reducible first | exact HB.out | apply below_alloc | apply pw_below_drewN | apply below_drew1) | exact HB.out))); rintro e w28 ⟨v386, rfl, ho0, hb⟩; refine ⟨_, rfl, ?_⟩; have n0_ := Aside0.mk (Kd.R_elder' (by (with_reducible repeat (first | apply Kd.R_alloc | apply Kd.R_drewN | apply Kd.R_drew)); exact HO_6.out) (Kd.R_base ho0) hb); have n1_ := Aside0.mk (Kd.R_lower (Kd.R_new' ho0 (Kd.R_lt (by (with_reducible repeat (first | apply Kd.R_alloc | apply Kd.R_drewN | apply Kd.R_drew)); exact HO_6.out))) (below_size (by repeat (first | (with_reducible first | exact HB.out | apply below_alloc | apply pw_below_drewN | apply below_drew1) | exact HB.out)))); have n2_ := Aside0.mk (below_step (by repeat (first | (with_reducible first | exact HB.out | apply below_alloc | apply pw_below_drewN | apply below_drew1) | exact HB.out)) hb); clear HO_6; clear HB; have HO_6 := n0_; have HO387 := n1_; have HB := n2_; clear n0_ n1_ n2_; (try clear hb); (try clear hb2); (try clear hk); (try clear hi); (try clear ho0)) | ((with_reducible refine gate_callee (f := 12) rfl ?_); refine goesL_ (some 50) rfl rfl Tryd.func12 (by kernel_rfl) rfl #[.int .i64 t372] rfl (by (try simp only [List.map_toArray, List.map_cons, List.map_nil]); first | done | rfl | (simp only [List.length_drop, List.length_take]; rfl)) ?_; (with_reducible refine (falseworklaw16_num.calls t372 t388 _ A19.out).mono ?_); rintro e w' ⟨rfl, ⟨nd, rfl⟩⟩; refine ⟨_, rfl, ?_⟩; obtain ⟨Ao29, co29, eo29⟩ := Kd.R_slice HO_6.out; subst eo29; have p389 : 0 ≤ (0 : Int) := (by omega); have q389 : 0 < (t370.length : Int) := of_decide_eq_true (by first | (with_reducible assumption) | assumption); obtain ⟨ad389, e389, hx389_0, hx389_1, hx389_2, hx389_3, hx389_4, hx389_5, hx389_6⟩ := at_T39 (Kd.R_reads' HO_6.out).2.2 0 p389 q389; cases e389; have qi389 : (0 < t370.length) = True := eq_true (by omega); (try rw [show ((0 : Int)).toNat = 0 from rfl] at hx389_0); (try rw [show 0 * 7 = 0 from rfl] at hx389_0); (try rw [Addr.add_zero'] at hx389_0); (try rw [show ((0 : Int)).toNat = 0 from rfl] at hx389_1); (try rw [show 0 * 7 = 0 from rfl] at hx389_1); (try rw [Addr.add_zero'] at hx389_1); (try rw [show ((0 : Int)).toNat = 0 from rfl] at hx389_2); (try rw [show 0 * 7 = 0 from rfl] at hx389_2); (try rw [Addr.add_zero'] at hx389_2); (try rw [show ((0 : Int)).toNat = 0 from rfl] at hx389_3); (try rw [show 0 * 7 = 0 from rfl] at hx389_3); (try rw [Addr.add_zero'] at hx389_3); (try rw [show ((0 : Int)).toNat = 0 from rfl] at hx389_4); (try rw [show 0 * 7 = 0 from rfl] at hx389_4); (try rw [Addr.add_zero'] at hx389_4); (try rw [show ((0 : Int)).toNat = 0 from rfl] at hx389_5); (try rw [show 0 * 7 = 0 from rfl] at hx389_5); (try rw [Addr.add_zero'] at hx389_5); (try rw [show ((0 : Int)).toNat = 0 from rfl] at hx389_6); (try rw [show 0 * 7 = 0 from rfl] at hx389_6); (try rw [Addr.add_zero'] at hx389_6); replace p389 := eq_true p389; replace q389 := eq_true q389; have p390 : 0 ≤ (0 : Int) := (by omega); have q390 : 0 < (t370.length : Int) := of_decide_eq_true (by first | (with_reducible assumption) | assumption); obtain ⟨ad390, e390, hx390_0, hx390_1, hx390_2, hx390_3, hx390_4, hx390_5, hx390_6⟩ := at_T39 (Kd.R_reads' HO_6.out).2.2 0 p390 q390; obtain rfl : ad389 = ad390 := (by injection e390); have qi390 : (0 < t370.length) = True := eq_true (by omega); (try rw [show ((0 : Int)).toNat = 0 from rfl] at hx390_0); (try rw [show 0 * 7 = 0 from rfl] at hx390_0); (try rw [Addr.add_zero'] at hx390_0); (try rw [show ((0 : Int)).toNat = 0 from rfl] at hx390_1); (try rw [show 0 * 7 = 0 from rfl] at hx390_1); (try rw [Addr.add_zero'] at hx390_1); (try rw [show ((0 : Int)).toNat = 0 from rfl] at hx390_2); (try rw [show 0 * 7 = 0 from rfl] at hx390_2); (try rw [Addr.add_zero'] at hx390_2); (try rw [show ((0 : Int)).toNat = 0 from rfl] at hx390_3); (try rw [show 0 * 7 = 0 from rfl] at hx390_3); (try rw [Addr.add_zero'] at hx390_3); (try rw [show ((0 : Int)).toNat = 0 from rfl] at hx390_4); (try rw [show 0 * 7 = 0 from rfl] at hx390_4); (try rw [Addr.add_zero'] at hx390_4); (try rw [show ((0 : Int)).toNat = 0 from rfl] at hx390_5); (try rw [show 0 * 7 = 0 from rfl] at hx390_5); (try rw [Addr.add_zero'] at hx390_5); (try rw [show ((0 : Int)).toNat = 0 from rfl] at hx390_6); (try rw [show 0 * 7 = 0 from rfl] at hx390_6); (try rw [Addr.add_zero'] at hx390_6); replace p390 := eq_true p390; replace q390 := eq_true q390) | (go_at_call 12; (with_reducible refine (falseworklaw16_num.calls t380 t391 _ A25.out).mono ?_); rintro e w' ⟨rfl, ⟨nd, rfl⟩⟩) | (go_at_call 12; (with_reducible refine (falseworklaw16_num.calls t385 t392 _ A27.out).mono ?_); rintro e w' ⟨rfl, ⟨nd, rfl⟩⟩))
           go_ret
           exact ⟨by first | rfl | (simp [errW_none, errW_some] <;> rfl) | (simp [*, errW_none, errW_some] <;> rfl), by repeat (first | (with_reducible first | exact HB.out | apply below_alloc | apply pw_below_drewN | apply below_drew1) | exact HB.out)⟩
          ·rw [if_neg c26] at H
           have c26b0 : (t391 == 3) = false := beq_eq_false_iff_ne.mpr c26
           have c26b1 : (t391 != 3) = true := bne_iff_ne.mpr c26
           obtain rfl := Option.some.inj H
           go_wp2_with (first | ((with_reducible refine gate_callee (f := 9) rfl ?_); refine goesL_ (some 45) rfl rfl Tryd.func9 (by kernel_rfl) rfl #[.string x12_7] rfl (by (try simp only [List.map_toArray, List.map_cons, List.map_nil]); first | done | rfl | (simp only [List.length_drop, List.length_take]; rfl)) ?_; (with_reducible refine (lex_Lex.calls kj7 x12_7 t383 t384 t385 _ A18.out ?side1).mono ?_); (case side1 => exact GL.of_below HG.out (by repeat (first | (with_reducible first | exact HB.out | apply below_alloc | apply pw_below_drewN | apply below_drew1) | exact HB.out))); rintro e w30 ⟨v386, rfl, ho0, hb⟩; refine ⟨_, rfl, ?_⟩; have n0_ := Aside0.mk (Kd.R_elder' (by (with_reducible repeat (first | apply Kd.R_alloc | apply Kd.R_drewN | apply Kd.R_drew)); exact HO_6.out) (Kd.R_base ho0) hb); have n1_ := Aside0.mk (Kd.R_lower (Kd.R_new' ho0 (Kd.R_lt (by (with_reducible repeat (first | apply Kd.R_alloc | apply Kd.R_drewN | apply Kd.R_drew)); exact HO_6.out))) (below_size (by repeat (first | (with_reducible first | exact HB.out | apply below_alloc | apply pw_below_drewN | apply below_drew1) | exact HB.out)))); have n2_ := Aside0.mk (below_step (by repeat (first | (with_reducible first | exact HB.out | apply below_alloc | apply pw_below_drewN | apply below_drew1) | exact HB.out)) hb); clear HO_6; clear HB; have HO_6 := n0_; have HO387 := n1_; have HB := n2_; clear n0_ n1_ n2_; (try clear hb); (try clear hb2); (try clear hk); (try clear hi); (try clear ho0)) | ((with_reducible refine gate_callee (f := 12) rfl ?_); refine goesL_ (some 50) rfl rfl Tryd.func12 (by kernel_rfl) rfl #[.int .i64 t372] rfl (by (try simp only [List.map_toArray, List.map_cons, List.map_nil]); first | done | rfl | (simp only [List.length_drop, List.length_take]; rfl)) ?_; (with_reducible refine (falseworklaw16_num.calls t372 t388 _ A19.out).mono ?_); rintro e w' ⟨rfl, ⟨nd, rfl⟩⟩; refine ⟨_, rfl, ?_⟩; obtain ⟨Ao31, co31, eo31⟩ := Kd.R_slice HO_6.out; subst eo31; have p389 : 0 ≤ (0 : Int) := (by omega); have q389 : 0 < (t370.length : Int) := of_decide_eq_true (by first | (with_reducible assumption) | assumption); obtain ⟨ad389, e389, hx389_0, hx389_1, hx389_2, hx389_3, hx389_4, hx389_5, hx389_6⟩ := at_T39 (Kd.R_reads' HO_6.out).2.2 0 p389 q389; cases e389; have qi389 : (0 < t370.length) = True := eq_true (by omega); (try rw [show ((0 : Int)).toNat = 0 from rfl] at hx389_0); (try rw [show 0 * 7 = 0 from rfl] at hx389_0); (try rw [Addr.add_zero'] at hx389_0); (try rw [show ((0 : Int)).toNat = 0 from rfl] at hx389_1); (try rw [show 0 * 7 = 0 from rfl] at hx389_1); (try rw [Addr.add_zero'] at hx389_1); (try rw [show ((0 : Int)).toNat = 0 from rfl] at hx389_2); (try rw [show 0 * 7 = 0 from rfl] at hx389_2); (try rw [Addr.add_zero'] at hx389_2); (try rw [show ((0 : Int)).toNat = 0 from rfl] at hx389_3); (try rw [show 0 * 7 = 0 from rfl] at hx389_3); (try rw [Addr.add_zero'] at hx389_3); (try rw [show ((0 : Int)).toNat = 0 from rfl] at hx389_4); (try rw [show 0 * 7 = 0 from rfl] at hx389_4); (try rw [Addr.add_zero'] at hx389_4); (try rw [show ((0 : Int)).toNat = 0 from rfl] at hx389_5); (try rw [show 0 * 7 = 0 from rfl] at hx389_5); (try rw [Addr.add_zero'] at hx389_5); (try rw [show ((0 : Int)).toNat = 0 from rfl] at hx389_6); (try rw [show 0 * 7 = 0 from rfl] at hx389_6); (try rw [Addr.add_zero'] at hx389_6); replace p389 := eq_true p389; replace q389 := eq_true q389; have p390 : 0 ≤ (0 : Int) := (by omega); have q390 : 0 < (t370.length : Int) := of_decide_eq_true (by first | (with_reducible assumption) | assumption); obtain ⟨ad390, e390, hx390_0, hx390_1, hx390_2, hx390_3, hx390_4, hx390_5, hx390_6⟩ := at_T39 (Kd.R_reads' HO_6.out).2.2 0 p390 q390; obtain rfl : ad389 = ad390 := (by injection e390); have qi390 : (0 < t370.length) = True := eq_true (by omega); (try rw [show ((0 : Int)).toNat = 0 from rfl] at hx390_0); (try rw [show 0 * 7 = 0 from rfl] at hx390_0); (try rw [Addr.add_zero'] at hx390_0); (try rw [show ((0 : Int)).toNat = 0 from rfl] at hx390_1); (try rw [show 0 * 7 = 0 from rfl] at hx390_1); (try rw [Addr.add_zero'] at hx390_1); (try rw [show ((0 : Int)).toNat = 0 from rfl] at hx390_2); (try rw [show 0 * 7 = 0 from rfl] at hx390_2); (try rw [Addr.add_zero'] at hx390_2); (try rw [show ((0 : Int)).toNat = 0 from rfl] at hx390_3); (try rw [show 0 * 7 = 0 from rfl] at hx390_3); (try rw [Addr.add_zero'] at hx390_3); (try rw [show ((0 : Int)).toNat = 0 from rfl] at hx390_4); (try rw [show 0 * 7 = 0 from rfl] at hx390_4); (try rw [Addr.add_zero'] at hx390_4); (try rw [show ((0 : Int)).toNat = 0 from rfl] at hx390_5); (try rw [show 0 * 7 = 0 from rfl] at hx390_5); (try rw [Addr.add_zero'] at hx390_5); (try rw [show ((0 : Int)).toNat = 0 from rfl] at hx390_6); (try rw [show 0 * 7 = 0 from rfl] at hx390_6); (try rw [Addr.add_zero'] at hx390_6); replace p390 := eq_true p390; replace q390 := eq_true q390) | (go_at_call 12; (with_reducible refine (falseworklaw16_num.calls t380 t391 _ A25.out).mono ?_); rintro e w' ⟨rfl, ⟨nd, rfl⟩⟩))
           go_ret
           exact ⟨by first | rfl | (simp [errW_none, errW_some] <;> rfl) | (simp [*, errW_none, errW_some] <;> rfl), by repeat (first | (with_reducible first | exact HB.out | apply below_alloc | apply pw_below_drewN | apply below_drew1) | exact HB.out)⟩
         ·rw [if_neg c24] at H
          have c24b0 : (((rd_T39 t370 0).f1).toList == t369.toList) = false := beq_eq_false_iff_ne.mpr c24
          have c24b1 : (((rd_T39 t370 0).f1).toList != t369.toList) = true := bne_iff_ne.mpr c24
          obtain rfl := Option.some.inj H
          go_wp2_with (first | ((with_reducible refine gate_callee (f := 9) rfl ?_); refine goesL_ (some 45) rfl rfl Tryd.func9 (by kernel_rfl) rfl #[.string x12_7] rfl (by (try simp only [List.map_toArray, List.map_cons, List.map_nil]); first | done | rfl | (simp only [List.length_drop, List.length_take]; rfl)) ?_; (with_reducible refine (lex_Lex.calls kj7 x12_7 t383 t384 t385 _ A18.out ?side1).mono ?_); (case side1 => exact GL.of_below HG.out (by repeat (first | (with_reducible first | exact HB.out | apply below_alloc | apply pw_below_drewN | apply below_drew1) | exact HB.out))); rintro e w32 ⟨v386, rfl, ho0, hb⟩; refine ⟨_, rfl, ?_⟩; have n0_ := Aside0.mk (Kd.R_elder' (by (with_reducible repeat (first | apply Kd.R_alloc | apply Kd.R_drewN | apply Kd.R_drew)); exact HO_6.out) (Kd.R_base ho0) hb); have n1_ := Aside0.mk (Kd.R_lower (Kd.R_new' ho0 (Kd.R_lt (by (with_reducible repeat (first | apply Kd.R_alloc | apply Kd.R_drewN | apply Kd.R_drew)); exact HO_6.out))) (below_size (by repeat (first | (with_reducible first | exact HB.out | apply below_alloc | apply pw_below_drewN | apply below_drew1) | exact HB.out)))); have n2_ := Aside0.mk (below_step (by repeat (first | (with_reducible first | exact HB.out | apply below_alloc | apply pw_below_drewN | apply below_drew1) | exact HB.out)) hb); clear HO_6; clear HB; have HO_6 := n0_; have HO387 := n1_; have HB := n2_; clear n0_ n1_ n2_; (try clear hb); (try clear hb2); (try clear hk); (try clear hi); (try clear ho0)) | ((with_reducible refine gate_callee (f := 12) rfl ?_); refine goesL_ (some 50) rfl rfl Tryd.func12 (by kernel_rfl) rfl #[.int .i64 t372] rfl (by (try simp only [List.map_toArray, List.map_cons, List.map_nil]); first | done | rfl | (simp only [List.length_drop, List.length_take]; rfl)) ?_; (with_reducible refine (falseworklaw16_num.calls t372 t388 _ A19.out).mono ?_); rintro e w' ⟨rfl, ⟨nd, rfl⟩⟩; refine ⟨_, rfl, ?_⟩; obtain ⟨Ao33, co33, eo33⟩ := Kd.R_slice HO_6.out; subst eo33; have p389 : 0 ≤ (0 : Int) := (by omega); have q389 : 0 < (t370.length : Int) := of_decide_eq_true (by first | (with_reducible assumption) | assumption); obtain ⟨ad389, e389, hx389_0, hx389_1, hx389_2, hx389_3, hx389_4, hx389_5, hx389_6⟩ := at_T39 (Kd.R_reads' HO_6.out).2.2 0 p389 q389; cases e389; have qi389 : (0 < t370.length) = True := eq_true (by omega); (try rw [show ((0 : Int)).toNat = 0 from rfl] at hx389_0); (try rw [show 0 * 7 = 0 from rfl] at hx389_0); (try rw [Addr.add_zero'] at hx389_0); (try rw [show ((0 : Int)).toNat = 0 from rfl] at hx389_1); (try rw [show 0 * 7 = 0 from rfl] at hx389_1); (try rw [Addr.add_zero'] at hx389_1); (try rw [show ((0 : Int)).toNat = 0 from rfl] at hx389_2); (try rw [show 0 * 7 = 0 from rfl] at hx389_2); (try rw [Addr.add_zero'] at hx389_2); (try rw [show ((0 : Int)).toNat = 0 from rfl] at hx389_3); (try rw [show 0 * 7 = 0 from rfl] at hx389_3); (try rw [Addr.add_zero'] at hx389_3); (try rw [show ((0 : Int)).toNat = 0 from rfl] at hx389_4); (try rw [show 0 * 7 = 0 from rfl] at hx389_4); (try rw [Addr.add_zero'] at hx389_4); (try rw [show ((0 : Int)).toNat = 0 from rfl] at hx389_5); (try rw [show 0 * 7 = 0 from rfl] at hx389_5); (try rw [Addr.add_zero'] at hx389_5); (try rw [show ((0 : Int)).toNat = 0 from rfl] at hx389_6); (try rw [show 0 * 7 = 0 from rfl] at hx389_6); (try rw [Addr.add_zero'] at hx389_6); replace p389 := eq_true p389; replace q389 := eq_true q389; have p390 : 0 ≤ (0 : Int) := (by omega); have q390 : 0 < (t370.length : Int) := of_decide_eq_true (by first | (with_reducible assumption) | assumption); obtain ⟨ad390, e390, hx390_0, hx390_1, hx390_2, hx390_3, hx390_4, hx390_5, hx390_6⟩ := at_T39 (Kd.R_reads' HO_6.out).2.2 0 p390 q390; obtain rfl : ad389 = ad390 := (by injection e390); have qi390 : (0 < t370.length) = True := eq_true (by omega); (try rw [show ((0 : Int)).toNat = 0 from rfl] at hx390_0); (try rw [show 0 * 7 = 0 from rfl] at hx390_0); (try rw [Addr.add_zero'] at hx390_0); (try rw [show ((0 : Int)).toNat = 0 from rfl] at hx390_1); (try rw [show 0 * 7 = 0 from rfl] at hx390_1); (try rw [Addr.add_zero'] at hx390_1); (try rw [show ((0 : Int)).toNat = 0 from rfl] at hx390_2); (try rw [show 0 * 7 = 0 from rfl] at hx390_2); (try rw [Addr.add_zero'] at hx390_2); (try rw [show ((0 : Int)).toNat = 0 from rfl] at hx390_3); (try rw [show 0 * 7 = 0 from rfl] at hx390_3); (try rw [Addr.add_zero'] at hx390_3); (try rw [show ((0 : Int)).toNat = 0 from rfl] at hx390_4); (try rw [show 0 * 7 = 0 from rfl] at hx390_4); (try rw [Addr.add_zero'] at hx390_4); (try rw [show ((0 : Int)).toNat = 0 from rfl] at hx390_5); (try rw [show 0 * 7 = 0 from rfl] at hx390_5); (try rw [Addr.add_zero'] at hx390_5); (try rw [show ((0 : Int)).toNat = 0 from rfl] at hx390_6); (try rw [show 0 * 7 = 0 from rfl] at hx390_6); (try rw [Addr.add_zero'] at hx390_6); replace p390 := eq_true p390; replace q390 := eq_true q390))
          go_ret
          exact ⟨by first | rfl | (simp [errW_none, errW_some] <;> rfl) | (simp [*, errW_none, errW_some] <;> rfl), by repeat (first | (with_reducible first | exact HB.out | apply below_alloc | apply pw_below_drewN | apply below_drew1) | exact HB.out)⟩
        ·rw [if_neg c23] at H
         have c23b0 : (((rd_T39 t370 0).f2.f0) == 2 && (((rd_T39 t370 0).f2.f1) == a0 && (((rd_T39 t370 0).f2.f2) == 0 && ((((rd_T39 t370 0).f2.f3).toList) == ([] : List UInt8))))) = false := by simpa using c23
         (try (have c23e0 := c23b0; simp only [show ∀ l_ : List UInt8, (l_ == ([] : List UInt8)) = l_.isEmpty from fun l_ => by cases l_ <;> rfl] at c23e0))
         (try (have c23b1 : decide (((rd_T39 t370 0).f2.f0) = 2 && (((rd_T39 t370 0).f2.f1) == a0 && (((rd_T39 t370 0).f2.f2) == 0 && ((((rd_T39 t370 0).f2.f3).toList) == ([] : List UInt8))))) = false := by simpa using c23))
         (try (have c23b2 : (((rd_T39 t370 0).f2.f0) == 2 && (((rd_T39 t370 0).f2.f1) == a0 && (((rd_T39 t370 0).f2.f2) == 0 && ((((rd_T39 t370 0).f2.f3).toList) == ([] : List UInt8))))) = false := by simpa using c23))
         (try (have c23b3 : ¬ (((rd_T39 t370 0).f2.f0) = 2 && (((rd_T39 t370 0).f2.f1) == a0 && (((rd_T39 t370 0).f2.f2) == 0 && ((((rd_T39 t370 0).f2.f3).toList) == ([] : List UInt8))))) := by simpa using c23))
         clear c23
         obtain rfl := Option.some.inj H
         go_wp2_with (first | ((with_reducible refine gate_callee (f := 9) rfl ?_); refine goesL_ (some 45) rfl rfl Tryd.func9 (by kernel_rfl) rfl #[.string x12_7] rfl (by (try simp only [List.map_toArray, List.map_cons, List.map_nil]); first | done | rfl | (simp only [List.length_drop, List.length_take]; rfl)) ?_; (with_reducible refine (lex_Lex.calls kj7 x12_7 t383 t384 t385 _ A18.out ?side1).mono ?_); (case side1 => exact GL.of_below HG.out (by repeat (first | (with_reducible first | exact HB.out | apply below_alloc | apply pw_below_drewN | apply below_drew1) | exact HB.out))); rintro e w34 ⟨v386, rfl, ho0, hb⟩; refine ⟨_, rfl, ?_⟩; have n0_ := Aside0.mk (Kd.R_elder' (by (with_reducible repeat (first | apply Kd.R_alloc | apply Kd.R_drewN | apply Kd.R_drew)); exact HO_6.out) (Kd.R_base ho0) hb); have n1_ := Aside0.mk (Kd.R_lower (Kd.R_new' ho0 (Kd.R_lt (by (with_reducible repeat (first | apply Kd.R_alloc | apply Kd.R_drewN | apply Kd.R_drew)); exact HO_6.out))) (below_size (by repeat (first | (with_reducible first | exact HB.out | apply below_alloc | apply pw_below_drewN | apply below_drew1) | exact HB.out)))); have n2_ := Aside0.mk (below_step (by repeat (first | (with_reducible first | exact HB.out | apply below_alloc | apply pw_below_drewN | apply below_drew1) | exact HB.out)) hb); clear HO_6; clear HB; have HO_6 := n0_; have HO387 := n1_; have HB := n2_; clear n0_ n1_ n2_; (try clear hb); (try clear hb2); (try clear hk); (try clear hi); (try clear ho0)) | ((with_reducible refine gate_callee (f := 12) rfl ?_); refine goesL_ (some 50) rfl rfl Tryd.func12 (by kernel_rfl) rfl #[.int .i64 t372] rfl (by (try simp only [List.map_toArray, List.map_cons, List.map_nil]); first | done | rfl | (simp only [List.length_drop, List.length_take]; rfl)) ?_; (with_reducible refine (falseworklaw16_num.calls t372 t388 _ A19.out).mono ?_); rintro e w' ⟨rfl, ⟨nd, rfl⟩⟩; refine ⟨_, rfl, ?_⟩; obtain ⟨Ao35, co35, eo35⟩ := Kd.R_slice HO_6.out; subst eo35; have p389 : 0 ≤ (0 : Int) := (by omega); have q389 : 0 < (t370.length : Int) := of_decide_eq_true (by first | (with_reducible assumption) | assumption); obtain ⟨ad389, e389, hx389_0, hx389_1, hx389_2, hx389_3, hx389_4, hx389_5, hx389_6⟩ := at_T39 (Kd.R_reads' HO_6.out).2.2 0 p389 q389; cases e389; have qi389 : (0 < t370.length) = True := eq_true (by omega); (try rw [show ((0 : Int)).toNat = 0 from rfl] at hx389_0); (try rw [show 0 * 7 = 0 from rfl] at hx389_0); (try rw [Addr.add_zero'] at hx389_0); (try rw [show ((0 : Int)).toNat = 0 from rfl] at hx389_1); (try rw [show 0 * 7 = 0 from rfl] at hx389_1); (try rw [Addr.add_zero'] at hx389_1); (try rw [show ((0 : Int)).toNat = 0 from rfl] at hx389_2); (try rw [show 0 * 7 = 0 from rfl] at hx389_2); (try rw [Addr.add_zero'] at hx389_2); (try rw [show ((0 : Int)).toNat = 0 from rfl] at hx389_3); (try rw [show 0 * 7 = 0 from rfl] at hx389_3); (try rw [Addr.add_zero'] at hx389_3); (try rw [show ((0 : Int)).toNat = 0 from rfl] at hx389_4); (try rw [show 0 * 7 = 0 from rfl] at hx389_4); (try rw [Addr.add_zero'] at hx389_4); (try rw [show ((0 : Int)).toNat = 0 from rfl] at hx389_5); (try rw [show 0 * 7 = 0 from rfl] at hx389_5); (try rw [Addr.add_zero'] at hx389_5); (try rw [show ((0 : Int)).toNat = 0 from rfl] at hx389_6); (try rw [show 0 * 7 = 0 from rfl] at hx389_6); (try rw [Addr.add_zero'] at hx389_6); replace p389 := eq_true p389; replace q389 := eq_true q389))
         go_ret
         exact ⟨by first | rfl | (simp [errW_none, errW_some] <;> rfl) | (simp [*, errW_none, errW_some] <;> rfl), by repeat (first | (with_reducible first | exact HB.out | apply below_alloc | apply pw_below_drewN | apply below_drew1) | exact HB.out)⟩
       ·rw [if_neg c22] at H
        exact absurd H (by simp)
      ·rw [if_neg c21] at H
       have c21b0 : ((t370.length : Int) == 2) = false := beq_eq_false_iff_ne.mpr c21
       have c21b1 : ((t370.length : Int) != 2) = true := bne_iff_ne.mpr c21
       obtain rfl := Option.some.inj H
       go_wp2_with (first | ((with_reducible refine gate_callee (f := 9) rfl ?_); refine goesL_ (some 45) rfl rfl Tryd.func9 (by kernel_rfl) rfl #[.string x12_7] rfl (by (try simp only [List.map_toArray, List.map_cons, List.map_nil]); first | done | rfl | (simp only [List.length_drop, List.length_take]; rfl)) ?_; (with_reducible refine (lex_Lex.calls kj7 x12_7 t383 t384 t385 _ A18.out ?side1).mono ?_); (case side1 => exact GL.of_below HG.out (by repeat (first | (with_reducible first | exact HB.out | apply below_alloc | apply pw_below_drewN | apply below_drew1) | exact HB.out))); rintro e w36 ⟨v386, rfl, ho0, hb⟩; refine ⟨_, rfl, ?_⟩; have n0_ := Aside0.mk (Kd.R_elder' (by (with_reducible repeat (first | apply Kd.R_alloc | apply Kd.R_drewN | apply Kd.R_drew)); exact HO_6.out) (Kd.R_base ho0) hb); have n1_ := Aside0.mk (Kd.R_lower (Kd.R_new' ho0 (Kd.R_lt (by (with_reducible repeat (first | apply Kd.R_alloc | apply Kd.R_drewN | apply Kd.R_drew)); exact HO_6.out))) (below_size (by repeat (first | (with_reducible first | exact HB.out | apply below_alloc | apply pw_below_drewN | apply below_drew1) | exact HB.out)))); have n2_ := Aside0.mk (below_step (by repeat (first | (with_reducible first | exact HB.out | apply below_alloc | apply pw_below_drewN | apply below_drew1) | exact HB.out)) hb); clear HO_6; clear HB; have HO_6 := n0_; have HO387 := n1_; have HB := n2_; clear n0_ n1_ n2_; (try clear hb); (try clear hb2); (try clear hk); (try clear hi); (try clear ho0)) | ((with_reducible refine gate_callee (f := 12) rfl ?_); refine goesL_ (some 50) rfl rfl Tryd.func12 (by kernel_rfl) rfl #[.int .i64 t372] rfl (by (try simp only [List.map_toArray, List.map_cons, List.map_nil]); first | done | rfl | (simp only [List.length_drop, List.length_take]; rfl)) ?_; (with_reducible refine (falseworklaw16_num.calls t372 t388 _ A19.out).mono ?_); rintro e w' ⟨rfl, ⟨nd, rfl⟩⟩; refine ⟨_, rfl, ?_⟩; obtain ⟨Ao37, co37, eo37⟩ := Kd.R_slice HO_6.out; subst eo37))
       go_ret
       exact ⟨by first | rfl | (simp [errW_none, errW_some] <;> rfl) | (simp [*, errW_none, errW_some] <;> rfl), by repeat (first | (with_reducible first | exact HB.out | apply below_alloc | apply pw_below_drewN | apply below_drew1) | exact HB.out)⟩
     ·rw [if_neg c20] at H
      have c20b0 : (t388 == 0) = false := beq_eq_false_iff_ne.mpr c20
      have c20b1 : (t388 != 0) = true := bne_iff_ne.mpr c20
      obtain rfl := Option.some.inj H
      go_wp2_with (first | ((with_reducible refine gate_callee (f := 9) rfl ?_); refine goesL_ (some 45) rfl rfl Tryd.func9 (by kernel_rfl) rfl #[.string x12_7] rfl (by (try simp only [List.map_toArray, List.map_cons, List.map_nil]); first | done | rfl | (simp only [List.length_drop, List.length_take]; rfl)) ?_; (with_reducible refine (lex_Lex.calls kj7 x12_7 t383 t384 t385 _ A18.out ?side1).mono ?_); (case side1 => exact GL.of_below HG.out (by repeat (first | (with_reducible first | exact HB.out | apply below_alloc | apply pw_below_drewN | apply below_drew1) | exact HB.out))); rintro e w38 ⟨v386, rfl, ho0, hb⟩; refine ⟨_, rfl, ?_⟩; have n0_ := Aside0.mk (Kd.R_elder' (by (with_reducible repeat (first | apply Kd.R_alloc | apply Kd.R_drewN | apply Kd.R_drew)); exact HO_6.out) (Kd.R_base ho0) hb); have n1_ := Aside0.mk (Kd.R_lower (Kd.R_new' ho0 (Kd.R_lt (by (with_reducible repeat (first | apply Kd.R_alloc | apply Kd.R_drewN | apply Kd.R_drew)); exact HO_6.out))) (below_size (by repeat (first | (with_reducible first | exact HB.out | apply below_alloc | apply pw_below_drewN | apply below_drew1) | exact HB.out)))); have n2_ := Aside0.mk (below_step (by repeat (first | (with_reducible first | exact HB.out | apply below_alloc | apply pw_below_drewN | apply below_drew1) | exact HB.out)) hb); clear HO_6; clear HB; have HO_6 := n0_; have HO387 := n1_; have HB := n2_; clear n0_ n1_ n2_; (try clear hb); (try clear hb2); (try clear hk); (try clear hi); (try clear ho0)) | ((with_reducible refine gate_callee (f := 12) rfl ?_); refine goesL_ (some 50) rfl rfl Tryd.func12 (by kernel_rfl) rfl #[.int .i64 t372] rfl (by (try simp only [List.map_toArray, List.map_cons, List.map_nil]); first | done | rfl | (simp only [List.length_drop, List.length_take]; rfl)) ?_; (with_reducible refine (falseworklaw16_num.calls t372 t388 _ A19.out).mono ?_); rintro e w' ⟨rfl, ⟨nd, rfl⟩⟩; refine ⟨_, rfl, ?_⟩))
      go_ret
      exact ⟨by first | rfl | (simp [errW_none, errW_some] <;> rfl) | (simp [*, errW_none, errW_some] <;> rfl), by repeat (first | (with_reducible first | exact HB.out | apply below_alloc | apply pw_below_drewN | apply below_drew1) | exact HB.out)⟩
  ·rw [if_neg c7] at H
   exact absurd H (by simp)
 ·rw [if_neg c5] at H
  exact absurd H (by simp)
end Go.Proofs.YtjehfmimbbdnkaaDoor.L
namespace Go.Proofs.YtjehfmimbbdnkaaDoor.LexPure
open Go.RowKit Go.Proofs.YtjehfmimbbdnkaaDoorW.PrintWords Go.Proofs.YtjehfmimbbdnkaaDoorW.PrintLast Go.Proofs.YtjehfmimbbdnkaaDoorW.PrintMore
open Go.Proofs.YtjehfmimbbdnkaaDoor.L Go.Proofs.YtjehfmimbbdnkaaDoor
theorem wrap_small {i : Int} (h0 : -9223372036854775808 ≤ i) (h1 : i < 9223372036854775808) : wrap64 i = i := by unfold wrap64; omega
abbrev L8 (s : ByteArray) : List UInt8 := s.data.toList
theorem L8_len (s : ByteArray) : (L8 s).length = s.size := by unfold L8; rw [Array.length_toList]; rfl
theorem bt_L8 (s : ByteArray) (i : Nat) (h : i < s.size) : bt s (i : Int) = (((L8 s)[i]'(by rw [L8_len]; exact h)).toNat : Int) := by
  unfold bt
  rw [dif_pos (by simpa using h)]
  simp [L8, ByteArray.getElem_eq_getElem_data]
theorem drop_L8 (s : ByteArray) (i : Nat) (h : i < s.size) : (L8 s).drop i = (L8 s)[i]'(by rw [L8_len]; exact h) :: (L8 s).drop (i + 1) := List.drop_eq_getElem_cons (by rw [L8_len]; exact h)
def textS : List UInt8 → Option (List UInt8 × Nat)
  | [] => none
  | c :: r =>
    if c = 39 then
      match r with
      | d :: r' => if d = 39 then (textS r').map fun x => (39 :: x.1, x.2 + 2) else some ([], 1)
      | [] => some ([], 1)
    else if c < 32 ∨ 126 < c then none else (textS r).map fun x => (c :: x.1, x.2 + 1)
def textR (s : ByteArray) (b : List Int) (i : Nat) : Option (List UInt8 × Nat) → Int × ByteArray × Int × Int × Int × ByteArray × Int × Int
  | none => (0, ⟨#[]⟩, 0, 0, 0, ⟨#[]⟩, 0, 0)
  | some (l, n) => if 40 < b.length + l.length then (0, ⟨#[]⟩, 0, 0, 0, ⟨#[]⟩, 0, 0)
    else (3, s.extract 0 (i + n), 5, 0, 0, strOfNums (b ++ l.map fun c => (c.toNat : Int)), 0, ((i + n : Nat) : Int))
theorem len_small {b : List Int} {i : Nat} {s : ByteArray} (hs : s.size ≤ 1000) (hi : i < s.size) (hb : b.length ≤ i) : b.length < 140737488355328 := by omega
theorem text_stop (k : Nat) (s : ByteArray) (b : List Int) (i : Nat) (hs : s.size ≤ 1000) (hi : i < s.size) (hc : bt s (i : Int) = 39) :
    lex_text.j1 (k + 1) s b (i : Int) false = some (textR s b i (some ([], 1))) := by
  unfold lex_text.j1
  rw [if_neg (by simp), if_pos (by omega), if_pos (by omega), if_pos hc]
  have hw : wrap64 ((i : Int) + 1) = ((i + 1 : Nat) : Int) := by rw [wrap_small (by omega) (by omega)]; omega
  by_cases h : 40 < b.length
  · rw [if_pos (by omega)]
    simp [textR, h]
  · rw [if_neg (by omega), hw, if_pos (by omega), if_pos (by omega)]
    simp only [textR, List.length_nil, Nat.add_zero, if_neg h, List.map_nil, List.append_nil, Int.toNat_natCast]
theorem textR_cons (s : ByteArray) (b : List Int) (i n : Nat) (c : UInt8) (x : Option (List UInt8 × Nat)) :
    textR s b i (x.map fun y => (c :: y.1, y.2 + n)) = textR s (b ++ [(c.toNat : Int)]) (i + n) x := by
  cases x with
  | none => rfl
  | some y =>
    obtain ⟨l, m⟩ := y
    have e1 : b.length + (c :: l).length = (b ++ [(c.toNat : Int)]).length + l.length := by simp; omega
    have e2 : i + (m + n) = i + n + m := by omega
    simp only [Option.map_some, textR, e1, e2, List.map_cons, List.append_assoc, List.singleton_append]
set_option maxRecDepth 4000 in
theorem text_loop (s : ByteArray) (hs : s.size ≤ 1000) : ∀ (m k i : Nat) (b : List Int), s.size ≤ i + m → 1 ≤ i → b.length ≤ i → 2 * m < k →
    lex_text.l0 k s b (i : Int) = some (textR s b i (textS ((L8 s).drop i)))
  | m, 0, i, b, h, h1, hb, hk => by omega
  | 0, k + 1, i, b, h, h1, hb, hk => by
    have : (L8 s).drop i = [] := List.drop_eq_nil_of_le (by rw [L8_len]; omega)
    rw [this]
    unfold lex_text.l0
    rw [if_neg (by omega)]
    rfl
  | m + 1, 1, i, b, h, h1, hb, hk => by omega
  | m + 1, k + 2, i, b, h, h1, hb, hk => by
    by_cases hi : i < s.size
    · have hw : wrap64 ((i : Int) + 1) = ((i + 1 : Nat) : Int) := by rw [wrap_small (by omega) (by omega)]; omega
      rw [drop_L8 s i hi]
      have hbi := bt_L8 s i hi
      generalize hc : (L8 s)[i]'(by rw [L8_len]; exact hi) = c at hbi ⊢
      unfold lex_text.l0
      rw [if_pos (by omega), if_pos (by omega)]
      by_cases hq : c = 39
      · subst hq
        have hbi' : bt s (i : Int) = 39 := hbi
        rw [if_pos hbi', hw]
        by_cases h2 : i + 1 < s.size
        · rw [if_pos (by omega), if_pos (by omega), drop_L8 s (i + 1) h2]
          have hbd := bt_L8 s (i + 1) h2
          generalize hd : (L8 s)[i + 1]'(by rw [L8_len]; exact h2) = d at hbd ⊢
          by_cases hq2 : d = 39
          · subst hq2
            have hbd' : bt s ((i + 1 : Nat) : Int) = 39 := hbd
            rw [hbd']
            have hw2 : wrap64 (((i + 1 : Nat) : Int) + 1) = ((i + 2 : Nat) : Int) := by rw [wrap_small (by omega) (by omega)]; omega
            have e : textS (39 :: 39 :: (L8 s).drop (i + 1 + 1)) = (textS ((L8 s).drop (i + 2))).map fun x => (39 :: x.1, x.2 + 2) := by simp [textS]
            rw [e, textR_cons]
            show lex_text.j1 (k + 1) s b (i : Int) true = _
            unfold lex_text.j1
            rw [if_pos rfl, hw, if_pos (by omega), if_pos (by omega), if_pos (len_small hs hi hb), hw2, hbd']
            exact text_loop s hs m k (i + 2) (b ++ [39]) (by omega) (by omega) (by simp; omega) (by omega)
          · have hbd' : (bt s ((i + 1 : Nat) : Int) == 39) = false := by
              rw [hbd, beq_eq_false_iff_ne]
              intro hh
              exact hq2 (UInt8.toNat_inj.1 (by have : d.toNat = 39 := by omega
                                               exact this))
            rw [hbd', text_stop k s b i hs hi hbi']
            have e : textS (39 :: d :: (L8 s).drop (i + 1 + 1)) = some ([], 1) := by simp [textS, hq2]
            rw [e]
        · rw [if_neg (by omega), text_stop k s b i hs hi hbi']
          have e0 : (L8 s).drop (i + 1) = [] := List.drop_eq_nil_of_le (by rw [L8_len]; omega)
          rw [e0]
          simp [textS]
      · have hne : ¬ bt s (i : Int) = 39 := by
          rw [hbi]
          intro hh
          exact hq (UInt8.toNat_inj.1 (by have : c.toNat = 39 := by omega
                                          exact this))
        rw [if_neg hne]
        have e : textS (c :: (L8 s).drop (i + 1)) = if c < 32 ∨ 126 < c then none else (textS ((L8 s).drop (i + 1))).map fun x => (c :: x.1, x.2 + 1) := by
          rw [textS.eq_def]; simp only [if_neg hq]
        unfold lex_text.j1
        rw [if_neg (by simp), if_pos (by omega), if_pos (by omega), if_neg hne, e]
        have l1 : (c < 32) ↔ c.toNat < 32 := UInt8.lt_iff_toNat_lt
        have l2 : (126 < c) ↔ 126 < c.toNat := UInt8.lt_iff_toNat_lt
        by_cases h3 : c.toNat < 32
        · rw [if_pos (by omega), if_pos (.inl (l1.2 h3))]
          rfl
        · rw [if_neg (by omega)]
          by_cases h4 : 126 < c.toNat
          · rw [if_pos (by omega), if_pos (.inr (l2.2 h4))]
            rfl
          · rw [if_neg (by omega), if_pos (len_small hs hi hb), if_neg (by rw [l1, l2]; omega), textR_cons, hbi, hw]
            exact text_loop s hs m k (i + 1) (b ++ [(c.toNat : Int)]) (by omega) (by omega) (by simp; omega) (by omega)
    · have : (L8 s).drop i = [] := List.drop_eq_nil_of_le (by rw [L8_len]; omega)
      rw [this]
      unfold lex_text.l0
      rw [if_neg (by omega)]
      rfl
theorem lex_text_eq (s : ByteArray) (hs : s.size ≤ 1000) (k : Nat) (hk : 2000 < k) :
    lex_text.f k s = some (textR s [] 1 (textS ((L8 s).drop 1))) := by
  unfold lex_text.f
  exact text_loop s hs 999 k 1 [] (by omega) (by omega) (by simp) (by omega)
end Go.Proofs.YtjehfmimbbdnkaaDoor.LexPure
namespace Go.Proofs.YtjehfmimbbdnkaaDoor.LexPure
open Go.RowKit Go.Proofs.YtjehfmimbbdnkaaDoorW.PrintWords Go.Proofs.YtjehfmimbbdnkaaDoorW.PrintLast Go.Proofs.YtjehfmimbbdnkaaDoorW.PrintMore
open Go.Proofs.YtjehfmimbbdnkaaDoor.L Go.Proofs.YtjehfmimbbdnkaaDoor
theorem L8_ext (s : ByteArray) (i j : Nat) : L8 (s.extract i j) = ((L8 s).drop i).take (j - i) := by
  unfold L8
  rw [ByteArray.data_extract, Array.toList_extract, List.extract_eq_take_drop]
theorem size_ext (s : ByteArray) (i j : Nat) (h : j ≤ s.size) : (s.extract i j).size = j - i := by
  rw [← L8_len, L8_ext, List.length_take, List.length_drop, L8_len]; omega
def pairsS : List UInt8 → List Int
  | a :: b :: r => ((16 * hexVal a + hexVal b : Nat) : Int) :: pairsS r
  | _ => []
theorem hexVal_lt {c : UInt8} (h : isHex c = true) : hexVal c < 16 := by
  rcases hex_cases h with ⟨h1, h2, h3⟩ | ⟨h1, h2, h3⟩ <;> omega
theorem puint_pair (s : ByteArray) (i : Nat) (hi : i + 2 ≤ s.size) (a b : UInt8) (hd : ((L8 s).drop i).take 2 = [a, b]) (ha : isHex a = true) (hb : isHex b = true) :
    strconv_ParseUint.f (s.extract i (i + 2)) 16 8 = some (((16 * hexVal a + hexVal b : Nat) : Int), none) := by
  have hz := size_ext s i (i + 2) hi
  have hl : (s.extract i (i + 2)).data.toList = [a, b] := by
    have := L8_ext s i (i + 2)
    rw [show i + 2 - i = 2 from by omega] at this
    exact this.trans hd
  unfold strconv_ParseUint.f
  have hx := hexVal_lt ha
  have hy := hexVal_lt hb
  rw [if_pos ⟨rfl, .inr rfl, by omega, by rw [hl]; simp [ha, hb]⟩, if_neg (by omega), hl, pmax8]
  have e : h16 255 0 [a, b] = .ok (16 * hexVal a + hexVal b) := by
    unfold h16
    rw [if_neg (by omega), if_neg (by omega)]
    unfold h16
    rw [if_neg (by omega), if_neg (by omega)]
    unfold h16
    congr 1
    omega
  rw [e]
theorem pairs_loop (s : ByteArray) (hs : s.size ≤ 1000) (stop : Nat) (hst : stop ≤ s.size) (hall : ∀ c ∈ ((L8 s).drop 2).take (stop - 2), isHex c = true)
    (c0 : Int) (c1 : ByteArray) (c2 c3 c4 : Int) (c5 : ByteArray) (c6 : Int) : ∀ (m k j : Nat) (b : List Int), j + 2 * m = stop → 2 ≤ j → b.length ≤ j → m < k →
    lex_coded.l0 k s (stop : Int) b (j : Int) c0 c1 c2 c3 c4 c5 c6 = some (c0, c1, 4, 0, 0, strOfNums (b ++ pairsS (((L8 s).drop j).take (stop - j))), c6, wrap64 ((stop : Int) + 1))
  | _, 0, _, _, _, _, _, hk => by omega
  | 0, k + 1, j, b, h, h2, hb, hk => by
    obtain rfl : j = stop := by omega
    unfold lex_coded.l0
    rw [if_neg (by omega), Nat.sub_self]
    simp [pairsS]
  | m + 1, k + 1, j, b, h, h2, hb, hk => by
    have hw : wrap64 ((j : Int) + 2) = ((j + 2 : Nat) : Int) := by rw [wrap_small (by omega) (by omega)]; omega
    have d1 := drop_L8 s j (by omega)
    have d2 := drop_L8 s (j + 1) (by omega)
    generalize ha : (L8 s)[j]'(by rw [L8_len]; omega) = a at d1
    generalize hc : (L8 s)[j + 1]'(by rw [L8_len]; omega) = c at d2
    have hd : (L8 s).drop j = a :: c :: (L8 s).drop (j + 2) := by rw [d1, d2]
    have ht : ((L8 s).drop j).take (stop - j) = a :: c :: ((L8 s).drop (j + 2)).take (stop - (j + 2)) := by
      rw [hd, show stop - j = (stop - (j + 2)) + 1 + 1 from by omega]; rfl
    have hin : ∀ x ∈ ((L8 s).drop j).take (stop - j), isHex x = true := by
      intro x hx
      refine hall x ?_
      have e : ((L8 s).drop j).take (stop - j) = (((L8 s).drop 2).take (stop - 2)).drop (j - 2) := by
        rw [List.drop_take, List.drop_drop]
        congr 1
        · omega
        · congr 1; omega
      rw [e] at hx
      exact List.mem_of_mem_drop hx
    have hxa : isHex a = true := hin a (by rw [ht]; simp)
    have hxc : isHex c = true := hin c (by rw [ht]; simp)
    have hv := hexVal_lt hxa
    have hv2 := hexVal_lt hxc
    unfold lex_coded.l0
    rw [if_pos (by omega), if_pos (by omega), hw, if_pos (by omega), if_pos (by omega), Int.toNat_natCast, Int.toNat_natCast,
      puint_pair s j (by omega) a c (by rw [hd]; rfl) hxa hxc, Option.bind_some, if_pos (by omega)]
    simp only []
    have hmod : (((16 * hexVal a + hexVal c : Nat) : Int)) % 256 = ((16 * hexVal a + hexVal c : Nat) : Int) := by omega
    rw [hmod, pairs_loop s hs stop hst hall c0 c1 c2 c3 c4 c5 c6 m k (j + 2) _ (by omega) (by omega) (by simp; omega) (by omega), ht]
    simp only [pairsS, List.append_assoc, List.singleton_append]
def none8 : Int × ByteArray × Int × Int × Int × ByteArray × Int × Int := (0, ⟨#[]⟩, 0, 0, 0, ⟨#[]⟩, 0, 0)
def hexN (s : ByteArray) : Nat := (((L8 s).drop 2).takeWhile isHex).length
def digitsS (s : ByteArray) : List UInt8 := ((L8 s).drop 2).takeWhile isHex
def codedR (s : ByteArray) : Int × ByteArray × Int × Int × Int × ByteArray × Int × Int :=
  if s.size ≤ 2 + hexN s then none8
  else if bt s ((2 + hexN s : Nat) : Int) ≠ 39 then none8
  else if bt s 0 = 102 then
    (if hexN s = 16 then
      (match h16 18446744073709551615 0 (digitsS s) with
        | .ok v => (3, s.extract 0 (2 + hexN s + 1), 3, 0, canonI (v : Int), ⟨#[]⟩, 0, ((2 + hexN s + 1 : Nat) : Int))
        | _ => none8)
    else none8)
  else if hexN s % 2 = 1 ∨ 40 < hexN s / 2 then none8
  else (3, s.extract 0 (2 + hexN s + 1), 4, 0, 0, strOfNums (pairsS (digitsS s)), 0, ((2 + hexN s + 1 : Nat) : Int))
theorem take_takeWhile {α : Type} (p : α → Bool) : ∀ l : List α, l.take (l.takeWhile p).length = l.takeWhile p
  | [] => rfl
  | a :: l => by
    by_cases h : p a = true
    · simp [h, take_takeWhile p l]
    · simp [h]
theorem takeWhile_all {α : Type} (p : α → Bool) : ∀ l : List α, ∀ x ∈ l.takeWhile p, p x = true
  | [], x, h => by cases h
  | a :: l, x, h => by
    by_cases hp : p a = true
    · rw [List.takeWhile_cons, if_pos hp] at h
      rcases List.mem_cons.1 h with rfl | h
      · exact hp
      · exact takeWhile_all p l x h
    · rw [List.takeWhile_cons, if_neg hp] at h
      cases h
theorem digits_eq (s : ByteArray) : ((L8 s).drop 2).take (hexN s) = digitsS s := take_takeWhile _ _
theorem digits_all (s : ByteArray) : ∀ c ∈ digitsS s, isHex c = true := takeWhile_all _ _
theorem hexN_le (s : ByteArray) (h : 2 ≤ s.size) : 2 + hexN s ≤ s.size := by
  have h1 : hexN s ≤ ((L8 s).drop 2).length := (List.takeWhile_sublist _).length_le
  rw [List.length_drop, L8_len] at h1
  omega
theorem h16_bound (M : Nat) : ∀ (l : List UInt8) (acc v : Nat), acc ≤ M → h16 M acc l = .ok v → v ≤ M
  | [], acc, v, h, e => by
    unfold h16 at e
    cases e
    exact h
  | c :: l, acc, v, h, e => by
    unfold h16 at e
    split at e
    · cases e
    · split at e
      · cases e
      · exact h16_bound M l _ v (by omega) e
theorem h16_some (M : Nat) : ∀ (l : List UInt8) (acc : Nat), (∃ v, h16 M acc l = .ok v) ∨ h16 M acc l = .range
  | [], acc => .inl ⟨acc, by unfold h16; rfl⟩
  | c :: l, acc => by
    unfold h16
    split
    · exact .inr rfl
    · split
      · exact .inr rfl
      · exact h16_some M l _
set_option maxRecDepth 4000 in
theorem lex_coded_eq (s : ByteArray) (hs : s.size ≤ 1000) (h2 : 2 ≤ s.size) (k : Nat) (hk : 2000 < k) : lex_coded.f k s = some (codedR s) := by
  obtain ⟨k, rfl⟩ : ∃ k', k = k' + 1 + 1 := ⟨k - 2, by omega⟩
  have hle := hexN_le s h2
  have hrun : lex_run.f (s.extract 2 s.size) 43 = some (hexN s : Int) := by
    unfold lex_run.f
    rw [if_pos (by rw [size_ext s 2 s.size (Nat.le_refl _)]; omega)]
    have e : headLen isHex (s.extract 2 s.size) = hexN s := by
      unfold headLen hexN
      have := L8_ext s 2 s.size
      unfold L8 at this
      rw [this, List.take_of_length_le (by rw [List.length_drop, Array.length_toList]; exact Nat.le_refl _)]
    simp [kindOf, e]
  have hw : wrap64 (2 + (hexN s : Int)) = ((2 + hexN s : Nat) : Int) := by rw [wrap_small (by omega) (by omega)]; omega
  have hw1 : wrap64 (((2 + hexN s : Nat) : Int) + 1) = ((2 + hexN s + 1 : Nat) : Int) := by rw [wrap_small (by omega) (by omega)]; omega
  unfold lex_coded.f codedR
  rw [if_pos (by omega), hrun, Option.bind_some, hw]
  by_cases h3 : s.size ≤ 2 + hexN s
  · rw [if_pos (by omega), if_pos h3]
    rw [lex_coded.j0]
    rw [if_pos rfl]
    rfl
  · rw [if_neg (by omega), if_neg h3, if_pos (by omega), if_pos (by omega)]
    by_cases h4 : bt s ((2 + hexN s : Nat) : Int) = 39
    · rw [if_neg (fun h => h h4)]
      have hb : (bt s ((2 + hexN s : Nat) : Int) != 39) = false := bne_eq_false_iff_eq.2 h4
      rw [hb]
      rw [lex_coded.j0]
      rw [if_neg (by simp), hw1, if_pos (by omega), if_pos (by omega), if_pos (by omega)]
      by_cases h5 : bt s 0 = 102
      · rw [if_pos h5, if_pos h5, if_pos (by omega), if_pos (by omega), Int.toNat_natCast, Int.toNat_natCast]
        have hdl : (s.extract 2 (2 + hexN s)).data.toList = digitsS s := by
          have := L8_ext s 2 (2 + hexN s)
          rw [show 2 + hexN s - 2 = hexN s from by omega, digits_eq] at this
          exact this
        have hsz : (s.extract 2 (2 + hexN s)).size = hexN s := by rw [size_ext _ _ _ (by omega)]; omega
        have hp : strconv_ParseUint.f (s.extract 2 (2 + hexN s)) 16 64 = ((if hexN s = 0 then some (0, some 0) else match h16 18446744073709551615 0 (digitsS s) with
            | .ok n => some ((n : Int), none)
            | .range => some (((18446744073709551615 : Nat) : Int), some 0)
            | _ => none) : Option (Int × Option Int)) := by
          unfold strconv_ParseUint.f
          rw [if_pos ⟨rfl, .inl rfl, by omega, by rw [hdl]; exact List.all_eq_true.2 (digits_all s)⟩, hdl, hsz, pmax64]
          rcases h16_some 18446744073709551615 (digitsS s) 0 with ⟨v, hv⟩ | hv <;> rw [hv]
        rw [hp]
        by_cases h6 : hexN s = 16
        · rw [if_neg (by omega), if_pos h6]
          rcases h16_some 18446744073709551615 (digitsS s) 0 with ⟨v, hv⟩ | hv
          · have hv2 := h16_bound _ _ _ _ (by omega) hv
            rw [hv]
            simp only [Option.bind_some]
            rw [if_pos (by omega), if_pos (show (none : Option Int).isNone = true from rfl)]
            unfold flo_Canon.f
            rw [if_pos (by omega), if_pos (by omega)]
            rfl
          · rw [hv]
            simp only [Option.bind_some]
            rw [if_pos (by omega), if_neg (by simp)]
            rfl
        · rw [if_neg h6]
          by_cases h7 : hexN s = 0
          · rw [if_pos h7]
            simp only [Option.bind_some]
            rw [if_neg (by omega)]
            rfl
          · rw [if_neg h7]
            rcases h16_some 18446744073709551615 (digitsS s) 0 with ⟨v, hv⟩ | hv
            · rw [hv]
              simp only [Option.bind_some]
              rw [if_neg (by omega)]
              rfl
            · rw [hv]
              simp only [Option.bind_some]
              rw [if_neg (by omega)]
              rfl
      · rw [if_neg h5, if_neg h5]
        have hm : Int.tmod (hexN s : Int) 2 = ((hexN s % 2 : Nat) : Int) := by rw [Int.tmod_eq_emod_of_nonneg (by omega)]; omega
        have hq : wrap64 (Int.tdiv (hexN s : Int) 2) = ((hexN s / 2 : Nat) : Int) := by rw [Int.tdiv_eq_ediv_of_nonneg (by omega), wrap_small (by omega) (by omega)]; omega
        rw [hm, hq, Int.toNat_natCast]
        by_cases h6 : hexN s % 2 = 1
        · rw [if_pos (by omega), if_pos (.inl h6)]
          rw [lex_coded.j1]
          rw [if_pos rfl]
          rfl
        · rw [if_neg (by omega)]
          rw [lex_coded.j1]
          by_cases h7 : 40 < hexN s / 2
          · rw [if_pos (decide_eq_true (by omega)), if_pos (.inr h7)]
            rfl
          · rw [if_neg (by rw [decide_eq_true_eq]; omega), if_neg (by omega)]
            have := pairs_loop s hs (2 + hexN s) (by omega) (by rw [show 2 + hexN s - 2 = hexN s from by omega, digits_eq]; exact digits_all s) 3 (s.extract 0 (2 + hexN s + 1)) 0 0 0 ⟨#[]⟩ 0 (hexN s / 2) k 2 [] (by omega) (by omega) (by simp) (by omega)
            rw [show 2 + hexN s - 2 = hexN s from by omega, digits_eq, hw1, List.nil_append] at this
            exact this
    · rw [if_pos h4]
      have hb : (bt s ((2 + hexN s : Nat) : Int) != 39) = true := bne_iff_ne.2 h4
      rw [hb]
      rw [lex_coded.j0]
      rw [if_pos rfl]
      rfl
end Go.Proofs.YtjehfmimbbdnkaaDoor.LexPure
namespace Go.Proofs.YtjehfmimbbdnkaaDoor.LexPure
open Go.RowKit Go.Proofs.YtjehfmimbbdnkaaDoorW.PrintWords Go.Proofs.YtjehfmimbbdnkaaDoorW.PrintLast Go.Proofs.YtjehfmimbbdnkaaDoorW.PrintMore
open Go.Proofs.YtjehfmimbbdnkaaDoor.L Go.Proofs.YtjehfmimbbdnkaaDoor
theorem index_any (l : List ByteArray) (s : ByteArray) (hl : l.length < 1000000) : ∀ (m k i : Nat), i + m = l.length → m < k →
    ∃ j, slices_Index_string_string.l0 k l s (l.length : Int) (i : Int) = some j ∧ decide (j ≥ 0) = (l.drop i).any (fun w => s.toList == w.toList)
  | 0, k + 1, i, h, _ => by
    obtain rfl : i = l.length := by omega
    refine ⟨-1, ?_, ?_⟩
    · simp [slices_Index_string_string.l0]
    · simp
  | m + 1, k + 1, i, h, hk => by
    obtain ⟨j, hj, ha⟩ := index_any l s hl m k (i + 1) (by omega) (by omega)
    have hi : i < l.length := by omega
    have hd : l.drop i = l[i] :: l.drop (i + 1) := List.drop_eq_getElem_cons hi
    have hr : rdOf ByteArray.empty l (i : Int) = l[i] := by simp [rdOf, List.getD, hi]
    unfold slices_Index_string_string.l0
    rw [if_pos (by omega), if_pos (by omega), if_pos (by omega), hr, hd]
    by_cases hs : s.toList = l[i].toList
    · rw [if_pos hs]
      exact ⟨_, rfl, by rw [List.any_cons, beq_iff_eq.mpr hs, Bool.true_or]; exact decide_eq_true (by omega)⟩
    · rw [if_neg hs, wrap_small (by omega) (by omega)]
      refine ⟨j, by simpa using hj, ?_⟩
      rw [ha, List.any_cons, beq_eq_false_iff_ne.mpr hs, Bool.false_or]
def isWord (s : ByteArray) : Bool := wordsL.any fun w => s.toList == w.toList
theorem lex_word (s : ByteArray) (k : Nat) (hk : 100 < k) : lex_Word.f k s = some (isWord s) := by
  have hl : wordsL.length = 32 := by decide +kernel
  obtain ⟨j, hj, ha⟩ := index_any wordsL s (by omega) wordsL.length k 0 (by omega) (by omega)
  have h1 : slices_Index_string_string.f k wordsL s = some j := by unfold slices_Index_string_string.f; simpa using hj
  unfold lex_Word.f lex_words.f slices_Contains_string_string.f
  simp only [Option.bind_some, h1, ha, List.drop_zero]
  rfl
def namN (s : ByteArray) : Nat := headLen isNam s
theorem headLen_le (p : UInt8 → Bool) (s : ByteArray) : headLen p s ≤ s.size := by
  have := (List.takeWhile_sublist (l := s.data.toList) p).length_le
  rw [Array.length_toList] at this
  exact this
def namedR (s : ByteArray) : Int × ByteArray × Int × Int × Int × ByteArray × Int × Int :=
  if 16 < namN s then (2, s.extract 0 (namN s), 0, 0, 0, ⟨#[]⟩, 0, 0)
  else if isWord (s.extract 0 (namN s)) = true then (1, s.extract 0 (namN s), 0, 0, 0, ⟨#[]⟩, 0, (namN s : Int))
  else (2, s.extract 0 (namN s), 0, 0, 0, ⟨#[]⟩, 0, (namN s : Int))
theorem lex_named_eq (s : ByteArray) (hs : s.size ≤ 1000) (k : Nat) (hk : 2000 < k) : lex_named.f k s = some (namedR s) := by
  have hle := headLen_le isNam s
  have hrun : lex_run.f s 46 = some (namN s : Int) := by
    unfold lex_run.f
    rw [if_pos (by omega)]
    rfl
  unfold namN at hrun
  unfold lex_named.f namedR namN
  rw [hrun, Option.bind_some, if_pos (by omega), if_pos (by omega), Int.toNat_natCast]
  by_cases h : 16 < headLen isNam s
  · rw [if_pos (by omega), if_pos h]
  · rw [if_neg (by omega), if_neg h, lex_word _ k (by omega), Option.bind_some]
    split <;> rfl
def signs : List UInt8 := [40, 41, 44, 59, 61, 60, 62, 43, 42]
def oneR (s : ByteArray) : Int × ByteArray × Int × Int × Int × ByteArray × Int × Int :=
  if (bt s 0 = 120 ∨ bt s 0 = 102) ∧ 1 < s.size ∧ bt s 1 = 39 then codedR s
  else if 97 ≤ bt s 0 ∧ bt s 0 ≤ 122 then namedR s
  else if (48 ≤ bt s 0 ∧ bt s 0 ≤ 57) ∨ bt s 0 = 45 then numR s
  else if bt s 0 = 39 then textR s [] 1 (textS ((L8 s).drop 1))
  else if signs.contains ((bt s 0).toNat.toUInt8) then (4, s.extract 0 1, 0, 0, 0, ⟨#[]⟩, 0, 1)
  else none8
theorem index_ge (c : UInt8) : ∀ l : List UInt8, -1 ≤ Lib.indexByte l c ∧ (0 ≤ Lib.indexByte l c ↔ l.contains c = true)
  | [] => by simp [Lib.indexByte]
  | b :: l => by
    obtain ⟨h1, h2⟩ := index_ge c l
    unfold Lib.indexByte
    by_cases h : b = c
    · subst h
      simp
    · rw [if_neg (by simpa using h)]
      have hc : (b :: l).contains c = l.contains c := by
        rw [List.contains_cons, show (c == b) = false from beq_eq_false_iff_ne.2 (fun e => h e.symm), Bool.false_or]
      rw [hc, ← h2]
      by_cases h3 : Lib.indexByte l c = -1
      · rw [if_pos (by simpa using h3)]
        omega
      · rw [if_neg (by simpa using h3)]
        omega
theorem one_j1 (s : ByteArray) (hs : s.size ≤ 1000) (h0 : 0 < s.size) (k : Nat) (hk : 2000 < k) (f : Bool) (hf : f = decide ((48 ≤ bt s 0 ∧ bt s 0 ≤ 57) ∨ bt s 0 = 45)) :
    lex_one.j1 (k + 1) s (bt s 0) f = some (if (48 ≤ bt s 0 ∧ bt s 0 ≤ 57) ∨ bt s 0 = 45 then numR s
      else if bt s 0 = 39 then textR s [] 1 (textS ((L8 s).drop 1))
      else if signs.contains ((bt s 0).toNat.toUInt8) then (4, s.extract 0 1, 0, 0, 0, ⟨#[]⟩, 0, 1)
      else none8) := by
  rw [lex_one.j1]
  by_cases h : (48 ≤ bt s 0 ∧ bt s 0 ≤ 57) ∨ bt s 0 = 45
  · rw [if_pos (by rw [hf]; exact decide_eq_true h), if_pos h]
    unfold lex_number.f
    rw [if_pos ⟨h0, hs⟩]
    generalize numR s = r
    rfl
  · rw [if_neg (by rw [hf, decide_eq_false h]; simp), if_neg h]
    by_cases h1 : bt s 0 = 39
    · rw [if_pos h1, if_pos h1, lex_text_eq s hs k hk]
      generalize textR s [] 1 (textS ((L8 s).drop 1)) = r
      rfl
    · rw [if_neg h1, if_neg h1]
      unfold strings_IndexByte.f
      rw [Option.bind_some, show (⟨#[40, 41, 44, 59, 61, 60, 62, 43, 42]⟩ : ByteArray).data.toList = signs from rfl]
      obtain ⟨_, h2⟩ := index_ge (bt s 0).toNat.toUInt8 signs
      by_cases h3 : signs.contains (bt s 0).toNat.toUInt8 = true
      · rw [if_pos h3, if_pos (show Lib.indexByte signs (bt s 0).toNat.toUInt8 ≥ 0 from h2.2 h3), if_pos (by omega), if_pos (by omega)]
      · rw [if_neg h3, if_neg (show ¬ Lib.indexByte signs (bt s 0).toNat.toUInt8 ≥ 0 from fun e => h3 (h2.1 e))]
        rfl
theorem one_j0 (s : ByteArray) (hs : s.size ≤ 1000) (h0 : 0 < s.size) (k : Nat) (hk : 2001 < k) (f : Bool) (hf : f = decide ((bt s 0 = 120 ∨ bt s 0 = 102) ∧ 1 < s.size ∧ bt s 1 = 39)) :
    lex_one.j0 (k + 1) s (bt s 0) f = some (oneR s) := by
  rw [lex_one.j0]
  unfold oneR
  by_cases h : (bt s 0 = 120 ∨ bt s 0 = 102) ∧ 1 < s.size ∧ bt s 1 = 39
  · rw [if_pos (by rw [hf]; exact decide_eq_true h), if_pos h, lex_coded_eq s hs (by omega) k (by omega)]
    generalize codedR s = r
    rfl
  · rw [if_neg (by rw [hf, decide_eq_false h]; simp), if_neg h]
    unfold lex_letter.f lex_digit.f
    by_cases h1 : 97 ≤ bt s 0 ∧ bt s 0 ≤ 122
    · rw [if_pos h1, if_pos (by omega), decide_eq_true h1.2, Option.bind_some, if_pos rfl, lex_named_eq s hs k (by omega)]
      generalize namedR s = r
      rfl
    · rw [if_neg h1]
      have e1 : (if bt s 0 ≥ 97 then some (decide (bt s 0 ≤ 122)) else some false) = some false := by
        split
        · rw [decide_eq_false (by omega)]
        · rfl
      rw [e1, Option.bind_some, if_neg (by simp)]
      obtain ⟨k, rfl⟩ : ∃ k', k = k' + 1 := ⟨k - 1, by omega⟩
      by_cases h2 : 48 ≤ bt s 0 ∧ bt s 0 ≤ 57
      · rw [if_pos (show bt s 0 ≥ 48 from h2.1), decide_eq_true h2.2, Option.bind_some, if_pos rfl]
        exact one_j1 s hs h0 k (by omega) true (by rw [decide_eq_true (.inl h2)])
      · have e2 : (if bt s 0 ≥ 48 then some (decide (bt s 0 ≤ 57)) else some false) = some false := by
          split
          · rw [decide_eq_false (by omega)]
          · rfl
        rw [e2, Option.bind_some, if_neg (by simp)]
        refine one_j1 s hs h0 k (by omega) _ ?_
        by_cases h3 : bt s 0 = 45
        · rw [decide_eq_true (.inr h3), h3]; rfl
        · rw [decide_eq_false (by omega), beq_eq_false_iff_ne.2 h3]
theorem lex_one_eq (s : ByteArray) (hs : s.size ≤ 1000) (h0 : 0 < s.size) (k : Nat) (hk : 2002 < k) : lex_one.f k s = some (oneR s) := by
  obtain ⟨k, rfl⟩ : ∃ k', k = k' + 1 := ⟨k - 1, by omega⟩
  have J := one_j0 s hs h0 k (by omega)
  unfold lex_one.f
  rw [if_pos (by omega)]
  by_cases h1 : bt s 0 = 120
  · rw [if_pos h1]
    by_cases h2 : 1 < s.size
    · rw [if_pos (by omega), if_pos (by omega)]
      refine J _ ?_
      by_cases h3 : bt s 1 = 39
      · rw [decide_eq_true ⟨.inl h1, h2, h3⟩, h3]; rfl
      · rw [decide_eq_false (fun e => h3 e.2.2), beq_eq_false_iff_ne.2 h3]
    · rw [if_neg (by omega)]
      exact J _ (by rw [decide_eq_false (fun e => h2 e.2.1)])
  · rw [if_neg h1]
    by_cases h1' : bt s 0 = 102
    · rw [if_pos h1']
      by_cases h2 : 1 < s.size
      · rw [if_pos (by omega), if_pos (by omega)]
        refine J _ ?_
        by_cases h3 : bt s 1 = 39
        · rw [decide_eq_true ⟨.inr h1', h2, h3⟩, h3]; rfl
        · rw [decide_eq_false (fun e => h3 e.2.2), beq_eq_false_iff_ne.2 h3]
      · rw [if_neg (by omega)]
        exact J _ (by rw [decide_eq_false (fun e => h2 e.2.1)])
    · rw [if_neg h1']
      exact J _ (by rw [decide_eq_false (fun e => e.1.elim h1 h1')])
end Go.Proofs.YtjehfmimbbdnkaaDoor.LexPure
namespace Go.Proofs.YtjehfmimbbdnkaaDoor.LexPure
open Go.RowKit Go.Proofs.YtjehfmimbbdnkaaDoorW.PrintWords Go.Proofs.YtjehfmimbbdnkaaDoorW.PrintLast Go.Proofs.YtjehfmimbbdnkaaDoorW.PrintMore
open Go.Proofs.YtjehfmimbbdnkaaDoor.L Go.Proofs.YtjehfmimbbdnkaaDoor
def blankAt (s : ByteArray) (i : Nat) : Bool := bt s (i : Int) == 32 || (bt s (i : Int) == 9 || bt s (i : Int) == 10)
def tokAt (s : ByteArray) (i : Nat) : Int × ByteArray × Int × Int × Int × ByteArray × Int × Int := oneR (s.extract i s.size)
def tokOf (r : Int × ByteArray × Int × Int × Int × ByteArray × Int × Int) (i : Nat) : S39 := ⟨r.1, r.2.1, ⟨r.2.2.1, r.2.2.2.1, r.2.2.2.2.1, r.2.2.2.2.2.1⟩, (i : Int)⟩
def endTok (s : ByteArray) : S39 := ⟨0, ⟨#[]⟩, ⟨0, 0, 0, ⟨#[]⟩⟩, (s.size : Int)⟩
def lexT (s : ByteArray) : Nat → Nat → Int → Except Nat (List S39)
  | 0, _, _ => .ok []
  | m + 1, i, nx =>
    if (i : Int) < nx ∨ blankAt s i = true then lexT s m (i + 1) nx
    else if (tokAt s i).2.2.2.2.2.2.2 = 0 then .error i
    else match lexT s m (i + 1) (wrap64 ((i : Int) + (tokAt s i).2.2.2.2.2.2.2)) with
      | .ok l => .ok (tokOf (tokAt s i) i :: l)
      | .error e => .error e
theorem lexT_skip (s : ByteArray) (m i : Nat) (nx : Int) (h : (i : Int) < nx ∨ blankAt s i = true) : lexT s (m + 1) i nx = lexT s m (i + 1) nx := by
  rw [lexT, if_pos h]
theorem lexT_go (s : ByteArray) (m i : Nat) (nx : Int) (h : ¬ ((i : Int) < nx ∨ blankAt s i = true)) : lexT s (m + 1) i nx =
    if (tokAt s i).2.2.2.2.2.2.2 = 0 then .error i
    else match lexT s m (i + 1) (wrap64 ((i : Int) + (tokAt s i).2.2.2.2.2.2.2)) with
      | .ok l => .ok (tokOf (tokAt s i) i :: l)
      | .error e => .error e := by
  rw [lexT, if_neg h]
def lexR (s : ByteArray) (acc : List S39) : Except Nat (List S39) → (List S39) × Int × Int
  | .ok l => (acc ++ l ++ [endTok s], 0, 0)
  | .error e => ([], (e : Int), 3)
theorem lex_loop (s : ByteArray) (hs : s.size ≤ 400) : ∀ (m k i : Nat) (acc : List S39) (nx : Int), i + m = s.size → acc.length ≤ i → 2 * m + 3000 < k →
    lex_Lex.l0 k s acc nx (s.size : Int) (i : Int) = some (lexR s acc (lexT s m i nx))
  | 0, k + 1, i, acc, nx, h, ha, hk => by
    unfold lex_Lex.l0
    rw [if_neg (by omega), if_pos (by omega)]
    simp only [lexT, lexR, List.append_nil]
    rfl
  | m + 1, 0, i, acc, nx, h, ha, hk => by omega
  | m + 1, 1, i, acc, nx, h, ha, hk => by omega
  | m + 1, k + 2, i, acc, nx, h, ha, hk => by
    have hw : wrap64 ((i : Int) + 1) = ((i + 1 : Nat) : Int) := by rw [wrap_small (by omega) (by omega)]; omega
    have skip : lex_Lex.j1 (k + 1) s acc nx (i : Int) (s.size : Int) (i : Int) true = some (lexR s acc (lexT s m (i + 1) nx)) := by
      unfold lex_Lex.j1
      rw [if_pos rfl, hw]
      exact lex_loop s hs m k (i + 1) acc nx (by omega) (by omega) (by omega)
    unfold lex_Lex.l0
    rw [if_pos (by omega)]
    by_cases h1 : (i : Int) < nx
    · rw [if_pos h1, skip]
      rw [lexT_skip s m i nx (.inl h1)]
    · rw [if_neg h1, if_pos (by omega), if_pos (by omega)]
      by_cases h2 : bt s (i : Int) = 32
      · rw [if_pos h2, skip]
        rw [lexT_skip s m i nx (.inr (by unfold blankAt; rw [h2]; rfl))]
      · rw [if_neg h2]
        by_cases h3 : bt s (i : Int) = 9
        · rw [if_pos h3, skip]
          rw [lexT_skip s m i nx (.inr (by unfold blankAt; rw [h3]; rfl))]
        · rw [if_neg h3]
          by_cases h4 : bt s (i : Int) = 10
          · rw [h4]
            refine Eq.trans skip ?_
            rw [lexT_skip s m i nx (.inr (by unfold blankAt; rw [h4]; rfl))]
          · rw [beq_eq_false_iff_ne.2 h4]
            have hb : ¬ ((i : Int) < nx ∨ blankAt s i = true) := by
              unfold blankAt
              rw [beq_eq_false_iff_ne.2 h2, beq_eq_false_iff_ne.2 h3, beq_eq_false_iff_ne.2 h4]
              simpa using h1
            rw [lexT_go s m i nx hb]
            have hz := size_ext s i s.size (Nat.le_refl _)
            unfold lex_Lex.j1
            rw [if_neg (by simp), if_pos (by omega), if_pos (by omega), Int.toNat_natCast, lex_one_eq (s.extract i s.size) (by omega) (by omega) k (by omega), Option.bind_some]
            show (if (tokAt s i).2.2.2.2.2.2.2 = 0 then _ else _) = _
            by_cases h5 : (tokAt s i).2.2.2.2.2.2.2 = 0
            · rw [if_pos h5, if_pos h5]
              rfl
            · rw [if_neg h5, if_neg h5, if_pos (by omega), hw]
              have ih := lex_loop s hs m k (i + 1) (acc ++ [tokOf (tokAt s i) i]) (wrap64 ((i : Int) + (tokAt s i).2.2.2.2.2.2.2)) (by omega) (by simp; omega) (by omega)
              refine Eq.trans ih ?_
              cases lexT s m (i + 1) (wrap64 ((i : Int) + (tokAt s i).2.2.2.2.2.2.2)) with
              | error e => rfl
              | ok l => simp [lexR]
theorem lex_lex_eq (s : ByteArray) (k : Nat) (hk : 4000 < k) : lex_Lex.f k s = some (if 400 < s.size then ([], 0, 2) else lexR s [] (lexT s s.size 0 0)) := by
  unfold lex_Lex.f
  by_cases h : 400 < s.size
  · rw [if_pos (by omega), if_pos h]
  · rw [if_neg (by omega), if_neg h]
    exact lex_loop s (by omega) s.size k 0 [] 0 (by omega) (by simp) (by omega)
end Go.Proofs.YtjehfmimbbdnkaaDoor.LexPure
namespace Go.Proofs.YtjehfmimbbdnkaaDoor.LexPure
open Go.RowKit Go.Proofs.YtjehfmimbbdnkaaDoorW.PrintWords Go.Proofs.YtjehfmimbbdnkaaDoorW.PrintLast Go.Proofs.YtjehfmimbbdnkaaDoorW.PrintMore
open Go.Proofs.YtjehfmimbbdnkaaDoor.L Go.Proofs.YtjehfmimbbdnkaaDoor
def Sound (u : ByteArray) (r : Int × ByteArray × Int × Int × Int × ByteArray × Int × Int) : Prop :=
  r.2.2.2.2.2.2.2 = 0 ∨ ∃ n : Nat, 0 < n ∧ n ≤ u.size ∧ r.2.2.2.2.2.2.2 = (n : Int) ∧ r.2.1 = u.extract 0 n ∧ 1 ≤ r.1 ∧ r.1 ≤ 4
theorem sound_none (u : ByteArray) : Sound u none8 := .inl rfl
theorem sound_mk (u : ByteArray) (n : Nat) (kd vk vn vf : Int) (vs : ByteArray) (a : Int) (hk : 1 ≤ kd ∧ kd ≤ 4) (h0 : 0 < n) (h1 : n ≤ u.size) : Sound u (kd, u.extract 0 n, vk, vn, vf, vs, a, (n : Int)) :=
  .inr ⟨n, h0, h1, rfl, rfl, hk⟩
theorem textS_le : ∀ (m : Nat) (l c : List UInt8) (n : Nat), l.length ≤ m → textS l = some (c, n) → 1 ≤ n ∧ n ≤ l.length
  | m, [], c, n, _, h => by simp [textS] at h
  | 0, _ :: _, c, n, hm, h => by simp at hm
  | m + 1, a :: r, c, n, hm, h => by
    have hm' : r.length ≤ m := by simpa using hm
    rw [textS.eq_def] at h
    simp only [] at h
    split at h
    · split at h
      · rename_i d r'
        split at h
        · rw [Option.map_eq_some_iff] at h
          obtain ⟨⟨c', n'⟩, h1, h2⟩ := h
          obtain ⟨h3, h4⟩ := textS_le m r' c' n' (by simp at hm'; omega) h1
          have : n' + 2 = n := congrArg Prod.snd h2
          simp; omega
        · have : 1 = n := congrArg Prod.snd (Option.some.inj h)
          simp; omega
      · have : 1 = n := congrArg Prod.snd (Option.some.inj h)
        simp; omega
    · split at h
      · cases h
      · rw [Option.map_eq_some_iff] at h
        obtain ⟨⟨c', n'⟩, h1, h2⟩ := h
        obtain ⟨h3, h4⟩ := textS_le m r c' n' hm' h1
        have : n' + 1 = n := congrArg Prod.snd h2
        simp; omega
theorem sound_text (u : ByteArray) (h0 : 0 < u.size) : Sound u (textR u [] 1 (textS ((L8 u).drop 1))) := by
  cases h : textS ((L8 u).drop 1) with
  | none => exact .inl rfl
  | some x =>
    obtain ⟨c, n⟩ := x
    have := textS_le _ _ c n (Nat.le_refl _) h
    rw [List.length_drop, L8_len] at this
    show Sound u (if 40 < ([] : List Int).length + c.length then none8 else (3, u.extract 0 (1 + n), 5, 0, 0, strOfNums ([] ++ c.map fun x => (x.toNat : Int)), 0, ((1 + n : Nat) : Int)))
    split
    · exact sound_none u
    · exact sound_mk u _ _ _ _ _ _ _ (by decide) (by omega) (by omega)
theorem sound_coded (u : ByteArray) : Sound u (codedR u) := by
  unfold codedR
  split
  · exact sound_none u
  · split
    · exact sound_none u
    · split
      · split
        · split
          · exact sound_mk u _ _ _ _ _ _ _ (by decide) (by omega) (by omega)
          · exact sound_none u
        · exact sound_none u
      · split
        · exact sound_none u
        · exact sound_mk u _ _ _ _ _ _ _ (by decide) (by omega) (by omega)
theorem sound_named (u : ByteArray) : Sound u (namedR u) := by
  have hle := headLen_le isNam u
  have h1 : namN u = headLen isNam u := rfl
  unfold namedR
  split
  · exact .inl rfl
  · by_cases h : namN u = 0
    · split
      · exact .inl (by show ((namN u : Nat) : Int) = 0; omega)
      · exact .inl (by show ((namN u : Nat) : Int) = 0; omega)
    · split
      · exact sound_mk u _ _ _ _ _ _ _ (by decide) (by omega) (by omega)
      · exact sound_mk u _ _ _ _ _ _ _ (by decide) (by omega) (by omega)
theorem sound_num (u : ByteArray) (h0 : 0 < u.size) : Sound u (numR u) := by
  have hle := numN_le u (by unfold numAt; split <;> omega)
  unfold numR
  split
  · split
    · exact sound_none u
    · by_cases h : numAt u + numN u = 0
      · exact .inl (by show ((numAt u + numN u : Nat) : Int) = 0; omega)
      · exact sound_mk u _ _ _ _ _ _ _ (by decide) (by omega) (by omega)
  · exact sound_none u
theorem sound_one (u : ByteArray) (h0 : 0 < u.size) : Sound u (oneR u) := by
  unfold oneR
  split
  · exact sound_coded u
  · split
    · exact sound_named u
    · split
      · exact sound_num u h0
      · split
        · exact sound_text u h0
        · split
          · exact sound_mk u 1 _ _ _ _ _ _ (by decide) (by omega) (by omega)
          · exact sound_none u
end Go.Proofs.YtjehfmimbbdnkaaDoor.LexPure
namespace Go.Proofs.YtjehfmimbbdnkaaDoor.L
open Go.RowKit Go.Proofs.YtjehfmimbbdnkaaDoorW.PrintWords Go.Proofs.YtjehfmimbbdnkaaDoorW.PrintLast Go.Proofs.YtjehfmimbbdnkaaDoorW.PrintMore
attribute [local go_sem] max2_int min2_int max_two min_two max_three min_three max_four min_four
set_option linter.unusedVariables false
set_option linter.unusedSimpArgs false
attribute [local go_sem high] eqA37
def falseworklaw16_awake.f (k : Nat)  : Option (Bool) := (lex_Lex.f k (⟨#[97, 45, 53]⟩ : ByteArray)).bind fun bt268 => ((lex_Lex.f k (⟨#[65]⟩ : ByteArray)).bind fun bt273 => ((falseworklaw16_num.f bt268.2.2).bind fun t278 => (if t278 = 0 then (if (bt268.1.length : Int) = 3 then (if 1 < (bt268.1.length : Int) then (if (((rd_T39 bt268.1 1).f2.f0) == 2 && (((rd_T39 bt268.1 1).f2.f1) == (-5) && (((rd_T39 bt268.1 1).f2.f2) == 0 && ((((rd_T39 bt268.1 1).f2.f3).toList) == ([] : List UInt8))))) = true then ((falseworklaw16_num.f bt273.2.2).bind fun t280 => (if t280 = 3 then (some (bt273.2.1 == 0)) else (some false))) else (some false)) else (none)) else (some false)) else (some false))))
theorem falseworklaw16_awake.mono : ∀ k, LeO (falseworklaw16_awake.f k ) (falseworklaw16_awake.f (k + 1) ) := by
 intro  k
 unfold falseworklaw16_awake.f
 repeat' first
   | (with_reducible exact lex_Lex.mono _ _)
   | (with_reducible exact LeO.refl _)
   | (with_reducible exact LeO.none _)
   | (with_reducible refine LeO.ite ?_ ?_)
   | (with_reducible refine LeO.bind ?_ (fun _ => ?_))
   | exact lex_Lex.mono _ _
   | exact LeO.none _
   | refine LeO.ite ?_ ?_
   | refine LeO.bind ?_ (fun _ => ?_)
set_option maxHeartbeats 8000000 in
set_option maxRecDepth 100000 in
theorem falseworklaw16_awake.calls (k : Nat)  (r : Bool) (w : World) (h : falseworklaw16_awake.f k  = some r) (hG : GL w) :
  Calls Tryd.prog 13 #[] w fun e w' => e = .returned (.bool r) ∧ Below w.heap.size w w' := by
 have hu37 := Tryd.underlying37
 have HB := Aside0.mk (Below.refl w.heap.size w)
 have HG := Aside0.mk hG
 clear hG
 have H : ((lex_Lex.f k (⟨#[97, 45, 53]⟩ : ByteArray)).bind fun bt268 => ((lex_Lex.f k (⟨#[65]⟩ : ByteArray)).bind fun bt273 => ((falseworklaw16_num.f bt268.2.2).bind fun t278 => (if t278 = 0 then (if (bt268.1.length : Int) = 3 then (if 1 < (bt268.1.length : Int) then (if (((rd_T39 bt268.1 1).f2.f0) == 2 && (((rd_T39 bt268.1 1).f2.f1) == (-5) && (((rd_T39 bt268.1 1).f2.f2) == 0 && ((((rd_T39 bt268.1 1).f2.f3).toList) == ([] : List UInt8))))) = true then ((falseworklaw16_num.f bt273.2.2).bind fun t280 => (if t280 = 3 then (some (bt273.2.1 == 0)) else (some false))) else (some false)) else (none)) else (some false)) else (some false))))) = some r := h
 clear h
 replace H := Option.bind_eq_some_iff.mp H
 obtain ⟨⟨t268, t269, t270⟩, A10, H⟩ := H
 replace H : ((lex_Lex.f k (⟨#[65]⟩ : ByteArray)).bind fun bt273 => ((falseworklaw16_num.f t270).bind fun t278 => (if t278 = 0 then (if (t268.length : Int) = 3 then (if 1 < (t268.length : Int) then (if (((rd_T39 t268 1).f2.f0) == 2 && (((rd_T39 t268 1).f2.f1) == (-5) && (((rd_T39 t268 1).f2.f2) == 0 && ((((rd_T39 t268 1).f2.f3).toList) == ([] : List UInt8))))) = true then ((falseworklaw16_num.f bt273.2.2).bind fun t280 => (if t280 = 3 then (some (bt273.2.1 == 0)) else (some false))) else (some false)) else (none)) else (some false)) else (some false)))) = some r := H
 have A1 := Aside0.mk A10
 clear A10
 replace H := Option.bind_eq_some_iff.mp H
 obtain ⟨⟨t273, t274, t275⟩, A20, H⟩ := H
 replace H : ((falseworklaw16_num.f t270).bind fun t278 => (if t278 = 0 then (if (t268.length : Int) = 3 then (if 1 < (t268.length : Int) then (if (((rd_T39 t268 1).f2.f0) == 2 && (((rd_T39 t268 1).f2.f1) == (-5) && (((rd_T39 t268 1).f2.f2) == 0 && ((((rd_T39 t268 1).f2.f3).toList) == ([] : List UInt8))))) = true then ((falseworklaw16_num.f t275).bind fun t280 => (if t280 = 3 then (some (t274 == 0)) else (some false))) else (some false)) else (none)) else (some false)) else (some false))) = some r := H
 have A2 := Aside0.mk A20
 clear A20
 replace H := Option.bind_eq_some_iff.mp H
 obtain ⟨t278, A30, H⟩ := H
 replace H : (if t278 = 0 then (if (t268.length : Int) = 3 then (if 1 < (t268.length : Int) then (if (((rd_T39 t268 1).f2.f0) == 2 && (((rd_T39 t268 1).f2.f1) == (-5) && (((rd_T39 t268 1).f2.f2) == 0 && ((((rd_T39 t268 1).f2.f3).toList) == ([] : List UInt8))))) = true then ((falseworklaw16_num.f t275).bind fun t280 => (if t280 = 3 then (some (t274 == 0)) else (some false))) else (some false)) else (none)) else (some false)) else (some false)) = some r := H
 have A3 := Aside0.mk A30
 clear A30
 by_cases c4 : t278 = 0
 ·rw [if_pos c4] at H
  have c4b0 : (t278 == 0) = true := beq_iff_eq.mpr c4
  have c4b1 : (t278 != 0) = false := bne_eq_false_iff_eq.mpr c4
  clear c4
  by_cases c5 : (t268.length : Int) = 3
  ·rw [if_pos c5] at H
   have c5b0 : ((t268.length : Int) == 3) = true := beq_iff_eq.mpr c5
   have c5b1 : ((t268.length : Int) != 3) = false := bne_eq_false_iff_eq.mpr c5
   clear c5
   by_cases c6 : 1 < (t268.length : Int)
   ·rw [if_pos c6] at H
    have c6b0 : decide (1 < (t268.length : Int)) = true := decide_eq_true c6
    have c6b1 : decide (1 < t268.length) = true := decide_eq_true (by omega)
    clear c6
    by_cases c7 : (((rd_T39 t268 1).f2.f0) == 2 && (((rd_T39 t268 1).f2.f1) == (-5) && (((rd_T39 t268 1).f2.f2) == 0 && ((((rd_T39 t268 1).f2.f3).toList) == ([] : List UInt8))))) = true
    ·rw [if_pos c7] at H
     have c7b0 : (((rd_T39 t268 1).f2.f0) == 2 && (((rd_T39 t268 1).f2.f1) == (-5) && (((rd_T39 t268 1).f2.f2) == 0 && ((((rd_T39 t268 1).f2.f3).toList) == ([] : List UInt8))))) = true := c7
     (try (have c7e0 := c7b0; simp only [show ∀ l_ : List UInt8, (l_ == ([] : List UInt8)) = l_.isEmpty from fun l_ => by cases l_ <;> rfl] at c7e0))
     (try (have c7b1 : decide (((rd_T39 t268 1).f2.f0) = 2 && (((rd_T39 t268 1).f2.f1) == (-5) && (((rd_T39 t268 1).f2.f2) == 0 && ((((rd_T39 t268 1).f2.f3).toList) == ([] : List UInt8))))) = true := by simpa using c7))
     (try (have c7b2 : (((rd_T39 t268 1).f2.f0) == 2 && (((rd_T39 t268 1).f2.f1) == (-5) && (((rd_T39 t268 1).f2.f2) == 0 && ((((rd_T39 t268 1).f2.f3).toList) == ([] : List UInt8))))) = true := by simpa using c7))
     clear c7
     replace H := Option.bind_eq_some_iff.mp H
     obtain ⟨t280, A80, H⟩ := H
     replace H : (if t280 = 3 then (some (t274 == 0)) else (some false)) = some r := H
     have A8 := Aside0.mk A80
     clear A80
     by_cases c9 : t280 = 3
     ·rw [if_pos c9] at H
      have c9b0 : (t280 == 3) = true := beq_iff_eq.mpr c9
      have c9b1 : (t280 != 3) = false := bne_eq_false_iff_eq.mpr c9
      clear c9
      obtain rfl := Option.some.inj H
      go_enter Tryd.func13, Tryd.ntmps13
      go_wp2_with (first | ((with_reducible refine gate_callee (f := 9) rfl ?_); refine goesL_ (some 8) rfl rfl Tryd.func9 (by kernel_rfl) rfl #[.string (⟨#[97, 45, 53]⟩ : ByteArray)] rfl (by (try simp only [List.map_toArray, List.map_cons, List.map_nil]); first | done | rfl | (simp only [List.length_drop, List.length_take]; rfl)) ?_; (with_reducible refine (lex_Lex.calls k (⟨#[97, 45, 53]⟩ : ByteArray) t268 t269 t270 _ A1.out ?side1).mono ?_); (case side1 => exact GL.of_below HG.out (by repeat (first | (with_reducible first | exact HB.out | apply below_alloc | apply pw_below_drewN | apply below_drew1) | exact HB.out))); rintro e w10 ⟨v271, rfl, ho0, hb⟩; refine ⟨_, rfl, ?_⟩; have n0_ := Aside0.mk (Kd.R_lower ho0 (below_size (by repeat (first | (with_reducible first | exact HB.out | apply below_alloc | apply pw_below_drewN | apply below_drew1) | exact HB.out)))); have n1_ := Aside0.mk (below_step (by repeat (first | (with_reducible first | exact HB.out | apply below_alloc | apply pw_below_drewN | apply below_drew1) | exact HB.out)) hb); clear HB; have HO272 := n0_; have HB := n1_; clear n0_ n1_; (try clear hb); (try clear hb2); (try clear hk); (try clear hi); (try clear ho0)) | ((with_reducible refine gate_callee (f := 9) rfl ?_); refine goesL_ (some 13) rfl rfl Tryd.func9 (by kernel_rfl) rfl #[.string (⟨#[65]⟩ : ByteArray)] rfl (by (try simp only [List.map_toArray, List.map_cons, List.map_nil]); first | done | rfl | (simp only [List.length_drop, List.length_take]; rfl)) ?_; (with_reducible refine (lex_Lex.calls k (⟨#[65]⟩ : ByteArray) t273 t274 t275 _ A2.out ?side1).mono ?_); (case side1 => exact GL.of_below HG.out (by repeat (first | (with_reducible first | exact HB.out | apply below_alloc | apply pw_below_drewN | apply below_drew1) | exact HB.out))); rintro e w11 ⟨v276, rfl, ho0, hb⟩; refine ⟨_, rfl, ?_⟩; have n0_ := Aside0.mk (Kd.R_elder' (by (with_reducible repeat (first | apply Kd.R_alloc | apply Kd.R_drewN | apply Kd.R_drew)); exact HO272.out) (Kd.R_base ho0) hb); have n1_ := Aside0.mk (Kd.R_lower (Kd.R_new' ho0 (Kd.R_lt (by (with_reducible repeat (first | apply Kd.R_alloc | apply Kd.R_drewN | apply Kd.R_drew)); exact HO272.out))) (below_size (by repeat (first | (with_reducible first | exact HB.out | apply below_alloc | apply pw_below_drewN | apply below_drew1) | exact HB.out)))); have n2_ := Aside0.mk (below_step (by repeat (first | (with_reducible first | exact HB.out | apply below_alloc | apply pw_below_drewN | apply below_drew1) | exact HB.out)) hb); clear HO272; clear HB; have HO272 := n0_; have HO277 := n1_; have HB := n2_; clear n0_ n1_ n2_; (try clear hb); (try clear hb2); (try clear hk); (try clear hi); (try clear ho0)) | ((with_reducible refine gate_callee (f := 12) rfl ?_); refine goesL_ (some 18) rfl rfl Tryd.func12 (by kernel_rfl) rfl #[.int .i64 t270] rfl (by (try simp only [List.map_toArray, List.map_cons, List.map_nil]); first | done | rfl | (simp only [List.length_drop, List.length_take]; rfl)) ?_; (with_reducible refine (falseworklaw16_num.calls t270 t278 _ A3.out).mono ?_); rintro e w' ⟨rfl, ⟨nd, rfl⟩⟩; refine ⟨_, rfl, ?_⟩; obtain ⟨Ao12, co12, eo12⟩ := Kd.R_slice HO272.out; subst eo12; have p279 : 0 ≤ (1 : Int) := (by omega); have q279 : 1 < (t268.length : Int) := of_decide_eq_true (by first | (with_reducible assumption) | assumption); obtain ⟨ad279, e279, hx279_0, hx279_1, hx279_2, hx279_3, hx279_4, hx279_5, hx279_6⟩ := at_T39 (Kd.R_reads' HO272.out).2.2 1 p279 q279; cases e279; (try simp only [show (1 : Int).toNat = 1 from rfl, Nat.reduceMul, Nat.reduceEqDiff, Go.Addr.add, ↓reduceIte] at hx279_0); (try simp only [show (1 : Int).toNat = 1 from rfl, Nat.reduceMul, Nat.reduceEqDiff, Go.Addr.add, ↓reduceIte] at hx279_1); (try simp only [show (1 : Int).toNat = 1 from rfl, Nat.reduceMul, Nat.reduceEqDiff, Go.Addr.add, ↓reduceIte] at hx279_2); (try simp only [show (1 : Int).toNat = 1 from rfl, Nat.reduceMul, Nat.reduceEqDiff, Go.Addr.add, ↓reduceIte] at hx279_3); (try simp only [show (1 : Int).toNat = 1 from rfl, Nat.reduceMul, Nat.reduceEqDiff, Go.Addr.add, ↓reduceIte] at hx279_4); (try simp only [show (1 : Int).toNat = 1 from rfl, Nat.reduceMul, Nat.reduceEqDiff, Go.Addr.add, ↓reduceIte] at hx279_5); (try simp only [show (1 : Int).toNat = 1 from rfl, Nat.reduceMul, Nat.reduceEqDiff, Go.Addr.add, ↓reduceIte] at hx279_6); have qi279 : (1 < t268.length) = True := eq_true (by omega); (try rw [show ((1 : Int)).toNat = 1 from rfl] at hx279_0); (try rw [show 1 * 7 = 7 from rfl] at hx279_0); (try rw [show ((1 : Int)).toNat = 1 from rfl] at hx279_1); (try rw [show 1 * 7 = 7 from rfl] at hx279_1); (try rw [show ((1 : Int)).toNat = 1 from rfl] at hx279_2); (try rw [show 1 * 7 = 7 from rfl] at hx279_2); (try rw [show ((1 : Int)).toNat = 1 from rfl] at hx279_3); (try rw [show 1 * 7 = 7 from rfl] at hx279_3); (try rw [show ((1 : Int)).toNat = 1 from rfl] at hx279_4); (try rw [show 1 * 7 = 7 from rfl] at hx279_4); (try rw [show ((1 : Int)).toNat = 1 from rfl] at hx279_5); (try rw [show 1 * 7 = 7 from rfl] at hx279_5); (try rw [show ((1 : Int)).toNat = 1 from rfl] at hx279_6); (try rw [show 1 * 7 = 7 from rfl] at hx279_6); replace p279 := eq_true p279; replace q279 := eq_true q279) | (go_at_call 12; (with_reducible refine (falseworklaw16_num.calls t275 t280 _ A8.out).mono ?_); rintro e w' ⟨rfl, ⟨nd, rfl⟩⟩))
      go_ret
      exact ⟨by first | rfl | (simp [errW_none, errW_some] <;> rfl) | (simp [*, errW_none, errW_some] <;> rfl), by repeat (first | (with_reducible first | exact HB.out | apply below_alloc | apply pw_below_drewN | apply below_drew1) | exact HB.out)⟩
     ·rw [if_neg c9] at H
      have c9b0 : (t280 == 3) = false := beq_eq_false_iff_ne.mpr c9
      have c9b1 : (t280 != 3) = true := bne_iff_ne.mpr c9
      obtain rfl := Option.some.inj H
      go_enter Tryd.func13, Tryd.ntmps13
      go_wp2_with (first | ((with_reducible refine gate_callee (f := 9) rfl ?_); refine goesL_ (some 8) rfl rfl Tryd.func9 (by kernel_rfl) rfl #[.string (⟨#[97, 45, 53]⟩ : ByteArray)] rfl (by (try simp only [List.map_toArray, List.map_cons, List.map_nil]); first | done | rfl | (simp only [List.length_drop, List.length_take]; rfl)) ?_; (with_reducible refine (lex_Lex.calls k (⟨#[97, 45, 53]⟩ : ByteArray) t268 t269 t270 _ A1.out ?side1).mono ?_); (case side1 => exact GL.of_below HG.out (by repeat (first | (with_reducible first | exact HB.out | apply below_alloc | apply pw_below_drewN | apply below_drew1) | exact HB.out))); rintro e w13 ⟨v271, rfl, ho0, hb⟩; refine ⟨_, rfl, ?_⟩; have n0_ := Aside0.mk (Kd.R_lower ho0 (below_size (by repeat (first | (with_reducible first | exact HB.out | apply below_alloc | apply pw_below_drewN | apply below_drew1) | exact HB.out)))); have n1_ := Aside0.mk (below_step (by repeat (first | (with_reducible first | exact HB.out | apply below_alloc | apply pw_below_drewN | apply below_drew1) | exact HB.out)) hb); clear HB; have HO272 := n0_; have HB := n1_; clear n0_ n1_; (try clear hb); (try clear hb2); (try clear hk); (try clear hi); (try clear ho0)) | ((with_reducible refine gate_callee (f := 9) rfl ?_); refine goesL_ (some 13) rfl rfl Tryd.func9 (by kernel_rfl) rfl #[.string (⟨#[65]⟩ : ByteArray)] rfl (by (try simp only [List.map_toArray, List.map_cons, List.map_nil]); first | done | rfl | (simp only [List.length_drop, List.length_take]; rfl)) ?_; (with_reducible refine (lex_Lex.calls k (⟨#[65]⟩ : ByteArray) t273 t274 t275 _ A2.out ?side1).mono ?_); (case side1 => exact GL.of_below HG.out (by repeat (first | (with_reducible first | exact HB.out | apply below_alloc | apply pw_below_drewN | apply below_drew1) | exact HB.out))); rintro e w14 ⟨v276, rfl, ho0, hb⟩; refine ⟨_, rfl, ?_⟩; have n0_ := Aside0.mk (Kd.R_elder' (by (with_reducible repeat (first | apply Kd.R_alloc | apply Kd.R_drewN | apply Kd.R_drew)); exact HO272.out) (Kd.R_base ho0) hb); have n1_ := Aside0.mk (Kd.R_lower (Kd.R_new' ho0 (Kd.R_lt (by (with_reducible repeat (first | apply Kd.R_alloc | apply Kd.R_drewN | apply Kd.R_drew)); exact HO272.out))) (below_size (by repeat (first | (with_reducible first | exact HB.out | apply below_alloc | apply pw_below_drewN | apply below_drew1) | exact HB.out)))); have n2_ := Aside0.mk (below_step (by repeat (first | (with_reducible first | exact HB.out | apply below_alloc | apply pw_below_drewN | apply below_drew1) | exact HB.out)) hb); clear HO272; clear HB; have HO272 := n0_; have HO277 := n1_; have HB := n2_; clear n0_ n1_ n2_; (try clear hb); (try clear hb2); (try clear hk); (try clear hi); (try clear ho0)) | ((with_reducible refine gate_callee (f := 12) rfl ?_); refine goesL_ (some 18) rfl rfl Tryd.func12 (by kernel_rfl) rfl #[.int .i64 t270] rfl (by (try simp only [List.map_toArray, List.map_cons, List.map_nil]); first | done | rfl | (simp only [List.length_drop, List.length_take]; rfl)) ?_; (with_reducible refine (falseworklaw16_num.calls t270 t278 _ A3.out).mono ?_); rintro e w' ⟨rfl, ⟨nd, rfl⟩⟩; refine ⟨_, rfl, ?_⟩; obtain ⟨Ao15, co15, eo15⟩ := Kd.R_slice HO272.out; subst eo15; have p279 : 0 ≤ (1 : Int) := (by omega); have q279 : 1 < (t268.length : Int) := of_decide_eq_true (by first | (with_reducible assumption) | assumption); obtain ⟨ad279, e279, hx279_0, hx279_1, hx279_2, hx279_3, hx279_4, hx279_5, hx279_6⟩ := at_T39 (Kd.R_reads' HO272.out).2.2 1 p279 q279; cases e279; (try simp only [show (1 : Int).toNat = 1 from rfl, Nat.reduceMul, Nat.reduceEqDiff, Go.Addr.add, ↓reduceIte] at hx279_0); (try simp only [show (1 : Int).toNat = 1 from rfl, Nat.reduceMul, Nat.reduceEqDiff, Go.Addr.add, ↓reduceIte] at hx279_1); (try simp only [show (1 : Int).toNat = 1 from rfl, Nat.reduceMul, Nat.reduceEqDiff, Go.Addr.add, ↓reduceIte] at hx279_2); (try simp only [show (1 : Int).toNat = 1 from rfl, Nat.reduceMul, Nat.reduceEqDiff, Go.Addr.add, ↓reduceIte] at hx279_3); (try simp only [show (1 : Int).toNat = 1 from rfl, Nat.reduceMul, Nat.reduceEqDiff, Go.Addr.add, ↓reduceIte] at hx279_4); (try simp only [show (1 : Int).toNat = 1 from rfl, Nat.reduceMul, Nat.reduceEqDiff, Go.Addr.add, ↓reduceIte] at hx279_5); (try simp only [show (1 : Int).toNat = 1 from rfl, Nat.reduceMul, Nat.reduceEqDiff, Go.Addr.add, ↓reduceIte] at hx279_6); have qi279 : (1 < t268.length) = True := eq_true (by omega); (try rw [show ((1 : Int)).toNat = 1 from rfl] at hx279_0); (try rw [show 1 * 7 = 7 from rfl] at hx279_0); (try rw [show ((1 : Int)).toNat = 1 from rfl] at hx279_1); (try rw [show 1 * 7 = 7 from rfl] at hx279_1); (try rw [show ((1 : Int)).toNat = 1 from rfl] at hx279_2); (try rw [show 1 * 7 = 7 from rfl] at hx279_2); (try rw [show ((1 : Int)).toNat = 1 from rfl] at hx279_3); (try rw [show 1 * 7 = 7 from rfl] at hx279_3); (try rw [show ((1 : Int)).toNat = 1 from rfl] at hx279_4); (try rw [show 1 * 7 = 7 from rfl] at hx279_4); (try rw [show ((1 : Int)).toNat = 1 from rfl] at hx279_5); (try rw [show 1 * 7 = 7 from rfl] at hx279_5); (try rw [show ((1 : Int)).toNat = 1 from rfl] at hx279_6); (try rw [show 1 * 7 = 7 from rfl] at hx279_6); replace p279 := eq_true p279; replace q279 := eq_true q279) | (go_at_call 12; (with_reducible refine (falseworklaw16_num.calls t275 t280 _ A8.out).mono ?_); rintro e w' ⟨rfl, ⟨nd, rfl⟩⟩))
      go_ret
      exact ⟨by first | rfl | (simp [errW_none, errW_some] <;> rfl) | (simp [*, errW_none, errW_some] <;> rfl), by repeat (first | (with_reducible first | exact HB.out | apply below_alloc | apply pw_below_drewN | apply below_drew1) | exact HB.out)⟩
    ·rw [if_neg c7] at H
     have c7b0 : (((rd_T39 t268 1).f2.f0) == 2 && (((rd_T39 t268 1).f2.f1) == (-5) && (((rd_T39 t268 1).f2.f2) == 0 && ((((rd_T39 t268 1).f2.f3).toList) == ([] : List UInt8))))) = false := by simpa using c7
     (try (have c7e0 := c7b0; simp only [show ∀ l_ : List UInt8, (l_ == ([] : List UInt8)) = l_.isEmpty from fun l_ => by cases l_ <;> rfl] at c7e0))
     (try (have c7b1 : decide (((rd_T39 t268 1).f2.f0) = 2 && (((rd_T39 t268 1).f2.f1) == (-5) && (((rd_T39 t268 1).f2.f2) == 0 && ((((rd_T39 t268 1).f2.f3).toList) == ([] : List UInt8))))) = false := by simpa using c7))
     (try (have c7b2 : (((rd_T39 t268 1).f2.f0) == 2 && (((rd_T39 t268 1).f2.f1) == (-5) && (((rd_T39 t268 1).f2.f2) == 0 && ((((rd_T39 t268 1).f2.f3).toList) == ([] : List UInt8))))) = false := by simpa using c7))
     (try (have c7b3 : ¬ (((rd_T39 t268 1).f2.f0) = 2 && (((rd_T39 t268 1).f2.f1) == (-5) && (((rd_T39 t268 1).f2.f2) == 0 && ((((rd_T39 t268 1).f2.f3).toList) == ([] : List UInt8))))) := by simpa using c7))
     clear c7
     obtain rfl := Option.some.inj H
     go_enter Tryd.func13, Tryd.ntmps13
     go_wp2_with (first | ((with_reducible refine gate_callee (f := 9) rfl ?_); refine goesL_ (some 8) rfl rfl Tryd.func9 (by kernel_rfl) rfl #[.string (⟨#[97, 45, 53]⟩ : ByteArray)] rfl (by (try simp only [List.map_toArray, List.map_cons, List.map_nil]); first | done | rfl | (simp only [List.length_drop, List.length_take]; rfl)) ?_; (with_reducible refine (lex_Lex.calls k (⟨#[97, 45, 53]⟩ : ByteArray) t268 t269 t270 _ A1.out ?side1).mono ?_); (case side1 => exact GL.of_below HG.out (by repeat (first | (with_reducible first | exact HB.out | apply below_alloc | apply pw_below_drewN | apply below_drew1) | exact HB.out))); rintro e w16 ⟨v271, rfl, ho0, hb⟩; refine ⟨_, rfl, ?_⟩; have n0_ := Aside0.mk (Kd.R_lower ho0 (below_size (by repeat (first | (with_reducible first | exact HB.out | apply below_alloc | apply pw_below_drewN | apply below_drew1) | exact HB.out)))); have n1_ := Aside0.mk (below_step (by repeat (first | (with_reducible first | exact HB.out | apply below_alloc | apply pw_below_drewN | apply below_drew1) | exact HB.out)) hb); clear HB; have HO272 := n0_; have HB := n1_; clear n0_ n1_; (try clear hb); (try clear hb2); (try clear hk); (try clear hi); (try clear ho0)) | ((with_reducible refine gate_callee (f := 9) rfl ?_); refine goesL_ (some 13) rfl rfl Tryd.func9 (by kernel_rfl) rfl #[.string (⟨#[65]⟩ : ByteArray)] rfl (by (try simp only [List.map_toArray, List.map_cons, List.map_nil]); first | done | rfl | (simp only [List.length_drop, List.length_take]; rfl)) ?_; (with_reducible refine (lex_Lex.calls k (⟨#[65]⟩ : ByteArray) t273 t274 t275 _ A2.out ?side1).mono ?_); (case side1 => exact GL.of_below HG.out (by repeat (first | (with_reducible first | exact HB.out | apply below_alloc | apply pw_below_drewN | apply below_drew1) | exact HB.out))); rintro e w17 ⟨v276, rfl, ho0, hb⟩; refine ⟨_, rfl, ?_⟩; have n0_ := Aside0.mk (Kd.R_elder' (by (with_reducible repeat (first | apply Kd.R_alloc | apply Kd.R_drewN | apply Kd.R_drew)); exact HO272.out) (Kd.R_base ho0) hb); have n1_ := Aside0.mk (Kd.R_lower (Kd.R_new' ho0 (Kd.R_lt (by (with_reducible repeat (first | apply Kd.R_alloc | apply Kd.R_drewN | apply Kd.R_drew)); exact HO272.out))) (below_size (by repeat (first | (with_reducible first | exact HB.out | apply below_alloc | apply pw_below_drewN | apply below_drew1) | exact HB.out)))); have n2_ := Aside0.mk (below_step (by repeat (first | (with_reducible first | exact HB.out | apply below_alloc | apply pw_below_drewN | apply below_drew1) | exact HB.out)) hb); clear HO272; clear HB; have HO272 := n0_; have HO277 := n1_; have HB := n2_; clear n0_ n1_ n2_; (try clear hb); (try clear hb2); (try clear hk); (try clear hi); (try clear ho0)) | ((with_reducible refine gate_callee (f := 12) rfl ?_); refine goesL_ (some 18) rfl rfl Tryd.func12 (by kernel_rfl) rfl #[.int .i64 t270] rfl (by (try simp only [List.map_toArray, List.map_cons, List.map_nil]); first | done | rfl | (simp only [List.length_drop, List.length_take]; rfl)) ?_; (with_reducible refine (falseworklaw16_num.calls t270 t278 _ A3.out).mono ?_); rintro e w' ⟨rfl, ⟨nd, rfl⟩⟩; refine ⟨_, rfl, ?_⟩; obtain ⟨Ao18, co18, eo18⟩ := Kd.R_slice HO272.out; subst eo18; have p279 : 0 ≤ (1 : Int) := (by omega); have q279 : 1 < (t268.length : Int) := of_decide_eq_true (by first | (with_reducible assumption) | assumption); obtain ⟨ad279, e279, hx279_0, hx279_1, hx279_2, hx279_3, hx279_4, hx279_5, hx279_6⟩ := at_T39 (Kd.R_reads' HO272.out).2.2 1 p279 q279; cases e279; (try simp only [show (1 : Int).toNat = 1 from rfl, Nat.reduceMul, Nat.reduceEqDiff, Go.Addr.add, ↓reduceIte] at hx279_0); (try simp only [show (1 : Int).toNat = 1 from rfl, Nat.reduceMul, Nat.reduceEqDiff, Go.Addr.add, ↓reduceIte] at hx279_1); (try simp only [show (1 : Int).toNat = 1 from rfl, Nat.reduceMul, Nat.reduceEqDiff, Go.Addr.add, ↓reduceIte] at hx279_2); (try simp only [show (1 : Int).toNat = 1 from rfl, Nat.reduceMul, Nat.reduceEqDiff, Go.Addr.add, ↓reduceIte] at hx279_3); (try simp only [show (1 : Int).toNat = 1 from rfl, Nat.reduceMul, Nat.reduceEqDiff, Go.Addr.add, ↓reduceIte] at hx279_4); (try simp only [show (1 : Int).toNat = 1 from rfl, Nat.reduceMul, Nat.reduceEqDiff, Go.Addr.add, ↓reduceIte] at hx279_5); (try simp only [show (1 : Int).toNat = 1 from rfl, Nat.reduceMul, Nat.reduceEqDiff, Go.Addr.add, ↓reduceIte] at hx279_6); have qi279 : (1 < t268.length) = True := eq_true (by omega); (try rw [show ((1 : Int)).toNat = 1 from rfl] at hx279_0); (try rw [show 1 * 7 = 7 from rfl] at hx279_0); (try rw [show ((1 : Int)).toNat = 1 from rfl] at hx279_1); (try rw [show 1 * 7 = 7 from rfl] at hx279_1); (try rw [show ((1 : Int)).toNat = 1 from rfl] at hx279_2); (try rw [show 1 * 7 = 7 from rfl] at hx279_2); (try rw [show ((1 : Int)).toNat = 1 from rfl] at hx279_3); (try rw [show 1 * 7 = 7 from rfl] at hx279_3); (try rw [show ((1 : Int)).toNat = 1 from rfl] at hx279_4); (try rw [show 1 * 7 = 7 from rfl] at hx279_4); (try rw [show ((1 : Int)).toNat = 1 from rfl] at hx279_5); (try rw [show 1 * 7 = 7 from rfl] at hx279_5); (try rw [show ((1 : Int)).toNat = 1 from rfl] at hx279_6); (try rw [show 1 * 7 = 7 from rfl] at hx279_6); replace p279 := eq_true p279; replace q279 := eq_true q279))
     go_ret
     exact ⟨by first | rfl | (simp [errW_none, errW_some] <;> rfl) | (simp [*, errW_none, errW_some] <;> rfl), by repeat (first | (with_reducible first | exact HB.out | apply below_alloc | apply pw_below_drewN | apply below_drew1) | exact HB.out)⟩
   ·rw [if_neg c6] at H
    exact absurd H (by simp)
  ·rw [if_neg c5] at H
   have c5b0 : ((t268.length : Int) == 3) = false := beq_eq_false_iff_ne.mpr c5
   have c5b1 : ((t268.length : Int) != 3) = true := bne_iff_ne.mpr c5
   obtain rfl := Option.some.inj H
   go_enter Tryd.func13, Tryd.ntmps13
   go_wp2_with (first | ((with_reducible refine gate_callee (f := 9) rfl ?_); refine goesL_ (some 8) rfl rfl Tryd.func9 (by kernel_rfl) rfl #[.string (⟨#[97, 45, 53]⟩ : ByteArray)] rfl (by (try simp only [List.map_toArray, List.map_cons, List.map_nil]); first | done | rfl | (simp only [List.length_drop, List.length_take]; rfl)) ?_; (with_reducible refine (lex_Lex.calls k (⟨#[97, 45, 53]⟩ : ByteArray) t268 t269 t270 _ A1.out ?side1).mono ?_); (case side1 => exact GL.of_below HG.out (by repeat (first | (with_reducible first | exact HB.out | apply below_alloc | apply pw_below_drewN | apply below_drew1) | exact HB.out))); rintro e w19 ⟨v271, rfl, ho0, hb⟩; refine ⟨_, rfl, ?_⟩; have n0_ := Aside0.mk (Kd.R_lower ho0 (below_size (by repeat (first | (with_reducible first | exact HB.out | apply below_alloc | apply pw_below_drewN | apply below_drew1) | exact HB.out)))); have n1_ := Aside0.mk (below_step (by repeat (first | (with_reducible first | exact HB.out | apply below_alloc | apply pw_below_drewN | apply below_drew1) | exact HB.out)) hb); clear HB; have HO272 := n0_; have HB := n1_; clear n0_ n1_; (try clear hb); (try clear hb2); (try clear hk); (try clear hi); (try clear ho0)) | ((with_reducible refine gate_callee (f := 9) rfl ?_); refine goesL_ (some 13) rfl rfl Tryd.func9 (by kernel_rfl) rfl #[.string (⟨#[65]⟩ : ByteArray)] rfl (by (try simp only [List.map_toArray, List.map_cons, List.map_nil]); first | done | rfl | (simp only [List.length_drop, List.length_take]; rfl)) ?_; (with_reducible refine (lex_Lex.calls k (⟨#[65]⟩ : ByteArray) t273 t274 t275 _ A2.out ?side1).mono ?_); (case side1 => exact GL.of_below HG.out (by repeat (first | (with_reducible first | exact HB.out | apply below_alloc | apply pw_below_drewN | apply below_drew1) | exact HB.out))); rintro e w20 ⟨v276, rfl, ho0, hb⟩; refine ⟨_, rfl, ?_⟩; have n0_ := Aside0.mk (Kd.R_elder' (by (with_reducible repeat (first | apply Kd.R_alloc | apply Kd.R_drewN | apply Kd.R_drew)); exact HO272.out) (Kd.R_base ho0) hb); have n1_ := Aside0.mk (Kd.R_lower (Kd.R_new' ho0 (Kd.R_lt (by (with_reducible repeat (first | apply Kd.R_alloc | apply Kd.R_drewN | apply Kd.R_drew)); exact HO272.out))) (below_size (by repeat (first | (with_reducible first | exact HB.out | apply below_alloc | apply pw_below_drewN | apply below_drew1) | exact HB.out)))); have n2_ := Aside0.mk (below_step (by repeat (first | (with_reducible first | exact HB.out | apply below_alloc | apply pw_below_drewN | apply below_drew1) | exact HB.out)) hb); clear HO272; clear HB; have HO272 := n0_; have HO277 := n1_; have HB := n2_; clear n0_ n1_ n2_; (try clear hb); (try clear hb2); (try clear hk); (try clear hi); (try clear ho0)) | ((with_reducible refine gate_callee (f := 12) rfl ?_); refine goesL_ (some 18) rfl rfl Tryd.func12 (by kernel_rfl) rfl #[.int .i64 t270] rfl (by (try simp only [List.map_toArray, List.map_cons, List.map_nil]); first | done | rfl | (simp only [List.length_drop, List.length_take]; rfl)) ?_; (with_reducible refine (falseworklaw16_num.calls t270 t278 _ A3.out).mono ?_); rintro e w' ⟨rfl, ⟨nd, rfl⟩⟩; refine ⟨_, rfl, ?_⟩; obtain ⟨Ao21, co21, eo21⟩ := Kd.R_slice HO272.out; subst eo21))
   go_ret
   exact ⟨by first | rfl | (simp [errW_none, errW_some] <;> rfl) | (simp [*, errW_none, errW_some] <;> rfl), by repeat (first | (with_reducible first | exact HB.out | apply below_alloc | apply pw_below_drewN | apply below_drew1) | exact HB.out)⟩
 ·rw [if_neg c4] at H
  have c4b0 : (t278 == 0) = false := beq_eq_false_iff_ne.mpr c4
  have c4b1 : (t278 != 0) = true := bne_iff_ne.mpr c4
  obtain rfl := Option.some.inj H
  go_enter Tryd.func13, Tryd.ntmps13
  go_wp2_with (first | ((with_reducible refine gate_callee (f := 9) rfl ?_); refine goesL_ (some 8) rfl rfl Tryd.func9 (by kernel_rfl) rfl #[.string (⟨#[97, 45, 53]⟩ : ByteArray)] rfl (by (try simp only [List.map_toArray, List.map_cons, List.map_nil]); first | done | rfl | (simp only [List.length_drop, List.length_take]; rfl)) ?_; (with_reducible refine (lex_Lex.calls k (⟨#[97, 45, 53]⟩ : ByteArray) t268 t269 t270 _ A1.out ?side1).mono ?_); (case side1 => exact GL.of_below HG.out (by repeat (first | (with_reducible first | exact HB.out | apply below_alloc | apply pw_below_drewN | apply below_drew1) | exact HB.out))); rintro e w22 ⟨v271, rfl, ho0, hb⟩; refine ⟨_, rfl, ?_⟩; have n0_ := Aside0.mk (Kd.R_lower ho0 (below_size (by repeat (first | (with_reducible first | exact HB.out | apply below_alloc | apply pw_below_drewN | apply below_drew1) | exact HB.out)))); have n1_ := Aside0.mk (below_step (by repeat (first | (with_reducible first | exact HB.out | apply below_alloc | apply pw_below_drewN | apply below_drew1) | exact HB.out)) hb); clear HB; have HO272 := n0_; have HB := n1_; clear n0_ n1_; (try clear hb); (try clear hb2); (try clear hk); (try clear hi); (try clear ho0)) | ((with_reducible refine gate_callee (f := 9) rfl ?_); refine goesL_ (some 13) rfl rfl Tryd.func9 (by kernel_rfl) rfl #[.string (⟨#[65]⟩ : ByteArray)] rfl (by (try simp only [List.map_toArray, List.map_cons, List.map_nil]); first | done | rfl | (simp only [List.length_drop, List.length_take]; rfl)) ?_; (with_reducible refine (lex_Lex.calls k (⟨#[65]⟩ : ByteArray) t273 t274 t275 _ A2.out ?side1).mono ?_); (case side1 => exact GL.of_below HG.out (by repeat (first | (with_reducible first | exact HB.out | apply below_alloc | apply pw_below_drewN | apply below_drew1) | exact HB.out))); rintro e w23 ⟨v276, rfl, ho0, hb⟩; refine ⟨_, rfl, ?_⟩; have n0_ := Aside0.mk (Kd.R_elder' (by (with_reducible repeat (first | apply Kd.R_alloc | apply Kd.R_drewN | apply Kd.R_drew)); exact HO272.out) (Kd.R_base ho0) hb); have n1_ := Aside0.mk (Kd.R_lower (Kd.R_new' ho0 (Kd.R_lt (by (with_reducible repeat (first | apply Kd.R_alloc | apply Kd.R_drewN | apply Kd.R_drew)); exact HO272.out))) (below_size (by repeat (first | (with_reducible first | exact HB.out | apply below_alloc | apply pw_below_drewN | apply below_drew1) | exact HB.out)))); have n2_ := Aside0.mk (below_step (by repeat (first | (with_reducible first | exact HB.out | apply below_alloc | apply pw_below_drewN | apply below_drew1) | exact HB.out)) hb); clear HO272; clear HB; have HO272 := n0_; have HO277 := n1_; have HB := n2_; clear n0_ n1_ n2_; (try clear hb); (try clear hb2); (try clear hk); (try clear hi); (try clear ho0)) | ((with_reducible refine gate_callee (f := 12) rfl ?_); refine goesL_ (some 18) rfl rfl Tryd.func12 (by kernel_rfl) rfl #[.int .i64 t270] rfl (by (try simp only [List.map_toArray, List.map_cons, List.map_nil]); first | done | rfl | (simp only [List.length_drop, List.length_take]; rfl)) ?_; (with_reducible refine (falseworklaw16_num.calls t270 t278 _ A3.out).mono ?_); rintro e w' ⟨rfl, ⟨nd, rfl⟩⟩; refine ⟨_, rfl, ?_⟩))
  go_ret
  exact ⟨by first | rfl | (simp [errW_none, errW_some] <;> rfl) | (simp [*, errW_none, errW_some] <;> rfl), by repeat (first | (with_reducible first | exact HB.out | apply below_alloc | apply pw_below_drewN | apply below_drew1) | exact HB.out)⟩
end Go.Proofs.YtjehfmimbbdnkaaDoor.L
set_option linter.unusedVariables false
namespace Go.Proofs.YtjehfmimbbdnkaaDoor.LexPure
open Go.RowKit Go.Proofs.YtjehfmimbbdnkaaDoorW.PrintWords Go.Proofs.YtjehfmimbbdnkaaDoorW.PrintLast Go.Proofs.YtjehfmimbbdnkaaDoorW.PrintMore
open Go.Proofs.YtjehfmimbbdnkaaDoor.L Go.Proofs.YtjehfmimbbdnkaaDoor
theorem ext_all (u : ByteArray) : u.extract 0 u.size = u := by
  apply ByteArray.ext
  apply Array.toList_inj.1
  have := L8_ext u 0 u.size
  unfold L8 at this
  rw [this, List.drop_zero, List.take_of_length_le (by rw [Array.length_toList]; exact Nat.le_refl _)]
theorem lexT_after (u : ByteArray) : ∀ (m i : Nat) (nx : Int), i + m ≤ u.size → nx = (u.size : Int) → lexT u m i nx = .ok []
  | 0, _, _, _, _ => rfl
  | m + 1, i, nx, h, e => by
    rw [lexT_skip u m i nx (.inl (by omega))]
    exact lexT_after u m (i + 1) nx (by omega) e
theorem lex_single (u : ByteArray) (h0 : 0 < u.size) (h1 : u.size ≤ 400) (hb : blankAt u 0 = false) (hn : (oneR u).2.2.2.2.2.2.2 = (u.size : Int)) : lexT u u.size 0 0 = .ok [tokOf (oneR u) 0] := by
  obtain ⟨m, hm⟩ : ∃ m, u.size = m + 1 := ⟨u.size - 1, by omega⟩
  have ht : tokAt u 0 = oneR u := by unfold tokAt; rw [ext_all]
  have hg := lexT_go u m 0 0 (by rintro (h | h); · omega
                                 · rw [hb] at h; cases h)
  rw [ht, hn] at hg
  rw [hm, hg, if_neg (by omega), wrap_small (by omega) (by omega), lexT_after u m 1 _ (by omega) (by omega)]
theorem lex_bad0 (u : ByteArray) (h0 : 0 < u.size) (hb : blankAt u 0 = false) (hn : (oneR u).2.2.2.2.2.2.2 = 0) : lexT u u.size 0 0 = .error 0 := by
  obtain ⟨m, hm⟩ : ∃ m, u.size = m + 1 := ⟨u.size - 1, by omega⟩
  have ht : tokAt u 0 = oneR u := by unfold tokAt; rw [ext_all]
  have hg := lexT_go u m 0 0 (by rintro (h | h); · omega
                                 · rw [hb] at h; cases h)
  rw [ht, hn, if_pos rfl] at hg
  rw [hm, hg]
theorem lex_f_single (u : ByteArray) (k : Nat) (hk : 4000 < k) (h0 : 0 < u.size) (h1 : u.size ≤ 400) (hb : blankAt u 0 = false) (hn : (oneR u).2.2.2.2.2.2.2 = (u.size : Int)) :
    lex_Lex.f k u = some ([tokOf (oneR u) 0, endTok u], 0, 0) := by
  rw [lex_lex_eq u k hk, if_neg (by omega), lex_single u h0 h1 hb hn]
  rfl
theorem lex_f_bad (u : ByteArray) (k : Nat) (hk : 4000 < k) (h0 : 0 < u.size) (h1 : u.size ≤ 400) (hb : blankAt u 0 = false) (hn : (oneR u).2.2.2.2.2.2.2 = 0) :
    lex_Lex.f k u = some ([], 0, 3) := by
  rw [lex_lex_eq u k hk, if_neg (by omega), lex_bad0 u h0 hb hn]
  rfl
theorem awake_any (k : Nat) (hk : 4000 < k) : falseworklaw16_awake.f k = some true := by
  unfold falseworklaw16_awake.f
  rw [lex_lex_eq _ k hk, lex_lex_eq _ k hk]
  decide +kernel
theorem bt0 (u : ByteArray) (c : UInt8) (l : List UInt8) (h : L8 u = c :: l) : bt u 0 = (c.toNat : Int) := by
  have hz : 0 < u.size := by rw [← L8_len, h]; simp
  have := bt_L8 u 0 hz
  simp only [h] at this
  exact this
theorem bt1 (u : ByteArray) (c d : UInt8) (l : List UInt8) (h : L8 u = c :: d :: l) : bt u 1 = (d.toNat : Int) := by
  have hz : 1 < u.size := by rw [← L8_len, h]; simp
  have := bt_L8 u 1 hz
  simp only [h] at this
  exact this
theorem blank0 (u : ByteArray) (c : UInt8) (l : List UInt8) (h : L8 u = c :: l) (hc : c ≠ 32 ∧ c ≠ 9 ∧ c ≠ 10) : blankAt u 0 = false := by
  have hb := bt0 u c l h
  unfold blankAt
  rw [show ((0 : Nat) : Int) = 0 from rfl, hb]
  have h1 : ((c.toNat : Int) == 32) = (c == 32) := b_eq (x := c) (k := 32) (by decide)
  have h2 : ((c.toNat : Int) == 9) = (c == 9) := b_eq (x := c) (k := 9) (by decide)
  have h3 : ((c.toNat : Int) == 10) = (c == 10) := b_eq (x := c) (k := 10) (by decide)
  rw [h1, h2, h3, beq_eq_false_iff_ne.2 hc.1, beq_eq_false_iff_ne.2 hc.2.1, beq_eq_false_iff_ne.2 hc.2.2]
  rfl
theorem byteAt_L8 (u : ByteArray) (i : Nat) : byteAt u i = (L8 u).getD i 0 := rfl
def decN (l : List UInt8) (acc : Nat) : Nat := l.foldl (fun a c => a * 10 + (c.toNat - 48)) acc
theorem isDig_iff (c : UInt8) : isDig c = true ↔ 48 ≤ c.toNat ∧ c.toNat ≤ 57 := by
  unfold isDig
  rw [Bool.and_eq_true, decide_eq_true_eq, decide_eq_true_eq, UInt8.le_iff_toNat_le, UInt8.le_iff_toNat_le]
  rfl
theorem decN_ge : ∀ (l : List UInt8) (acc : Nat), acc ≤ decN l acc
  | [], acc => Nat.le_refl _
  | c :: l, acc => by
    have := decN_ge l (acc * 10 + (c.toNat - 48))
    show acc ≤ decN l (acc * 10 + (c.toNat - 48))
    omega
theorem parseM_dig : ∀ (l : List UInt8) (acc : Nat), decN l acc ≤ 18446744073709551615 → (∀ c ∈ l, isDig c = true) → Lib.parseUintM 18446744073709551615 acc l = .ok (decN l acc)
  | [], acc, h, _ => by
    unfold Lib.parseUintM
    rfl
  | c :: l, acc, h, hh => by
    have hc := (isDig_iff c).1 (hh c (by simp))
    have hg := decN_ge l (acc * 10 + (c.toNat - 48))
    have he : decN (c :: l) acc = decN l (acc * 10 + (c.toNat - 48)) := rfl
    rw [he] at h ⊢
    unfold Lib.parseUintM
    rw [if_pos hc, if_neg (by omega), if_neg (by omega), parseM_dig l _ h (fun d hd => hh d (by simp [hd]))]
def tailBad : List UInt8 → Bool
  | [] => false
  | c :: _ => isLow c || c == 95
structure Num (u : ByteArray) (a : Nat) (d : UInt8) (D R : List UInt8) : Prop where
  le : a ≤ 1
  is : L8 u = (if a = 1 then [45] else []) ++ (d :: D) ++ R
  dig : ∀ c ∈ d :: D, isDig c = true
  stop : R.takeWhile isDig = []
namespace Num
variable {u : ByteArray} {a : Nat} {d : UInt8} {D R : List UInt8}
theorem size (h : Num u a d D R) : u.size = a + (D.length + 1) + R.length := by
  rw [← L8_len, h.is]
  have := h.le
  rcases (by omega : a = 0 ∨ a = 1) with rfl | rfl <;> simp <;> omega
theorem dne (h : Num u a d D R) : d ≠ 45 := by
  have := (isDig_iff d).1 (h.dig d (by simp))
  rintro rfl
  exact absurd this (by decide)
theorem first (h : Num u a d D R) : ∃ c l, L8 u = c :: l ∧ (c = 45 ∨ isDig c = true) ∧ (c = 45 ↔ a = 1) := by
  have := h.le
  rcases (by omega : a = 0 ∨ a = 1) with rfl | rfl
  · exact ⟨d, D ++ R, h.is, .inr (h.dig d (by simp)), by simp [h.dne]⟩
  · exact ⟨45, d :: D ++ R, h.is, .inl rfl, by simp⟩
theorem atN (h : Num u a d D R) : numAt u = a := by
  obtain ⟨c, l, h1, _, h3⟩ := h.first
  unfold numAt
  rw [byteAt_L8, h1]
  show (if c = 45 then 1 else 0) = a
  have := h.le
  by_cases e : c = 45
  · rw [if_pos e, h3.1 e]
  · rw [if_neg e]
    have : a ≠ 1 := fun x => e (h3.2 x)
    omega
theorem drop (h : Num u a d D R) : (L8 u).drop a = d :: D ++ R := by
  have := h.le
  rw [h.is]
  rcases (by omega : a = 0 ∨ a = 1) with rfl | rfl <;> rfl
theorem run (h : Num u a d D R) : numN u = D.length + 1 := by
  unfold numN headLen
  rw [h.atN]
  have h1 := L8_ext u a u.size
  unfold L8 at h1
  rw [h1]
  have h2 := h.drop
  unfold L8 at h2
  rw [h2, List.take_of_length_le (by have := h.size; simp; omega), List.takeWhile_append_of_pos h.dig, h.stop, List.append_nil]
  rfl
theorem list (h : Num u a d D R) : (u.extract 0 (numAt u + numN u)).data.toList = if a = 1 then 45 :: d :: D else d :: D := by
  have h1 := L8_ext u 0 (numAt u + numN u)
  unfold L8 at h1
  rw [h1, h.atN, h.run, List.drop_zero, Nat.sub_zero]
  have h2 := h.is
  unfold L8 at h2
  rw [h2]
  have := h.le
  rcases (by omega : a = 0 ∨ a = 1) with rfl | rfl
  · simp
  · simp [Nat.add_comm 1]
theorem bad (h : Num u a d D R) : numBad u (numAt u) (numN u) = ((d == 48 && (decide (0 < D.length) || a == 1)) || tailBad R) := by
  rw [h.atN, h.run]
  unfold numBad
  have e1 : byteAt u a = d := by
    rw [byteAt_L8]
    have := h.drop
    rw [List.getD_eq_getElem?_getD, ← Nat.add_zero a, ← List.getElem?_drop, this]
    rfl
  have e2 : byteAt u (a + (D.length + 1)) = R.getD 0 0 := by
    rw [byteAt_L8]
    have := h.drop
    rw [List.getD_eq_getElem?_getD, ← List.getElem?_drop, this, List.getD_eq_getElem?_getD, List.cons_append, List.getElem?_cons_succ, List.getElem?_append_right (Nat.le_refl _), Nat.sub_self]
  have hz := h.size
  rw [e1, e2, beq_eq_false_iff_ne.2 (show D.length + 1 ≠ 0 by omega), Bool.false_or]
  have e3 : decide (1 < D.length + 1) = decide (0 < D.length) := by rw [decide_eq_decide]; omega
  rw [e3]
  cases R with
  | nil =>
    rw [show decide (a + (D.length + 1) < u.size) = false from decide_eq_false (by simp at hz; omega)]
    simp [tailBad]
  | cons c r =>
    rw [show decide (a + (D.length + 1) < u.size) = true from decide_eq_true (by simp at hz; omega), Bool.true_and]
    rfl
theorem one (h : Num u a d D R) : oneR u = numR u := by
  obtain ⟨c, l, h1, h2, _⟩ := h.first
  have hb := bt0 u c l h1
  have hc : c.toNat = 45 ∨ (48 ≤ c.toNat ∧ c.toNat ≤ 57) := by
    rcases h2 with rfl | h2
    · exact .inl rfl
    · exact .inr ((isDig_iff c).1 h2)
  unfold oneR
  rw [hb, if_neg (by omega), if_neg (by omega), if_pos (by omega)]
theorem blank (h : Num u a d D R) : blankAt u 0 = false := by
  obtain ⟨c, l, h1, h2, _⟩ := h.first
  refine blank0 u c l h1 ?_
  rcases h2 with rfl | h2
  · decide
  · have := (isDig_iff c).1 h2
    refine ⟨?_, ?_, ?_⟩ <;> rintro rfl <;> exact absurd this (by decide)
theorem none (h : Num u a d D R) (hb : numBad u (numAt u) (numN u) = true) : (oneR u).2.2.2.2.2.2.2 = 0 := by
  rw [h.one]
  unfold numR
  split
  · rw [if_pos hb]
    rfl
  · rfl
theorem some (h : Num u a d D []) (hb : numBad u (numAt u) (numN u) = false) (v : Int) (hv : v = if a = 1 then -(decN (d :: D) 0 : Int) else (decN (d :: D) 0 : Int)) (hle : decN (d :: D) 0 ≤ 9223372036854775808) (hle2 : a = 0 → decN (d :: D) 0 < 9223372036854775808) :
    oneR u = (3, u, 2, v, 0, ⟨#[]⟩, 0, (u.size : Int)) := by
  have hp := parseM_dig (d :: D) 0 (by omega) h.dig
  have hd := (isDig_iff d).1 (h.dig d (by simp))
  have hsz := h.size
  have hp2 : Lib.parseIntB 64 (u.extract 0 (numAt u + numN u)).data.toList = .ok v := by
    rw [h.list, hv]
    have := h.le
    rcases (by omega : a = 0 ∨ a = 1) with rfl | rfl
    · rw [if_neg (by decide), if_neg (by decide), Lib.parseIntB_plain 64 d D (by omega) (by omega)]
      unfold Lib.parseUintB
      rw [show (2 : Nat) ^ 64 - 1 = 18446744073709551615 from rfl, show (2 : Nat) ^ (64 - 1) = 9223372036854775808 from rfl, if_neg (by simp), hp]
      simp only [Lib.signlessC]
      rw [if_neg (by have := hle2 rfl; omega)]
    · rw [if_pos rfl, if_pos rfl, Lib.parseIntB_minus]
      unfold Lib.parseUintB
      rw [show (2 : Nat) ^ 64 - 1 = 18446744073709551615 from rfl, show (2 : Nat) ^ (64 - 1) = 9223372036854775808 from rfl, if_neg (by simp), hp]
      simp only [Lib.signedC]
      rw [if_neg (by omega)]
  rw [h.one]
  unfold numR
  rw [hp2]
  simp only []
  rw [hb, if_neg (by simp), h.atN, h.run, show a + (D.length + 1) = u.size from by rw [hsz]; simp, ext_all]
end Num
end Go.Proofs.YtjehfmimbbdnkaaDoor.LexPure
set_option linter.unusedVariables false
namespace Go.Proofs.YtjehfmimbbdnkaaDoor.LexPure
open Go.RowKit Go.Proofs.YtjehfmimbbdnkaaDoorW.PrintWords Go.Proofs.YtjehfmimbbdnkaaDoorW.PrintLast Go.Proofs.YtjehfmimbbdnkaaDoorW.PrintMore
open Go.Proofs.YtjehfmimbbdnkaaDoor.L Go.Proofs.YtjehfmimbbdnkaaDoor
def ddF : Nat → Nat → List UInt8
  | 0, _ => []
  | n + 1, v => if v = 0 then [] else ddF n (v / 10) ++ [UInt8.ofNat (48 + v % 10)]
theorem ddF_zero : ∀ n, ddF n 0 = []
  | 0 => rfl
  | n + 1 => by simp [ddF]
theorem dig_of (d : Nat) (h : d < 10) : (UInt8.ofNat (48 + d)).toNat = 48 + d := by
  rw [UInt8.toNat_ofNat', Nat.mod_eq_of_lt (by omega)]
theorem ddF_dig : ∀ n v, ∀ c ∈ ddF n v, isDig c = true
  | 0, v, c, h => by simp [ddF] at h
  | n + 1, v, c, h => by
    unfold ddF at h
    split at h
    · simp at h
    · rcases List.mem_append.1 h with h | h
      · exact ddF_dig n _ c h
      · rw [List.mem_singleton.1 h, isDig_iff, dig_of _ (by omega)]
        omega
theorem decN_append : ∀ (l r : List UInt8) (acc : Nat), decN (l ++ r) acc = decN r (decN l acc) := fun l r acc => by
  unfold decN
  rw [List.foldl_append]
theorem ddF_val : ∀ n v, v < 10 ^ n → decN (ddF n v) 0 = v
  | 0, v, h => by
    have : v = 0 := by simpa using h
    rw [this]; rfl
  | n + 1, v, h => by
    unfold ddF
    by_cases h0 : v = 0
    · rw [if_pos h0, h0]; rfl
    · have h1 : v / 10 < 10 ^ n := by rw [Nat.pow_succ] at h; omega
      rw [if_neg h0, decN_append, ddF_val n (v / 10) h1]
      show v / 10 * 10 + ((UInt8.ofNat (48 + v % 10)).toNat - 48) = v
      rw [dig_of _ (by omega)]
      omega
theorem ddF_len : ∀ n v, (ddF n v).length ≤ n
  | 0, v => Nat.le_refl _
  | n + 1, v => by
    unfold ddF
    split
    · simp
    · have := ddF_len n (v / 10)
      simp
      omega
theorem ddF_first : ∀ n v, v < 10 ^ n → v ≠ 0 → ∃ d D, ddF n v = d :: D ∧ d ≠ 48
  | 0, v, h, h0 => absurd (by simpa using h) h0
  | n + 1, v, h, h0 => by
    unfold ddF
    rw [if_neg h0]
    by_cases h1 : v / 10 = 0
    · rw [h1, ddF_zero]
      refine ⟨_, [], rfl, ?_⟩
      intro e
      have := congrArg UInt8.toNat e
      rw [dig_of _ (by omega)] at this
      have h48 : (48 : UInt8).toNat = 48 := rfl
      omega
    · obtain ⟨d, D, h2, h3⟩ := ddF_first n (v / 10) (by rw [Nat.pow_succ] at h; omega) h1
      exact ⟨d, D ++ [UInt8.ofNat (48 + v % 10)], by rw [h2]; rfl, h3⟩
theorem L8_app (a b : ByteArray) : L8 (a ++ b) = L8 a ++ L8 b := by
  unfold L8
  rw [ByteArray.data_append, Array.toList_append]
theorem L8_strs (xs : List Int) : L8 (strOfNums xs) = xs.map fun n => UInt8.ofNat n.toNat := strOfNums_data xs
theorem digits_loop (a0 : Int) : ∀ (n k v : Nat) (x : Int) (acc : ByteArray), (x = (v : Int) ∨ x = -(v : Int)) → v < 10 ^ n → v ≤ 9223372036854775808 → acc.size + n ≤ 1000 → n < k →
    ∃ r, falseworkref16_digits.l0 k a0 acc x = some r ∧ L8 r = (if a0 < 0 then [45] else []) ++ (ddF n v ++ L8 acc)
  | _, 0, _, _, _, _, _, _, _, hk => by omega
  | 0, k + 1, v, x, acc, hx, hv, hb, hs, hk => by
    have h0 : v = 0 := by simpa using hv
    unfold falseworkref16_digits.l0
    rw [if_pos (by omega)]
    by_cases ha : a0 < 0
    · rw [if_pos ha, if_pos (by omega)]
      exact ⟨_, rfl, by rw [L8_app, if_pos ha]; rfl⟩
    · rw [if_neg ha]
      exact ⟨_, rfl, by rw [if_neg ha]; rfl⟩
  | n + 1, k + 1, v, x, acc, hx, hv, hb, hs, hk => by
    unfold falseworkref16_digits.l0
    by_cases h0 : v = 0
    · rw [if_pos (by omega)]
      have hd : ddF (n + 1) v = [] := by rw [h0]; exact ddF_zero _
      rw [hd]
      by_cases ha : a0 < 0
      · rw [if_pos ha, if_pos (by omega)]
        exact ⟨_, rfl, by rw [L8_app, if_pos ha]; rfl⟩
      · rw [if_neg ha]
        exact ⟨_, rfl, by rw [if_neg ha]; rfl⟩
    · have hv2 : v / 10 < 10 ^ n := by rw [Nat.pow_succ] at hv; omega
      have hd : ddF (n + 1) v = ddF n (v / 10) ++ [UInt8.ofNat (48 + v % 10)] := by
        rw [ddF, if_neg h0]
      rw [if_neg (by omega), hd]
      have one : ∀ (d : Int), d = (48 + v % 10 : Nat) → ∀ x', (x' = ((v / 10 : Nat) : Int) ∨ x' = -((v / 10 : Nat) : Int)) →
          ∃ r, ((some ([d] : List Int)).bind fun y => (if (strOfNums y).size + acc.size ≤ 9223372036854775807 then (falseworkref16_digits.l0 k a0 ((strOfNums y) ++ acc) x') else (none))) = some r ∧ L8 r = (if a0 < 0 then [45] else []) ++ ((ddF n (v / 10) ++ [UInt8.ofNat (48 + v % 10)]) ++ L8 acc) := by
        intro d hd x' hx'
        have hz : (strOfNums [d]).size = 1 := by rw [strOfNums_size]; rfl
        obtain ⟨r, h1, h2⟩ := digits_loop a0 n k (v / 10) x' (strOfNums [d] ++ acc) hx' hv2 (by omega) (by rw [ByteArray.size_append, hz]; omega) (by omega)
        refine ⟨r, ?_, ?_⟩
        · rw [Option.bind_some, hz, if_pos (by omega), h1]
        · rw [h2, L8_app, L8_strs, List.map_cons, List.map_nil, hd, Int.toNat_natCast, List.append_assoc]
      rcases hx with rfl | rfl
      · have e1 : Int.tmod (v : Int) 10 = ((v % 10 : Nat) : Int) := by rw [Int.tmod_eq_emod_of_nonneg (by omega)]; omega
        have e2 : Int.tdiv (v : Int) 10 = ((v / 10 : Nat) : Int) := by rw [Int.tdiv_eq_ediv_of_nonneg (by omega)]; omega
        rw [e1, e2, if_neg (by omega), wrap_small (i := 48 + ((v % 10 : Nat) : Int)) (by omega) (by omega), wrap_small (i := ((v / 10 : Nat) : Int)) (by omega) (by omega)]
        exact one _ (by omega) _ (.inl rfl)
      · have e1 : Int.tmod (-(v : Int)) 10 = -((v % 10 : Nat) : Int) := by rw [Int.neg_tmod, Int.tmod_eq_emod_of_nonneg (by omega)]; omega
        have e2 : Int.tdiv (-(v : Int)) 10 = -((v / 10 : Nat) : Int) := by rw [Int.neg_tdiv, Int.tdiv_eq_ediv_of_nonneg (by omega)]; omega
        rw [e1, e2]
        by_cases h9 : v % 10 = 0
        · rw [if_neg (by omega), wrap_small (i := 48 + -((v % 10 : Nat) : Int)) (by omega) (by omega), wrap_small (i := -((v / 10 : Nat) : Int)) (by omega) (by omega)]
          exact one _ (by omega) _ (.inr rfl)
        · rw [if_pos (by omega), wrap_small (i := - -((v % 10 : Nat) : Int)) (by omega) (by omega), wrap_small (i := 48 + - -((v % 10 : Nat) : Int)) (by omega) (by omega), wrap_small (i := -((v / 10 : Nat) : Int)) (by omega) (by omega)]
          exact one _ (by omega) _ (.inr rfl)
theorem pow20 : (10 : Nat) ^ 20 = 100000000000000000000 := by decide
theorem digits_num (a : Int) (h1 : -9223372036854775808 ≤ a) (h2 : a < 9223372036854775808) (k : Nat) (hk : 100 < k) :
    ∃ r s d D, falseworkref16_Digits.f k a = some r ∧ (s = if a < 0 then 1 else 0) ∧ L8 r = (if s = 1 then [45] else []) ++ (d :: D) ∧ (∀ c ∈ d :: D, isDig c = true) ∧ decN (d :: D) 0 = a.natAbs ∧ D.length ≤ 20 ∧ (a ≠ 0 → d ≠ 48) ∧ (a = 0 → D = []) := by
  unfold falseworkref16_Digits.f falseworkref16_digits.f
  by_cases h0 : a = 0
  · subst h0
    exact ⟨_, 0, 48, [], rfl, rfl, rfl, by decide, rfl, by simp, fun h => absurd rfl h, fun _ => rfl⟩
  · rw [if_neg h0]
    obtain ⟨r, h3, h4⟩ := digits_loop a 20 k a.natAbs a ⟨#[]⟩ (by omega) (by rw [pow20]; omega) (by omega) (by show 0 + 20 ≤ 1000; omega) (by omega)
    obtain ⟨d, D, h5, h6⟩ := ddF_first 20 a.natAbs (by rw [pow20]; omega) (by omega)
    have hv := ddF_val 20 a.natAbs (by rw [pow20]; omega)
    have hg := ddF_dig 20 a.natAbs
    have hl := ddF_len 20 a.natAbs
    rw [h5] at h4 hv hg hl
    rw [h3, Option.bind_some]
    refine ⟨r, if a < 0 then 1 else 0, d, D, rfl, rfl, ?_, hg, hv, by simp at hl; omega, fun _ => h6, fun h => absurd h h0⟩
    rw [h4]
    by_cases ha : a < 0
    · rw [if_pos ha, if_pos ha, if_pos rfl]
      have : L8 ⟨#[]⟩ = [] := rfl
      rw [this, List.append_nil]
    · rw [if_neg ha, if_neg ha, if_neg (by decide)]
      have : L8 ⟨#[]⟩ = [] := rfl
      rw [this, List.append_nil]
theorem tokV (r : Tok8) (i : Nat) : tokOf r i = ⟨r.1, r.2.1, ⟨r.2.2.1, r.2.2.2.1, r.2.2.2.2.1, r.2.2.2.2.2.1⟩, (i : Int)⟩ := rfl
theorem size_L8 (u : ByteArray) (l : List UInt8) (h : L8 u = l) : u.size = l.length := by rw [← L8_len, h]
theorem num_mk {u : ByteArray} {s : Nat} {d : UInt8} {D R : List UInt8} (hs : s ≤ 1) (h : L8 u = (if s = 1 then [45] else []) ++ (d :: D) ++ R) (hd : ∀ c ∈ d :: D, isDig c = true) (hR : R.takeWhile isDig = []) : Num u s d D R := ⟨hs, h, hd, hR⟩
theorem nil_bad (d : UInt8) (D : List UInt8) (s : Nat) (h : d ≠ 48 ∨ (D = [] ∧ s = 0)) : ((d == 48 && (decide (0 < D.length) || s == 1)) || tailBad []) = false := by
  rcases h with h | ⟨rfl, rfl⟩
  · rw [beq_eq_false_iff_ne.2 h]; rfl
  · cases d == 48 <;> rfl
theorem low_of (a1 : Int) (h0 : 0 ≤ a1) (h1 : a1 < 256) : isLow (UInt8.ofNat (((97 + Int.tmod a1 26) % 256).toNat)) = true := by
  have e : Int.tmod a1 26 = a1 % 26 := Int.tmod_eq_emod_of_nonneg h0
  rw [e]
  have h2 : ((97 + a1 % 26) % 256).toNat = 97 + (a1 % 26).toNat := by omega
  have h3 : (a1 % 26).toNat < 26 := by omega
  rw [h2]
  have all : ∀ n : Nat, n < 26 → isLow (UInt8.ofNat (97 + n)) = true := by decide +kernel
  exact all _ h3
theorem low_nodig (c : UInt8) (h : isLow c = true) : isDig c = false := by
  cases hd : isDig c with
  | false => rfl
  | true =>
    have h1 := (isDig_iff c).1 hd
    unfold isLow at h
    rw [Bool.and_eq_true, decide_eq_true_eq, decide_eq_true_eq, UInt8.le_iff_toNat_le, UInt8.le_iff_toNat_le] at h
    have h97 : (97 : UInt8).toNat = 97 := rfl
    omega
theorem ints_true (a0 a1 : Int) (h1 : -9223372036854775808 ≤ a0) (h2 : a0 < 9223372036854775808) (h3 : 0 ≤ a1) (h4 : a1 < 256) (k : Nat) (hk : 5000 < k) : falseworklaw16_LexInts.f k a0 a1 = some true := by
  obtain ⟨r, s, d, D, g1, g2, g3, g4, g5, g6, g7, g8⟩ := digits_num a0 h1 h2 k (by omega)
  have hs1 : s ≤ 1 := by rw [g2]; split <;> omega
  have hsz : r.size = s + (D.length + 1) := by
    rw [size_L8 r _ g3]
    rcases (by omega : s = 0 ∨ s = 1) with rfl | rfl <;> simp <;> omega
  have N0 : Num r s d D [] := num_mk hs1 (by rw [List.append_nil]; exact g3) g4 rfl
  have hb0 : numBad r (numAt r) (numN r) = false := by
    rw [N0.bad]
    refine nil_bad d D s ?_
    by_cases h0 : a0 = 0
    · exact .inr ⟨g8 h0, by rw [g2, h0]; rfl⟩
    · exact .inl (g7 h0)
  have hv : a0 = if s = 1 then -(decN (d :: D) 0 : Int) else (decN (d :: D) 0 : Int) := by
    rw [g5]
    by_cases hn : a0 < 0
    · rw [g2, if_pos hn, if_pos rfl]; omega
    · rw [g2, if_neg hn, if_neg (by decide)]; omega
  have o0 := N0.some hb0 a0 hv (by rw [g5]; omega) (fun hs => by
    rw [g5]
    by_cases hn : a0 < 0
    · rw [if_pos hn] at g2; omega
    · omega)
  have L0 := lex_f_single r k (by omega) (by omega) (by omega) N0.blank (by rw [o0])
  rw [o0, tokV] at L0
  obtain ⟨c, hc⟩ : ∃ c, c = UInt8.ofNat (((97 + Int.tmod a1 26) % 256).toNat) := ⟨_, rfl⟩
  have hlow := low_of a1 h3 h4
  rw [← hc] at hlow
  have hL1 : L8 (r ++ strOfNums [(97 + Int.tmod a1 26) % 256]) = (if s = 1 then [45] else []) ++ (d :: D) ++ [c] := by
    rw [L8_app, L8_strs, g3, hc]
    rfl
  have N1 : Num (r ++ strOfNums [(97 + Int.tmod a1 26) % 256]) s d D [c] := num_mk hs1 hL1 g4 (by simp [low_nodig c hlow])
  have n1 := N1.none (by rw [N1.bad]; simp [tailBad, hlow])
  have L1 := lex_f_bad (r ++ strOfNums [(97 + Int.tmod a1 26) % 256]) k (by omega) (by rw [N1.size]; omega) (by rw [N1.size]; simp; omega) N1.blank n1
  have Z : ∀ (k' : Nat), 4000 < k' → ∀ (z : ByteArray), L8 z = (if s = 1 then [45] else []) ++ (48 :: (d :: D)) → lex_Lex.f k' z = some ([], 0, 3) := by
    intro k' hk' z hz
    have hg : ∀ x ∈ (48 : UInt8) :: (d :: D), isDig x = true := by
      intro x hx
      rcases List.mem_cons.1 hx with rfl | hx
      · decide
      · exact g4 x hx
    have N2 : Num z s 48 (d :: D) [] := num_mk hs1 (by rw [List.append_nil]; exact hz) hg rfl
    refine lex_f_bad z k' (by omega) (by rw [N2.size]; omega) (by rw [N2.size]; simp; omega) N2.blank (N2.none ?_)
    rw [N2.bad]
    simp
  unfold falseworklaw16_LexInts.f
  rw [g1, Option.bind_some, L0, Option.bind_some, Option.bind_some]
  have hz1 : (strOfNums [(97 + Int.tmod a1 26) % 256]).size = 1 := by rw [strOfNums_size]; rfl
  rw [hz1, if_pos (by omega), L1, Option.bind_some, if_pos (by omega)]
  obtain ⟨k, rfl⟩ : ∃ k', k = k' + 1 := ⟨k - 1, by omega⟩
  have J : ∀ z : ByteArray, L8 z = (if s = 1 then [45] else []) ++ (48 :: (d :: D)) → falseworklaw16_LexInts.j0 (k + 1) a0 r [⟨3, r, ⟨2, a0, 0, ⟨#[]⟩⟩, ((0 : Nat) : Int)⟩, endTok r] 0 3 z = some true := by
    intro z hz
    rw [falseworklaw16_LexInts.j0, Z k (by omega) z hz, Option.bind_some]
    have e : rd_T39 [⟨3, r, ⟨2, a0, 0, ⟨#[]⟩⟩, ((0 : Nat) : Int)⟩, endTok r] 0 = ⟨3, r, ⟨2, a0, 0, ⟨#[]⟩⟩, ((0 : Nat) : Int)⟩ := rfl
    have e2 : (⟨#[]⟩ : ByteArray).toList = [] := by decide +kernel
    rw [e]
    simp [falseworklaw16_num.f, e2]
  by_cases hn : a0 < 0
  · have hs : s = 1 := by rw [g2, if_pos hn]
    rw [if_pos hn, if_pos (by omega), if_pos (by rw [size_ext r 1 r.size (Nat.le_refl _)]; omega)]
    refine J _ ?_
    rw [L8_app, L8_ext, List.take_of_length_le (by rw [List.length_drop, L8_len]; exact Nat.le_refl _), g3, if_pos hs]
    rfl
  · have hs : s = 0 := by rw [g2, if_neg hn]
    rw [if_neg hn]
    refine J _ ?_
    rw [L8_app, g3, hs]
    rfl
theorem pure_true (a0 a1 : Int) (h1 : -9223372036854775808 ≤ a0) (h2 : a0 < 9223372036854775808) (h3 : 0 ≤ a1) (h4 : a1 < 256) : ∃ k, falseworklaw16_LexInts.f k a0 a1 = some true := ⟨5001, ints_true a0 a1 h1 h2 h3 h4 5001 (by decide)⟩
end Go.Proofs.YtjehfmimbbdnkaaDoor.LexPure
