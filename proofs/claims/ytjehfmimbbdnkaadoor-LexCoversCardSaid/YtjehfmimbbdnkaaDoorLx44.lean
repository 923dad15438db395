/- Written by a program of this session (wip/pp/pp.py, a patched run of the print) out of the translation: each Go function as a Lean function, and the walk that shows the two to be one. -/
import Derived.Test.YtjehfmimbbdnkaaDoorLx0
import Derived.Test.YtjehfmimbbdnkaaDoorLx18
import Derived.Test.YtjehfmimbbdnkaaDoorLx32
import Derived.Test.YtjehfmimbbdnkaaDoorLx33
import Derived.Test.YtjehfmimbbdnkaaDoorGl
namespace Go.Proofs.YtjehfmimbbdnkaaDoor.L
open Go.RowKit Go.Proofs.YtjehfmimbbdnkaaDoorW.PrintWords Go.Proofs.YtjehfmimbbdnkaaDoorW.PrintLast Go.Proofs.YtjehfmimbbdnkaaDoorW.PrintMore
attribute [local go_sem] max2_int min2_int max_two min_two max_three min_three max_four min_four   -- for this text's walks alone
set_option linter.unusedVariables false
set_option linter.unusedSimpArgs false

/-! ### falseworklaw16_LexCovers: function 8 -/
mutual
def falseworklaw16_LexCovers.l0 : Nat → ByteArray → List (S39) → Int → Int → Option (Bool)
  | 0, _, _, _, _ => none
  | k + 1, x0, x3, x6, x7 => if x7 < (x3.length : Int) then (if 0 ≤ x7 then (if ((rd_T39 x3 x7).f3) < x6 then (falseworklaw16_LexCovers.j1 k x0 x3 x6 x7 true ((rd_T39 x3 x7).f0) ((rd_T39 x3 x7).f1) ((rd_T39 x3 x7).f2.f0) ((rd_T39 x3 x7).f2.f1) ((rd_T39 x3 x7).f2.f2) ((rd_T39 x3 x7).f2.f3) ((rd_T39 x3 x7).f3)) else (if ((rd_T39 x3 x7).f3) > (x0.size : Int) then (falseworklaw16_LexCovers.j1 k x0 x3 x6 x7 true ((rd_T39 x3 x7).f0) ((rd_T39 x3 x7).f1) ((rd_T39 x3 x7).f2.f0) ((rd_T39 x3 x7).f2.f1) ((rd_T39 x3 x7).f2.f2) ((rd_T39 x3 x7).f2.f3) ((rd_T39 x3 x7).f3)) else (if (((rd_T39 x3 x7).f1).size : Int) > (wrap64 ((x0.size : Int) - ((rd_T39 x3 x7).f3))) then (falseworklaw16_LexCovers.j1 k x0 x3 x6 x7 true ((rd_T39 x3 x7).f0) ((rd_T39 x3 x7).f1) ((rd_T39 x3 x7).f2.f0) ((rd_T39 x3 x7).f2.f1) ((rd_T39 x3 x7).f2.f2) ((rd_T39 x3 x7).f2.f3) ((rd_T39 x3 x7).f3)) else (if 0 ≤ ((rd_T39 x3 x7).f3) then (if ((rd_T39 x3 x7).f3) ≤ (wrap64 (((rd_T39 x3 x7).f3) + (((rd_T39 x3 x7).f1).size : Int))) then (if (wrap64 (((rd_T39 x3 x7).f3) + (((rd_T39 x3 x7).f1).size : Int))) ≤ (x0.size : Int) then (if (x0.extract (((rd_T39 x3 x7).f3) : Int).toNat ((wrap64 (((rd_T39 x3 x7).f3) + (((rd_T39 x3 x7).f1).size : Int))) : Int).toNat).toList = ((rd_T39 x3 x7).f1).toList then (falseworklaw16_LexCovers.j1 k x0 x3 x6 x7 ((((rd_T39 x3 x7).f0) == 0) != (x7 == (wrap64 ((x3.length : Int) - 1)))) ((rd_T39 x3 x7).f0) ((rd_T39 x3 x7).f1) ((rd_T39 x3 x7).f2.f0) ((rd_T39 x3 x7).f2.f1) ((rd_T39 x3 x7).f2.f2) ((rd_T39 x3 x7).f2.f3) ((rd_T39 x3 x7).f3)) else (falseworklaw16_LexCovers.j1 k x0 x3 x6 x7 true ((rd_T39 x3 x7).f0) ((rd_T39 x3 x7).f1) ((rd_T39 x3 x7).f2.f0) ((rd_T39 x3 x7).f2.f1) ((rd_T39 x3 x7).f2.f2) ((rd_T39 x3 x7).f2.f3) ((rd_T39 x3 x7).f3))) else (none)) else (none)) else (none))))) else (none)) else (if x6 = (x0.size : Int) then ((falseworklaw16_awake.f k).bind fun t400 => (some t400)) else (some false))
def falseworklaw16_LexCovers.j1 : Nat → ByteArray → List (S39) → Int → Int → Bool → Int → ByteArray → Int → Int → Int → ByteArray → Int → Option (Bool)
  | 0, _, _, _, _, _, _, _, _, _, _, _, _ => none
  | k + 1, x0, x3, x6, x7, x92, x403000, x403001, x403002, x403003, x403004, x403005, x403006 => if x92 = true then (some false) else (falseworklaw16_LexCovers.l1 k x0 x3 x7 x6 x403000 x403001 x403002 x403003 x403004 x403005 x403006)
def falseworklaw16_LexCovers.l1 : Nat → ByteArray → List (S39) → Int → Int → Int → ByteArray → Int → Int → Int → ByteArray → Int → Option (Bool)
  | 0, _, _, _, _, _, _, _, _, _, _, _ => none
  | k + 1, x0, x3, x7, x9, x403000, x403001, x403002, x403003, x403004, x403005, x403006 => if x9 < x403006 then (if 0 ≤ x9 then (if x9 < (x0.size : Int) then (if (bt x0 x9) = 32 then (falseworklaw16_LexCovers.l1 k x0 x3 x7 (wrap64 (x9 + 1)) x403000 x403001 x403002 x403003 x403004 x403005 x403006) else (if (bt x0 x9) = 9 then (falseworklaw16_LexCovers.l1 k x0 x3 x7 (wrap64 (x9 + 1)) x403000 x403001 x403002 x403003 x403004 x403005 x403006) else (if (bt x0 x9) = 10 then (falseworklaw16_LexCovers.l1 k x0 x3 x7 (wrap64 (x9 + 1)) x403000 x403001 x403002 x403003 x403004 x403005 x403006) else (some false)))) else (none)) else (none)) else (falseworklaw16_LexCovers.l0 k x0 x3 (wrap64 (x403006 + (x403001.size : Int))) (wrap64 (x7 + 1)))
end
def falseworklaw16_LexCovers.f (k : Nat) (a0 : ByteArray) : Option (Bool) := (lex_Lex.f k a0).bind fun bt393 => ((falseworklaw16_num.f bt393.2.2).bind fun t398 => (if t398 = 0 then (falseworklaw16_LexCovers.l0 k a0 bt393.1 0 0) else (if (bt393.1.length : Int) = 0 then (if bt393.2.1 ≥ 0 then (if bt393.2.1 ≤ (a0.size : Int) then ((falseworklaw16_awake.f k).bind fun t399 => (some t399)) else (some false)) else (some false)) else (some false))))
theorem falseworklaw16_LexCovers.mono_l : ∀ k, (∀ y0 y1 y2 y3, LeO (falseworklaw16_LexCovers.l0 k y0 y1 y2 y3) (falseworklaw16_LexCovers.l0 (k + 1) y0 y1 y2 y3)) ∧ (∀ y0 y1 y2 y3 y4 y5 y6 y7 y8 y9 y10 y11, LeO (falseworklaw16_LexCovers.j1 k y0 y1 y2 y3 y4 y5 y6 y7 y8 y9 y10 y11) (falseworklaw16_LexCovers.j1 (k + 1) y0 y1 y2 y3 y4 y5 y6 y7 y8 y9 y10 y11)) ∧ (∀ y0 y1 y2 y3 y4 y5 y6 y7 y8 y9 y10, LeO (falseworklaw16_LexCovers.l1 k y0 y1 y2 y3 y4 y5 y6 y7 y8 y9 y10) (falseworklaw16_LexCovers.l1 (k + 1) y0 y1 y2 y3 y4 y5 y6 y7 y8 y9 y10))
  | 0 => ⟨fun _ _ _ _ r h => by simp [falseworklaw16_LexCovers.l0] at h, fun _ _ _ _ _ _ _ _ _ _ _ _ r h => by simp [falseworklaw16_LexCovers.j1] at h, fun _ _ _ _ _ _ _ _ _ _ _ r h => by simp [falseworklaw16_LexCovers.l1] at h⟩
  | k + 1 => by
    obtain ⟨ih0, ih1, ih2⟩ := falseworklaw16_LexCovers.mono_l k
    refine ⟨?_, ?_, ?_⟩
    · intro y0 y1 y2 y3
      unfold falseworklaw16_LexCovers.l0
      repeat' first
      | (with_reducible exact ih0 _ _ _ _)
      | (with_reducible exact ih1 _ _ _ _ _ _ _ _ _ _ _ _)
      | (with_reducible exact ih2 _ _ _ _ _ _ _ _ _ _ _)
      | (with_reducible exact falseworklaw16_awake.mono _)
      | (with_reducible exact lex_Lex.mono _ _)
      | (with_reducible exact LeO.refl _)
      | (with_reducible exact LeO.none _)
      | (with_reducible refine LeO.ite ?_ ?_)
      | (with_reducible refine LeO.bind ?_ (fun _ => ?_))
      | exact ih0 _ _ _ _
      | exact ih1 _ _ _ _ _ _ _ _ _ _ _ _
      | exact ih2 _ _ _ _ _ _ _ _ _ _ _
      | exact falseworklaw16_awake.mono _
      | exact lex_Lex.mono _ _
      | exact LeO.none _
      | refine LeO.ite ?_ ?_
      | refine LeO.bind ?_ (fun _ => ?_)
    · intro y0 y1 y2 y3 y4 y5 y6 y7 y8 y9 y10 y11
      unfold falseworklaw16_LexCovers.j1
      repeat' first
      | (with_reducible exact ih0 _ _ _ _)
      | (with_reducible exact ih1 _ _ _ _ _ _ _ _ _ _ _ _)
      | (with_reducible exact ih2 _ _ _ _ _ _ _ _ _ _ _)
      | (with_reducible exact falseworklaw16_awake.mono _)
      | (with_reducible exact lex_Lex.mono _ _)
      | (with_reducible exact LeO.refl _)
      | (with_reducible exact LeO.none _)
      | (with_reducible refine LeO.ite ?_ ?_)
      | (with_reducible refine LeO.bind ?_ (fun _ => ?_))
      | exact ih0 _ _ _ _
      | exact ih1 _ _ _ _ _ _ _ _ _ _ _ _
      | exact ih2 _ _ _ _ _ _ _ _ _ _ _
      | exact falseworklaw16_awake.mono _
      | exact lex_Lex.mono _ _
      | exact LeO.none _
      | refine LeO.ite ?_ ?_
      | refine LeO.bind ?_ (fun _ => ?_)
    · intro y0 y1 y2 y3 y4 y5 y6 y7 y8 y9 y10
      unfold falseworklaw16_LexCovers.l1
      repeat' first
      | (with_reducible exact ih0 _ _ _ _)
      | (with_reducible exact ih1 _ _ _ _ _ _ _ _ _ _ _ _)
      | (with_reducible exact ih2 _ _ _ _ _ _ _ _ _ _ _)
      | (with_reducible exact falseworklaw16_awake.mono _)
      | (with_reducible exact lex_Lex.mono _ _)
      | (with_reducible exact LeO.refl _)
      | (with_reducible exact LeO.none _)
      | (with_reducible refine LeO.ite ?_ ?_)
      | (with_reducible refine LeO.bind ?_ (fun _ => ?_))
      | exact ih0 _ _ _ _
      | exact ih1 _ _ _ _ _ _ _ _ _ _ _ _
      | exact ih2 _ _ _ _ _ _ _ _ _ _ _
      | exact falseworklaw16_awake.mono _
      | exact lex_Lex.mono _ _
      | exact LeO.none _
      | refine LeO.ite ?_ ?_
      | refine LeO.bind ?_ (fun _ => ?_)
theorem falseworklaw16_LexCovers.mono : ∀ a0 k, LeO (falseworklaw16_LexCovers.f k a0) (falseworklaw16_LexCovers.f (k + 1) a0) := by
  intro a0 k
  obtain ⟨ih0, ih1, ih2⟩ := falseworklaw16_LexCovers.mono_l k
  unfold falseworklaw16_LexCovers.f
  repeat' first
      | (with_reducible exact ih0 _ _ _ _)
      | (with_reducible exact ih1 _ _ _ _ _ _ _ _ _ _ _ _)
      | (with_reducible exact ih2 _ _ _ _ _ _ _ _ _ _ _)
      | (with_reducible exact falseworklaw16_awake.mono _)
      | (with_reducible exact lex_Lex.mono _ _)
      | (with_reducible exact LeO.refl _)
      | (with_reducible exact LeO.none _)
      | (with_reducible refine LeO.ite ?_ ?_)
      | (with_reducible refine LeO.bind ?_ (fun _ => ?_))
      | exact ih0 _ _ _ _
      | exact ih1 _ _ _ _ _ _ _ _ _ _ _ _
      | exact ih2 _ _ _ _ _ _ _ _ _ _ _
      | exact falseworklaw16_awake.mono _
      | exact lex_Lex.mono _ _
      | exact LeO.none _
      | refine LeO.ite ?_ ?_
      | refine LeO.bind ?_ (fun _ => ?_)
set_option maxHeartbeats 8000000 in
set_option maxRecDepth 100000 in
theorem falseworklaw16_LexCovers.calls (k : Nat) (a0 : ByteArray) (r : Bool) (w : World) (h : falseworklaw16_LexCovers.f k a0 = some r) (hG : GL w) :
    Calls Tryd.prog 8 #[.string a0] w fun e w' => e = .returned (.bool r) ∧ Below w.heap.size w w' := by
  have hu39 := Tryd.underlying39
  have HB := Aside0.mk (Below.refl w.heap.size w)
  have HG := Aside0.mk hG
  clear hG
  have H : ((lex_Lex.f k a0).bind fun bt393 => ((falseworklaw16_num.f bt393.2.2).bind fun t398 => (if t398 = 0 then (falseworklaw16_LexCovers.l0 k a0 bt393.1 0 0) else (if (bt393.1.length : Int) = 0 then (if bt393.2.1 ≥ 0 then (if bt393.2.1 ≤ (a0.size : Int) then ((falseworklaw16_awake.f k).bind fun t399 => (some t399)) else (some false)) else (some false)) else (some false))))) = some r := h
  clear h
  replace H := Option.bind_eq_some_iff.mp H
  obtain ⟨⟨t393, t394, t395⟩, A20, H⟩ := H
  replace H : ((falseworklaw16_num.f t395).bind fun t398 => (if t398 = 0 then (falseworklaw16_LexCovers.l0 k a0 t393 0 0) else (if (t393.length : Int) = 0 then (if t394 ≥ 0 then (if t394 ≤ (a0.size : Int) then ((falseworklaw16_awake.f k).bind fun t399 => (some t399)) else (some false)) else (some false)) else (some false)))) = some r := H
  have A2 := Aside0.mk A20
  clear A20
  replace H := Option.bind_eq_some_iff.mp H
  obtain ⟨t398, A30, H⟩ := H
  replace H : (if t398 = 0 then (falseworklaw16_LexCovers.l0 k a0 t393 0 0) else (if (t393.length : Int) = 0 then (if t394 ≥ 0 then (if t394 ≤ (a0.size : Int) then ((falseworklaw16_awake.f k).bind fun t399 => (some t399)) else (some false)) else (some false)) else (some false))) = some r := H
  have A3 := Aside0.mk A30
  clear A30
  by_cases c4 : t398 = 0
  · rw [if_pos c4] at H
    have c4b0 : (t398 == 0) = true := beq_iff_eq.mpr c4
    have c4b1 : (t398 != 0) = false := bne_eq_false_iff_eq.mpr c4
    clear c4
    have H' := Aside0.mk H
    clear H
    go_enter Tryd.func8, Tryd.ntmps8
    go_wp2_with (first | (go_at_call 9; (with_reducible refine (lex_Lex.calls k a0 t393 t394 t395 _ A2.out ?side1).mono ?_); (case side1 => exact GL.of_below HG.out (by repeat (first | (with_reducible first | exact HB.out | apply below_alloc | apply pw_below_drewN | apply below_drew1) | exact HB.out))); rintro e w5 ⟨v396, rfl, ho0, hb⟩; have n0_ := Aside0.mk (Kd.R_lower ho0 (below_size (by repeat (first | (with_reducible first | exact HB.out | apply below_alloc | apply pw_below_drewN | apply below_drew1) | exact HB.out)))); have n1_ := Aside0.mk (below_step (by repeat (first | (with_reducible first | exact HB.out | apply below_alloc | apply pw_below_drewN | apply below_drew1) | exact HB.out)) hb); clear HB; have HO397 := n0_; have HB := n1_; clear n0_ n1_; (try clear hb); (try clear hb2); (try clear hk); (try clear hi); (try clear ho0)) | (go_at_call 12; (with_reducible refine (falseworklaw16_num.calls t395 t398 _ A3.out).mono ?_); rintro e w' ⟨rfl, ⟨nd, rfl⟩⟩; (try first | exact ⟨rfl, _, World.drewN_drewN _ _ _⟩ | exact ⟨rfl, _, Eq.trans (World.drewN_drewN _ _ _) (congrArg (World.drewN _) (Nat.add_assoc _ _ _))⟩)))
    repeat (go_quiet (first | (go_at_call 9; (with_reducible refine (lex_Lex.calls k a0 t393 t394 t395 _ A2.out ?side1).mono ?_); (case side1 => exact GL.of_below HG.out (by repeat (first | (with_reducible first | exact HB.out | apply below_alloc | apply pw_below_drewN | apply below_drew1) | exact HB.out))); rintro e w5 ⟨v396, rfl, ho0, hb⟩; have n0_ := Aside0.mk (Kd.R_lower ho0 (below_size (by repeat (first | (with_reducible first | exact HB.out | apply below_alloc | apply pw_below_drewN | apply below_drew1) | exact HB.out)))); have n1_ := Aside0.mk (below_step (by repeat (first | (with_reducible first | exact HB.out | apply below_alloc | apply pw_below_drewN | apply below_drew1) | exact HB.out)) hb); clear HB; have HO397 := n0_; have HB := n1_; clear n0_ n1_; (try clear hb); (try clear hb2); (try clear hk); (try clear hi); (try clear ho0)) | (go_at_call 12; (with_reducible refine (falseworklaw16_num.calls t395 t398 _ A3.out).mono ?_); rintro e w' ⟨rfl, ⟨nd, rfl⟩⟩; (try first | exact ⟨rfl, _, World.drewN_drewN _ _ _⟩ | exact ⟨rfl, _, Eq.trans (World.drewN_drewN _ _ _) (congrArg (World.drewN _) (Nat.add_assoc _ _ _))⟩))); try go_wp2_with (first | (go_at_call 9; (with_reducible refine (lex_Lex.calls k a0 t393 t394 t395 _ A2.out ?side1).mono ?_); (case side1 => exact GL.of_below HG.out (by repeat (first | (with_reducible first | exact HB.out | apply below_alloc | apply pw_below_drewN | apply below_drew1) | exact HB.out))); rintro e w5 ⟨v396, rfl, ho0, hb⟩; have n0_ := Aside0.mk (Kd.R_lower ho0 (below_size (by repeat (first | (with_reducible first | exact HB.out | apply below_alloc | apply pw_below_drewN | apply below_drew1) | exact HB.out)))); have n1_ := Aside0.mk (below_step (by repeat (first | (with_reducible first | exact HB.out | apply below_alloc | apply pw_below_drewN | apply below_drew1) | exact HB.out)) hb); clear HB; have HO397 := n0_; have HB := n1_; clear n0_ n1_; (try clear hb); (try clear hb2); (try clear hk); (try clear hi); (try clear ho0)) | (go_at_call 12; (with_reducible refine (falseworklaw16_num.calls t395 t398 _ A3.out).mono ?_); rintro e w' ⟨rfl, ⟨nd, rfl⟩⟩; (try first | exact ⟨rfl, _, World.drewN_drewN _ _ _⟩ | exact ⟨rfl, _, Eq.trans (World.drewN_drewN _ _ _) (congrArg (World.drewN _) (Nat.add_assoc _ _ _))⟩))))
    go_loopg [6, 7] k (fun kq v6 v7 w' => ∃ (x6_1 : Int) (x7_1 : Int), v6 = .int .i64 x6_1 ∧ v7 = .int .i64 x7_1 ∧ Aside0 (falseworklaw16_LexCovers.l0 kq a0 t393 x6_1 x7_1 = some r) ∧ Aside0 (kq ≤ k) ∧ Aside0 (Kd.R k39 39 w' w.heap.size (fun _ => True) v396 t393) ∧ Aside0 (Below w.heap.size w w'))
    case atStart => exact ⟨(0), (0), (by first | rfl | (simp; done) | (simp [*]; done)), (by first | rfl | (simp; done) | (simp [*]; done)), H', ⟨Nat.le_refl _⟩, ⟨by (with_reducible repeat (first | apply Kd.R_alloc | apply Kd.R_drewN | apply Kd.R_drew)); exact HO397.out⟩, ⟨by repeat (first | (with_reducible first | exact HB.out | apply below_alloc | apply pw_below_drewN | apply below_drew1) | exact HB.out)⟩⟩
    case round =>
      clear H'
      try clear p2
      try clear c4
      try clear c4b0
      try clear c4b1
      obtain ⟨x6_1, x7_1, rfl, rfl, HA, HK1, HO_3, HB⟩ := hrel
      cases gk with
      | zero => exact absurd HA.out (by simp [falseworklaw16_LexCovers.l0])
      | succ k1 =>
        have H := HA.out
        clear HA
        simp only [falseworklaw16_LexCovers.l0] at H
        by_cases c6 : x7_1 < (t393.length : Int)
        · rw [if_pos c6] at H
          have c6b0 : decide (x7_1 < (t393.length : Int)) = true := decide_eq_true c6
          clear c6
          by_cases c7 : 0 ≤ x7_1
          · rw [if_pos c7] at H
            have c7b0 : decide (0 ≤ x7_1) = true := decide_eq_true c7
            clear c7
            have HC8 := Aside0.mk H
            clear H
            obtain ⟨Ao9, co9, eo9⟩ := Kd.R_slice HO_3.out
            subst eo9
            have p401 : 0 ≤ (x7_1 : Int) := of_decide_eq_true (by first | (with_reducible assumption) | assumption)
            have q401 : x7_1 < (t393.length : Int) := of_decide_eq_true (by first | (with_reducible assumption) | assumption)
            obtain ⟨ad401, e401, hx401_0, hx401_1, hx401_2, hx401_3, hx401_4, hx401_5, hx401_6⟩ := at_T39 (Kd.R_reads' HO_3.out).2.2 x7_1 p401 q401
            cases e401
            replace p401 := eq_true p401
            replace q401 := eq_true q401
            go_upto_region 9 with (first | ((with_reducible refine gate_dst (N := 8) rfl ?_); (try (refine gate_guard (by rfl) ?_; dsimp only)); refine box_event ?hg (N := 8) ?hd (cs := #[.int .i64 0, .string (⟨#[]⟩ : ByteArray), .int .i64 0, .int .i64 0, .int .u64 0, .string (⟨#[]⟩ : ByteArray), .int .i64 0]) (t := 39) ?hr ?_; (case hd => rfl); (case hg => rfl); (case hr => first | (go_simp; done) | (go_simp; rfl)); intro gb402 hg w10 hbox hb; have n0_ := Aside0.mk (Kd.R_below (Kd.R_elderB (by (with_reducible repeat (first | apply Kd.R_alloc | apply Kd.R_drewN | apply Kd.R_drew)); exact HO_3.out) gb402 (Nat.le_of_eq hg.symm)) hb); have n1_ := Aside0.mk (below_step (by repeat (first | (with_reducible first | exact HB.out | apply below_alloc | apply pw_below_drewN | apply below_drew1) | exact HB.out)) hb); have n2_ := Aside0.mk (hbox); have n3_ := Aside0.mk ((by rw [hg]; exact (below_size (by repeat (first | (with_reducible first | exact HB.out | apply below_alloc | apply pw_below_drewN | apply below_drew1) | exact HB.out))) : w.heap.size ≤ gb402)); have n4_ := Aside0.mk ((by rw [hg]; exact (below_size (by repeat (first | (with_reducible first | exact HB.out | apply below_alloc | apply pw_below_drewN | apply below_drew1) | exact HB.out))) : w.heap.size ≤ gb402)); clear HO_3; clear HB; have HO_3 := n0_; have HB := n1_; have BK402 := n2_; have GW402 := n3_; have GE402 := n4_; clear n0_ n1_ n2_ n3_ n4_; clear hb hbox hg; have hcz11_0 : w10.cell? ⟨gb402, 0, none⟩ = some (.int .i64 0) := (blk_cell BK402.out 0).trans rfl; have hcz11_1 : w10.cell? ⟨gb402, 1, none⟩ = some (.string (⟨#[]⟩ : ByteArray)) := (blk_cell BK402.out 1).trans rfl; have hcz11_2 : w10.cell? ⟨gb402, 2, none⟩ = some (.int .i64 0) := (blk_cell BK402.out 2).trans rfl; have hcz11_3 : w10.cell? ⟨gb402, 3, none⟩ = some (.int .i64 0) := (blk_cell BK402.out 3).trans rfl; have hcz11_4 : w10.cell? ⟨gb402, 4, none⟩ = some (.int .u64 0) := (blk_cell BK402.out 4).trans rfl; have hcz11_5 : w10.cell? ⟨gb402, 5, none⟩ = some (.string (⟨#[]⟩ : ByteArray)) := (blk_cell BK402.out 5).trans rfl; have hcz11_6 : w10.cell? ⟨gb402, 6, none⟩ = some (.int .i64 0) := (blk_cell BK402.out 6).trans rfl; have hfz11_0 := blk_frozen BK402.out 0; have hfz11_1 := blk_frozen BK402.out 1; have hfz11_2 := blk_frozen BK402.out 2; have hfz11_3 := blk_frozen BK402.out 3; have hfz11_4 := blk_frozen BK402.out 4; have hfz11_5 := blk_frozen BK402.out 5; have hfz11_6 := blk_frozen BK402.out 6))
            repeat (go_quiet (first | ((with_reducible refine gate_dst (N := 8) rfl ?_); (try (refine gate_guard (by rfl) ?_; dsimp only)); refine box_event ?hg (N := 8) ?hd (cs := #[.int .i64 0, .string (⟨#[]⟩ : ByteArray), .int .i64 0, .int .i64 0, .int .u64 0, .string (⟨#[]⟩ : ByteArray), .int .i64 0]) (t := 39) ?hr ?_; (case hd => rfl); (case hg => rfl); (case hr => first | (go_simp; done) | (go_simp; rfl)); intro gb402 hg w10 hbox hb; have n0_ := Aside0.mk (Kd.R_below (Kd.R_elderB (by (with_reducible repeat (first | apply Kd.R_alloc | apply Kd.R_drewN | apply Kd.R_drew)); exact HO_3.out) gb402 (Nat.le_of_eq hg.symm)) hb); have n1_ := Aside0.mk (below_step (by repeat (first | (with_reducible first | exact HB.out | apply below_alloc | apply pw_below_drewN | apply below_drew1) | exact HB.out)) hb); have n2_ := Aside0.mk (hbox); have n3_ := Aside0.mk ((by rw [hg]; exact (below_size (by repeat (first | (with_reducible first | exact HB.out | apply below_alloc | apply pw_below_drewN | apply below_drew1) | exact HB.out))) : w.heap.size ≤ gb402)); have n4_ := Aside0.mk ((by rw [hg]; exact (below_size (by repeat (first | (with_reducible first | exact HB.out | apply below_alloc | apply pw_below_drewN | apply below_drew1) | exact HB.out))) : w.heap.size ≤ gb402)); clear HO_3; clear HB; have HO_3 := n0_; have HB := n1_; have BK402 := n2_; have GW402 := n3_; have GE402 := n4_; clear n0_ n1_ n2_ n3_ n4_; clear hb hbox hg; have hcz11_0 : w10.cell? ⟨gb402, 0, none⟩ = some (.int .i64 0) := (blk_cell BK402.out 0).trans rfl; have hcz11_1 : w10.cell? ⟨gb402, 1, none⟩ = some (.string (⟨#[]⟩ : ByteArray)) := (blk_cell BK402.out 1).trans rfl; have hcz11_2 : w10.cell? ⟨gb402, 2, none⟩ = some (.int .i64 0) := (blk_cell BK402.out 2).trans rfl; have hcz11_3 : w10.cell? ⟨gb402, 3, none⟩ = some (.int .i64 0) := (blk_cell BK402.out 3).trans rfl; have hcz11_4 : w10.cell? ⟨gb402, 4, none⟩ = some (.int .u64 0) := (blk_cell BK402.out 4).trans rfl; have hcz11_5 : w10.cell? ⟨gb402, 5, none⟩ = some (.string (⟨#[]⟩ : ByteArray)) := (blk_cell BK402.out 5).trans rfl; have hcz11_6 : w10.cell? ⟨gb402, 6, none⟩ = some (.int .i64 0) := (blk_cell BK402.out 6).trans rfl; have hfz11_0 := blk_frozen BK402.out 0; have hfz11_1 := blk_frozen BK402.out 1; have hfz11_2 := blk_frozen BK402.out 2; have hfz11_3 := blk_frozen BK402.out 3; have hfz11_4 := blk_frozen BK402.out 4; have hfz11_5 := blk_frozen BK402.out 5; have hfz11_6 := blk_frozen BK402.out 6)); go_upto_region 9 with (first | ((with_reducible refine gate_dst (N := 8) rfl ?_); (try (refine gate_guard (by rfl) ?_; dsimp only)); refine box_event ?hg (N := 8) ?hd (cs := #[.int .i64 0, .string (⟨#[]⟩ : ByteArray), .int .i64 0, .int .i64 0, .int .u64 0, .string (⟨#[]⟩ : ByteArray), .int .i64 0]) (t := 39) ?hr ?_; (case hd => rfl); (case hg => rfl); (case hr => first | (go_simp; done) | (go_simp; rfl)); intro gb402 hg w10 hbox hb; have n0_ := Aside0.mk (Kd.R_below (Kd.R_elderB (by (with_reducible repeat (first | apply Kd.R_alloc | apply Kd.R_drewN | apply Kd.R_drew)); exact HO_3.out) gb402 (Nat.le_of_eq hg.symm)) hb); have n1_ := Aside0.mk (below_step (by repeat (first | (with_reducible first | exact HB.out | apply below_alloc | apply pw_below_drewN | apply below_drew1) | exact HB.out)) hb); have n2_ := Aside0.mk (hbox); have n3_ := Aside0.mk ((by rw [hg]; exact (below_size (by repeat (first | (with_reducible first | exact HB.out | apply below_alloc | apply pw_below_drewN | apply below_drew1) | exact HB.out))) : w.heap.size ≤ gb402)); have n4_ := Aside0.mk ((by rw [hg]; exact (below_size (by repeat (first | (with_reducible first | exact HB.out | apply below_alloc | apply pw_below_drewN | apply below_drew1) | exact HB.out))) : w.heap.size ≤ gb402)); clear HO_3; clear HB; have HO_3 := n0_; have HB := n1_; have BK402 := n2_; have GW402 := n3_; have GE402 := n4_; clear n0_ n1_ n2_ n3_ n4_; clear hb hbox hg; have hcz11_0 : w10.cell? ⟨gb402, 0, none⟩ = some (.int .i64 0) := (blk_cell BK402.out 0).trans rfl; have hcz11_1 : w10.cell? ⟨gb402, 1, none⟩ = some (.string (⟨#[]⟩ : ByteArray)) := (blk_cell BK402.out 1).trans rfl; have hcz11_2 : w10.cell? ⟨gb402, 2, none⟩ = some (.int .i64 0) := (blk_cell BK402.out 2).trans rfl; have hcz11_3 : w10.cell? ⟨gb402, 3, none⟩ = some (.int .i64 0) := (blk_cell BK402.out 3).trans rfl; have hcz11_4 : w10.cell? ⟨gb402, 4, none⟩ = some (.int .u64 0) := (blk_cell BK402.out 4).trans rfl; have hcz11_5 : w10.cell? ⟨gb402, 5, none⟩ = some (.string (⟨#[]⟩ : ByteArray)) := (blk_cell BK402.out 5).trans rfl; have hcz11_6 : w10.cell? ⟨gb402, 6, none⟩ = some (.int .i64 0) := (blk_cell BK402.out 6).trans rfl; have hfz11_0 := blk_frozen BK402.out 0; have hfz11_1 := blk_frozen BK402.out 1; have hfz11_2 := blk_frozen BK402.out 2; have hfz11_3 := blk_frozen BK402.out 3; have hfz11_4 := blk_frozen BK402.out 4; have hfz11_5 := blk_frozen BK402.out 5; have hfz11_6 := blk_frozen BK402.out 6)))
            (try simp only [Act.put, List.setIfInBounds_toArray, List.set_cons_zero, List.set_cons_succ])
            go_cut [92] (fun v92 wc => ∃ (kq : Nat) (x92_7 : Bool), v92 = .bool x92_7 ∧ Aside0 (falseworklaw16_LexCovers.j1 kq a0 t393 x6_1 x7_1 x92_7 ((rd_T39 t393 x7_1).f0) ((rd_T39 t393 x7_1).f1) ((rd_T39 t393 x7_1).f2.f0) ((rd_T39 t393 x7_1).f2.f1) ((rd_T39 t393 x7_1).f2.f2) ((rd_T39 t393 x7_1).f2.f3) ((rd_T39 t393 x7_1).f3) = some r) ∧ Aside0 (kq ≤ k1) ∧ Aside0 (Kd.R k39 39 wc w.heap.size (fun k_ => k_ ≠ gb402) (.slice (some ad401) t393.length co9) t393) ∧ Aside0 (wc.heap[gb402]? = some (.cells #[.int .i64 ((rd_T39 t393 x7_1).f0), .string ((rd_T39 t393 x7_1).f1), .int .i64 ((rd_T39 t393 x7_1).f2.f0), .int .i64 ((rd_T39 t393 x7_1).f2.f1), .int .u64 ((rd_T39 t393 x7_1).f2.f2), .string ((rd_T39 t393 x7_1).f2.f3), .int .i64 ((rd_T39 t393 x7_1).f3)] 39 (0, 0))) ∧ Aside0 (Below w.heap.size w wc))
            case first =>
              have H := HC8.out
              clear HC8
              by_cases c12 : ((rd_T39 t393 x7_1).f3) < x6_1
              · rw [if_pos c12] at H
                have c12b0 : decide (((rd_T39 t393 x7_1).f3) < x6_1) = true := decide_eq_true c12
                clear c12
                (first | rw [c12b0] | (simp only [i64_w, i32_w]; rw [c12b0]) | skip)
                have H' := Aside0.mk H
                clear H
                have hcz13_0 : w10.cell? ⟨gb402, 0, none⟩ = some (.int .i64 0) := (blk_cell BK402.out 0).trans rfl
                have hcz13_1 : w10.cell? ⟨gb402, 1, none⟩ = some (.string (⟨#[]⟩ : ByteArray)) := (blk_cell BK402.out 1).trans rfl
                have hcz13_2 : w10.cell? ⟨gb402, 2, none⟩ = some (.int .i64 0) := (blk_cell BK402.out 2).trans rfl
                have hcz13_3 : w10.cell? ⟨gb402, 3, none⟩ = some (.int .i64 0) := (blk_cell BK402.out 3).trans rfl
                have hcz13_4 : w10.cell? ⟨gb402, 4, none⟩ = some (.int .u64 0) := (blk_cell BK402.out 4).trans rfl
                have hcz13_5 : w10.cell? ⟨gb402, 5, none⟩ = some (.string (⟨#[]⟩ : ByteArray)) := (blk_cell BK402.out 5).trans rfl
                have hcz13_6 : w10.cell? ⟨gb402, 6, none⟩ = some (.int .i64 0) := (blk_cell BK402.out 6).trans rfl
                have hfz13_0 := blk_frozen BK402.out 0
                have hfz13_1 := blk_frozen BK402.out 1
                have hfz13_2 := blk_frozen BK402.out 2
                have hfz13_3 := blk_frozen BK402.out 3
                have hfz13_4 := blk_frozen BK402.out 4
                have hfz13_5 := blk_frozen BK402.out 5
                have hfz13_6 := blk_frozen BK402.out 6
                go_wp2
                repeat (go_quiet (fail); try go_wp2)
                go_meet
                case rel => exact ⟨_, (true), (by first | rfl | (simp; done) | (simp [*]; done)), H', ⟨by have := HK1.out; first | omega | exact Nat.le_refl _⟩, ⟨by (with_reducible repeat (first | apply Kd.R_alloc | apply Kd.R_drewN | apply Kd.R_drew)); exact Kd.R_mono (Kd.R_far (p := ⟨gb402, 6, none⟩) (Kd.R_far (p := ⟨gb402, 5, none⟩) (Kd.R_far (p := ⟨gb402, 4, none⟩) (Kd.R_far (p := ⟨gb402, 3, none⟩) (Kd.R_far (p := ⟨gb402, 2, none⟩) (Kd.R_far (p := ⟨gb402, 1, none⟩) (Kd.R_far (p := ⟨gb402, 0, none⟩) (Kd.R_mono HO_3.out (fun k_ hk => (⟨hk, hk.2⟩ : _ ∧ k_ ≠ gb402))) (fun _ hk => hk.2) (.int .i64 ((rd_T39 t393 x7_1).f0))) (fun _ hk => hk.2) (.string ((rd_T39 t393 x7_1).f1))) (fun _ hk => hk.2) (.int .i64 ((rd_T39 t393 x7_1).f2.f0))) (fun _ hk => hk.2) (.int .i64 ((rd_T39 t393 x7_1).f2.f1))) (fun _ hk => hk.2) (.int .u64 ((rd_T39 t393 x7_1).f2.f2))) (fun _ hk => hk.2) (.string ((rd_T39 t393 x7_1).f2.f3))) (fun _ hk => hk.2) (.int .i64 ((rd_T39 t393 x7_1).f3))) (fun _ hk => hk.1.2)⟩, ⟨by (with_reducible repeat (first | refine blk_drewN ?_ _ | refine blk_drew ?_ | refine blk_alloc ?_ _)); refine blk_put (cs := #[.int .i64 ((rd_T39 t393 x7_1).f0), .string ((rd_T39 t393 x7_1).f1), .int .i64 ((rd_T39 t393 x7_1).f2.f0), .int .i64 ((rd_T39 t393 x7_1).f2.f1), .int .u64 ((rd_T39 t393 x7_1).f2.f2), .string ((rd_T39 t393 x7_1).f2.f3), .int .i64 0]) ?_ 6 _ rfl; (with_reducible repeat (first | refine blk_drewN ?_ _ | refine blk_drew ?_ | refine blk_alloc ?_ _)); refine blk_put (cs := #[.int .i64 ((rd_T39 t393 x7_1).f0), .string ((rd_T39 t393 x7_1).f1), .int .i64 ((rd_T39 t393 x7_1).f2.f0), .int .i64 ((rd_T39 t393 x7_1).f2.f1), .int .u64 ((rd_T39 t393 x7_1).f2.f2), .string (⟨#[]⟩ : ByteArray), .int .i64 0]) ?_ 5 _ rfl; (with_reducible repeat (first | refine blk_drewN ?_ _ | refine blk_drew ?_ | refine blk_alloc ?_ _)); refine blk_put (cs := #[.int .i64 ((rd_T39 t393 x7_1).f0), .string ((rd_T39 t393 x7_1).f1), .int .i64 ((rd_T39 t393 x7_1).f2.f0), .int .i64 ((rd_T39 t393 x7_1).f2.f1), .int .u64 0, .string (⟨#[]⟩ : ByteArray), .int .i64 0]) ?_ 4 _ rfl; (with_reducible repeat (first | refine blk_drewN ?_ _ | refine blk_drew ?_ | refine blk_alloc ?_ _)); refine blk_put (cs := #[.int .i64 ((rd_T39 t393 x7_1).f0), .string ((rd_T39 t393 x7_1).f1), .int .i64 ((rd_T39 t393 x7_1).f2.f0), .int .i64 0, .int .u64 0, .string (⟨#[]⟩ : ByteArray), .int .i64 0]) ?_ 3 _ rfl; (with_reducible repeat (first | refine blk_drewN ?_ _ | refine blk_drew ?_ | refine blk_alloc ?_ _)); refine blk_put (cs := #[.int .i64 ((rd_T39 t393 x7_1).f0), .string ((rd_T39 t393 x7_1).f1), .int .i64 0, .int .i64 0, .int .u64 0, .string (⟨#[]⟩ : ByteArray), .int .i64 0]) ?_ 2 _ rfl; (with_reducible repeat (first | refine blk_drewN ?_ _ | refine blk_drew ?_ | refine blk_alloc ?_ _)); refine blk_put (cs := #[.int .i64 ((rd_T39 t393 x7_1).f0), .string (⟨#[]⟩ : ByteArray), .int .i64 0, .int .i64 0, .int .u64 0, .string (⟨#[]⟩ : ByteArray), .int .i64 0]) ?_ 1 _ rfl; (with_reducible repeat (first | refine blk_drewN ?_ _ | refine blk_drew ?_ | refine blk_alloc ?_ _)); refine blk_put (cs := #[.int .i64 0, .string (⟨#[]⟩ : ByteArray), .int .i64 0, .int .i64 0, .int .u64 0, .string (⟨#[]⟩ : ByteArray), .int .i64 0]) ?_ 0 _ rfl; (with_reducible repeat (first | refine blk_drewN ?_ _ | refine blk_drew ?_ | refine blk_alloc ?_ _)); exact BK402.out⟩, ⟨by repeat (first | (with_reducible first | exact HB.out | apply below_alloc | apply pw_below_drewN | apply below_drew1 | refine below_set ?_ GE402.out) | exact HB.out)⟩⟩
              · rw [if_neg c12] at H
                have c12b0 : decide (((rd_T39 t393 x7_1).f3) < x6_1) = false := decide_eq_false c12
                clear c12
                (first | rw [c12b0] | (simp only [i64_w, i32_w]; rw [c12b0]) | skip)
                by_cases c14 : ((rd_T39 t393 x7_1).f3) > (a0.size : Int)
                · rw [if_pos c14] at H
                  have c14b0 : decide ((a0.size : Int) < ((rd_T39 t393 x7_1).f3)) = true := decide_eq_true c14
                  clear c14
                  have H' := Aside0.mk H
                  clear H
                  have hcz15_0 : w10.cell? ⟨gb402, 0, none⟩ = some (.int .i64 0) := (blk_cell BK402.out 0).trans rfl
                  have hcz15_1 : w10.cell? ⟨gb402, 1, none⟩ = some (.string (⟨#[]⟩ : ByteArray)) := (blk_cell BK402.out 1).trans rfl
                  have hcz15_2 : w10.cell? ⟨gb402, 2, none⟩ = some (.int .i64 0) := (blk_cell BK402.out 2).trans rfl
                  have hcz15_3 : w10.cell? ⟨gb402, 3, none⟩ = some (.int .i64 0) := (blk_cell BK402.out 3).trans rfl
                  have hcz15_4 : w10.cell? ⟨gb402, 4, none⟩ = some (.int .u64 0) := (blk_cell BK402.out 4).trans rfl
                  have hcz15_5 : w10.cell? ⟨gb402, 5, none⟩ = some (.string (⟨#[]⟩ : ByteArray)) := (blk_cell BK402.out 5).trans rfl
                  have hcz15_6 : w10.cell? ⟨gb402, 6, none⟩ = some (.int .i64 0) := (blk_cell BK402.out 6).trans rfl
                  have hfz15_0 := blk_frozen BK402.out 0
                  have hfz15_1 := blk_frozen BK402.out 1
                  have hfz15_2 := blk_frozen BK402.out 2
                  have hfz15_3 := blk_frozen BK402.out 3
                  have hfz15_4 := blk_frozen BK402.out 4
                  have hfz15_5 := blk_frozen BK402.out 5
                  have hfz15_6 := blk_frozen BK402.out 6
                  go_wp2
                  repeat (go_quiet (fail); try go_wp2)
                  go_meet
                  case rel => exact ⟨_, (true), (by first | rfl | (simp; done) | (simp [*]; done)), H', ⟨by have := HK1.out; first | omega | exact Nat.le_refl _⟩, ⟨by (with_reducible repeat (first | apply Kd.R_alloc | apply Kd.R_drewN | apply Kd.R_drew)); exact Kd.R_mono (Kd.R_far (p := ⟨gb402, 6, none⟩) (Kd.R_far (p := ⟨gb402, 5, none⟩) (Kd.R_far (p := ⟨gb402, 4, none⟩) (Kd.R_far (p := ⟨gb402, 3, none⟩) (Kd.R_far (p := ⟨gb402, 2, none⟩) (Kd.R_far (p := ⟨gb402, 1, none⟩) (Kd.R_far (p := ⟨gb402, 0, none⟩) (Kd.R_mono HO_3.out (fun k_ hk => (⟨hk, hk.2⟩ : _ ∧ k_ ≠ gb402))) (fun _ hk => hk.2) (.int .i64 ((rd_T39 t393 x7_1).f0))) (fun _ hk => hk.2) (.string ((rd_T39 t393 x7_1).f1))) (fun _ hk => hk.2) (.int .i64 ((rd_T39 t393 x7_1).f2.f0))) (fun _ hk => hk.2) (.int .i64 ((rd_T39 t393 x7_1).f2.f1))) (fun _ hk => hk.2) (.int .u64 ((rd_T39 t393 x7_1).f2.f2))) (fun _ hk => hk.2) (.string ((rd_T39 t393 x7_1).f2.f3))) (fun _ hk => hk.2) (.int .i64 ((rd_T39 t393 x7_1).f3))) (fun _ hk => hk.1.2)⟩, ⟨by (with_reducible repeat (first | refine blk_drewN ?_ _ | refine blk_drew ?_ | refine blk_alloc ?_ _)); refine blk_put (cs := #[.int .i64 ((rd_T39 t393 x7_1).f0), .string ((rd_T39 t393 x7_1).f1), .int .i64 ((rd_T39 t393 x7_1).f2.f0), .int .i64 ((rd_T39 t393 x7_1).f2.f1), .int .u64 ((rd_T39 t393 x7_1).f2.f2), .string ((rd_T39 t393 x7_1).f2.f3), .int .i64 0]) ?_ 6 _ rfl; (with_reducible repeat (first | refine blk_drewN ?_ _ | refine blk_drew ?_ | refine blk_alloc ?_ _)); refine blk_put (cs := #[.int .i64 ((rd_T39 t393 x7_1).f0), .string ((rd_T39 t393 x7_1).f1), .int .i64 ((rd_T39 t393 x7_1).f2.f0), .int .i64 ((rd_T39 t393 x7_1).f2.f1), .int .u64 ((rd_T39 t393 x7_1).f2.f2), .string (⟨#[]⟩ : ByteArray), .int .i64 0]) ?_ 5 _ rfl; (with_reducible repeat (first | refine blk_drewN ?_ _ | refine blk_drew ?_ | refine blk_alloc ?_ _)); refine blk_put (cs := #[.int .i64 ((rd_T39 t393 x7_1).f0), .string ((rd_T39 t393 x7_1).f1), .int .i64 ((rd_T39 t393 x7_1).f2.f0), .int .i64 ((rd_T39 t393 x7_1).f2.f1), .int .u64 0, .string (⟨#[]⟩ : ByteArray), .int .i64 0]) ?_ 4 _ rfl; (with_reducible repeat (first | refine blk_drewN ?_ _ | refine blk_drew ?_ | refine blk_alloc ?_ _)); refine blk_put (cs := #[.int .i64 ((rd_T39 t393 x7_1).f0), .string ((rd_T39 t393 x7_1).f1), .int .i64 ((rd_T39 t393 x7_1).f2.f0), .int .i64 0, .int .u64 0, .string (⟨#[]⟩ : ByteArray), .int .i64 0]) ?_ 3 _ rfl; (with_reducible repeat (first | refine blk_drewN ?_ _ | refine blk_drew ?_ | refine blk_alloc ?_ _)); refine blk_put (cs := #[.int .i64 ((rd_T39 t393 x7_1).f0), .string ((rd_T39 t393 x7_1).f1), .int .i64 0, .int .i64 0, .int .u64 0, .string (⟨#[]⟩ : ByteArray), .int .i64 0]) ?_ 2 _ rfl; (with_reducible repeat (first | refine blk_drewN ?_ _ | refine blk_drew ?_ | refine blk_alloc ?_ _)); refine blk_put (cs := #[.int .i64 ((rd_T39 t393 x7_1).f0), .string (⟨#[]⟩ : ByteArray), .int .i64 0, .int .i64 0, .int .u64 0, .string (⟨#[]⟩ : ByteArray), .int .i64 0]) ?_ 1 _ rfl; (with_reducible repeat (first | refine blk_drewN ?_ _ | refine blk_drew ?_ | refine blk_alloc ?_ _)); refine blk_put (cs := #[.int .i64 0, .string (⟨#[]⟩ : ByteArray), .int .i64 0, .int .i64 0, .int .u64 0, .string (⟨#[]⟩ : ByteArray), .int .i64 0]) ?_ 0 _ rfl; (with_reducible repeat (first | refine blk_drewN ?_ _ | refine blk_drew ?_ | refine blk_alloc ?_ _)); exact BK402.out⟩, ⟨by repeat (first | (with_reducible first | exact HB.out | apply below_alloc | apply pw_below_drewN | apply below_drew1 | refine below_set ?_ GE402.out) | exact HB.out)⟩⟩
                · rw [if_neg c14] at H
                  have c14b0 : decide ((a0.size : Int) < ((rd_T39 t393 x7_1).f3)) = false := decide_eq_false c14
                  clear c14
                  by_cases c16 : (((rd_T39 t393 x7_1).f1).size : Int) > (wrap64 ((a0.size : Int) - ((rd_T39 t393 x7_1).f3)))
                  · rw [if_pos c16] at H
                    have c16b0 : decide ((wrap64 ((a0.size : Int) - ((rd_T39 t393 x7_1).f3))) < (((rd_T39 t393 x7_1).f1).size : Int)) = true := decide_eq_true c16
                    clear c16
                    have H' := Aside0.mk H
                    clear H
                    have hcz17_0 : w10.cell? ⟨gb402, 0, none⟩ = some (.int .i64 0) := (blk_cell BK402.out 0).trans rfl
                    have hcz17_1 : w10.cell? ⟨gb402, 1, none⟩ = some (.string (⟨#[]⟩ : ByteArray)) := (blk_cell BK402.out 1).trans rfl
                    have hcz17_2 : w10.cell? ⟨gb402, 2, none⟩ = some (.int .i64 0) := (blk_cell BK402.out 2).trans rfl
                    have hcz17_3 : w10.cell? ⟨gb402, 3, none⟩ = some (.int .i64 0) := (blk_cell BK402.out 3).trans rfl
                    have hcz17_4 : w10.cell? ⟨gb402, 4, none⟩ = some (.int .u64 0) := (blk_cell BK402.out 4).trans rfl
                    have hcz17_5 : w10.cell? ⟨gb402, 5, none⟩ = some (.string (⟨#[]⟩ : ByteArray)) := (blk_cell BK402.out 5).trans rfl
                    have hcz17_6 : w10.cell? ⟨gb402, 6, none⟩ = some (.int .i64 0) := (blk_cell BK402.out 6).trans rfl
                    have hfz17_0 := blk_frozen BK402.out 0
                    have hfz17_1 := blk_frozen BK402.out 1
                    have hfz17_2 := blk_frozen BK402.out 2
                    have hfz17_3 := blk_frozen BK402.out 3
                    have hfz17_4 := blk_frozen BK402.out 4
                    have hfz17_5 := blk_frozen BK402.out 5
                    have hfz17_6 := blk_frozen BK402.out 6
                    go_wp2
                    repeat (go_quiet (fail); try go_wp2)
                    go_meet
                    case rel => exact ⟨_, (true), (by first | rfl | (simp; done) | (simp [*]; done)), H', ⟨by have := HK1.out; first | omega | exact Nat.le_refl _⟩, ⟨by (with_reducible repeat (first | apply Kd.R_alloc | apply Kd.R_drewN | apply Kd.R_drew)); exact Kd.R_mono (Kd.R_far (p := ⟨gb402, 6, none⟩) (Kd.R_far (p := ⟨gb402, 5, none⟩) (Kd.R_far (p := ⟨gb402, 4, none⟩) (Kd.R_far (p := ⟨gb402, 3, none⟩) (Kd.R_far (p := ⟨gb402, 2, none⟩) (Kd.R_far (p := ⟨gb402, 1, none⟩) (Kd.R_far (p := ⟨gb402, 0, none⟩) (Kd.R_mono HO_3.out (fun k_ hk => (⟨hk, hk.2⟩ : _ ∧ k_ ≠ gb402))) (fun _ hk => hk.2) (.int .i64 ((rd_T39 t393 x7_1).f0))) (fun _ hk => hk.2) (.string ((rd_T39 t393 x7_1).f1))) (fun _ hk => hk.2) (.int .i64 ((rd_T39 t393 x7_1).f2.f0))) (fun _ hk => hk.2) (.int .i64 ((rd_T39 t393 x7_1).f2.f1))) (fun _ hk => hk.2) (.int .u64 ((rd_T39 t393 x7_1).f2.f2))) (fun _ hk => hk.2) (.string ((rd_T39 t393 x7_1).f2.f3))) (fun _ hk => hk.2) (.int .i64 ((rd_T39 t393 x7_1).f3))) (fun _ hk => hk.1.2)⟩, ⟨by (with_reducible repeat (first | refine blk_drewN ?_ _ | refine blk_drew ?_ | refine blk_alloc ?_ _)); refine blk_put (cs := #[.int .i64 ((rd_T39 t393 x7_1).f0), .string ((rd_T39 t393 x7_1).f1), .int .i64 ((rd_T39 t393 x7_1).f2.f0), .int .i64 ((rd_T39 t393 x7_1).f2.f1), .int .u64 ((rd_T39 t393 x7_1).f2.f2), .string ((rd_T39 t393 x7_1).f2.f3), .int .i64 0]) ?_ 6 _ rfl; (with_reducible repeat (first | refine blk_drewN ?_ _ | refine blk_drew ?_ | refine blk_alloc ?_ _)); refine blk_put (cs := #[.int .i64 ((rd_T39 t393 x7_1).f0), .string ((rd_T39 t393 x7_1).f1), .int .i64 ((rd_T39 t393 x7_1).f2.f0), .int .i64 ((rd_T39 t393 x7_1).f2.f1), .int .u64 ((rd_T39 t393 x7_1).f2.f2), .string (⟨#[]⟩ : ByteArray), .int .i64 0]) ?_ 5 _ rfl; (with_reducible repeat (first | refine blk_drewN ?_ _ | refine blk_drew ?_ | refine blk_alloc ?_ _)); refine blk_put (cs := #[.int .i64 ((rd_T39 t393 x7_1).f0), .string ((rd_T39 t393 x7_1).f1), .int .i64 ((rd_T39 t393 x7_1).f2.f0), .int .i64 ((rd_T39 t393 x7_1).f2.f1), .int .u64 0, .string (⟨#[]⟩ : ByteArray), .int .i64 0]) ?_ 4 _ rfl; (with_reducible repeat (first | refine blk_drewN ?_ _ | refine blk_drew ?_ | refine blk_alloc ?_ _)); refine blk_put (cs := #[.int .i64 ((rd_T39 t393 x7_1).f0), .string ((rd_T39 t393 x7_1).f1), .int .i64 ((rd_T39 t393 x7_1).f2.f0), .int .i64 0, .int .u64 0, .string (⟨#[]⟩ : ByteArray), .int .i64 0]) ?_ 3 _ rfl; (with_reducible repeat (first | refine blk_drewN ?_ _ | refine blk_drew ?_ | refine blk_alloc ?_ _)); refine blk_put (cs := #[.int .i64 ((rd_T39 t393 x7_1).f0), .string ((rd_T39 t393 x7_1).f1), .int .i64 0, .int .i64 0, .int .u64 0, .string (⟨#[]⟩ : ByteArray), .int .i64 0]) ?_ 2 _ rfl; (with_reducible repeat (first | refine blk_drewN ?_ _ | refine blk_drew ?_ | refine blk_alloc ?_ _)); refine blk_put (cs := #[.int .i64 ((rd_T39 t393 x7_1).f0), .string (⟨#[]⟩ : ByteArray), .int .i64 0, .int .i64 0, .int .u64 0, .string (⟨#[]⟩ : ByteArray), .int .i64 0]) ?_ 1 _ rfl; (with_reducible repeat (first | refine blk_drewN ?_ _ | refine blk_drew ?_ | refine blk_alloc ?_ _)); refine blk_put (cs := #[.int .i64 0, .string (⟨#[]⟩ : ByteArray), .int .i64 0, .int .i64 0, .int .u64 0, .string (⟨#[]⟩ : ByteArray), .int .i64 0]) ?_ 0 _ rfl; (with_reducible repeat (first | refine blk_drewN ?_ _ | refine blk_drew ?_ | refine blk_alloc ?_ _)); exact BK402.out⟩, ⟨by repeat (first | (with_reducible first | exact HB.out | apply below_alloc | apply pw_below_drewN | apply below_drew1 | refine below_set ?_ GE402.out) | exact HB.out)⟩⟩
                  · rw [if_neg c16] at H
                    have c16b0 : decide ((wrap64 ((a0.size : Int) - ((rd_T39 t393 x7_1).f3))) < (((rd_T39 t393 x7_1).f1).size : Int)) = false := decide_eq_false c16
                    clear c16
                    by_cases c18 : 0 ≤ ((rd_T39 t393 x7_1).f3)
                    · rw [if_pos c18] at H
                      have c18b0 := eq_true c18
                      have c18b1 : decide (0 ≤ ((rd_T39 t393 x7_1).f3)) = true := decide_eq_true c18
                      clear c18
                      by_cases c19 : ((rd_T39 t393 x7_1).f3) ≤ (wrap64 (((rd_T39 t393 x7_1).f3) + (((rd_T39 t393 x7_1).f1).size : Int)))
                      · rw [if_pos c19] at H
                        have c19b0 := eq_true c19
                        have c19b1 : decide (((rd_T39 t393 x7_1).f3) ≤ (wrap64 (((rd_T39 t393 x7_1).f3) + (((rd_T39 t393 x7_1).f1).size : Int)))) = true := decide_eq_true c19
                        by_cases c20 : (wrap64 (((rd_T39 t393 x7_1).f3) + (((rd_T39 t393 x7_1).f1).size : Int))) ≤ (a0.size : Int)
                        · rw [if_pos c20] at H
                          have c20b0 := eq_true c20
                          have c20b1 : decide ((wrap64 (((rd_T39 t393 x7_1).f3) + (((rd_T39 t393 x7_1).f1).size : Int))) ≤ (a0.size : Int)) = true := decide_eq_true c20
                          by_cases c21 : (a0.extract (((rd_T39 t393 x7_1).f3) : Int).toNat ((wrap64 (((rd_T39 t393 x7_1).f3) + (((rd_T39 t393 x7_1).f1).size : Int))) : Int).toNat).toList = ((rd_T39 t393 x7_1).f1).toList
                          · rw [if_pos c21] at H
                            have c21b0 : ((a0.extract (((rd_T39 t393 x7_1).f3) : Int).toNat ((wrap64 (((rd_T39 t393 x7_1).f3) + (((rd_T39 t393 x7_1).f1).size : Int))) : Int).toNat).toList == ((rd_T39 t393 x7_1).f1).toList) = true := beq_iff_eq.mpr c21
                            have c21b1 : ((a0.extract (((rd_T39 t393 x7_1).f3) : Int).toNat ((wrap64 (((rd_T39 t393 x7_1).f3) + (((rd_T39 t393 x7_1).f1).size : Int))) : Int).toNat).toList != ((rd_T39 t393 x7_1).f1).toList) = false := bne_eq_false_iff_eq.mpr c21
                            clear c21
                            have H' := Aside0.mk H
                            clear H
                            have hcz22_0 : w10.cell? ⟨gb402, 0, none⟩ = some (.int .i64 0) := (blk_cell BK402.out 0).trans rfl
                            have hcz22_1 : w10.cell? ⟨gb402, 1, none⟩ = some (.string (⟨#[]⟩ : ByteArray)) := (blk_cell BK402.out 1).trans rfl
                            have hcz22_2 : w10.cell? ⟨gb402, 2, none⟩ = some (.int .i64 0) := (blk_cell BK402.out 2).trans rfl
                            have hcz22_3 : w10.cell? ⟨gb402, 3, none⟩ = some (.int .i64 0) := (blk_cell BK402.out 3).trans rfl
                            have hcz22_4 : w10.cell? ⟨gb402, 4, none⟩ = some (.int .u64 0) := (blk_cell BK402.out 4).trans rfl
                            have hcz22_5 : w10.cell? ⟨gb402, 5, none⟩ = some (.string (⟨#[]⟩ : ByteArray)) := (blk_cell BK402.out 5).trans rfl
                            have hcz22_6 : w10.cell? ⟨gb402, 6, none⟩ = some (.int .i64 0) := (blk_cell BK402.out 6).trans rfl
                            have hfz22_0 := blk_frozen BK402.out 0
                            have hfz22_1 := blk_frozen BK402.out 1
                            have hfz22_2 := blk_frozen BK402.out 2
                            have hfz22_3 := blk_frozen BK402.out 3
                            have hfz22_4 := blk_frozen BK402.out 4
                            have hfz22_5 := blk_frozen BK402.out 5
                            have hfz22_6 := blk_frozen BK402.out 6
                            go_wp2
                            repeat (go_quiet (fail); try go_wp2)
                            go_meet
                            case rel => exact ⟨_, (((((rd_T39 t393 x7_1).f0) == 0) != (x7_1 == (wrap64 ((t393.length : Int) - 1))))), (by first | rfl | (simp; done) | (simp [*]; done)), H', ⟨by have := HK1.out; first | omega | exact Nat.le_refl _⟩, ⟨by (with_reducible repeat (first | apply Kd.R_alloc | apply Kd.R_drewN | apply Kd.R_drew)); exact Kd.R_mono (Kd.R_far (p := ⟨gb402, 6, none⟩) (Kd.R_far (p := ⟨gb402, 5, none⟩) (Kd.R_far (p := ⟨gb402, 4, none⟩) (Kd.R_far (p := ⟨gb402, 3, none⟩) (Kd.R_far (p := ⟨gb402, 2, none⟩) (Kd.R_far (p := ⟨gb402, 1, none⟩) (Kd.R_far (p := ⟨gb402, 0, none⟩) (Kd.R_mono HO_3.out (fun k_ hk => (⟨hk, hk.2⟩ : _ ∧ k_ ≠ gb402))) (fun _ hk => hk.2) (.int .i64 ((rd_T39 t393 x7_1).f0))) (fun _ hk => hk.2) (.string ((rd_T39 t393 x7_1).f1))) (fun _ hk => hk.2) (.int .i64 ((rd_T39 t393 x7_1).f2.f0))) (fun _ hk => hk.2) (.int .i64 ((rd_T39 t393 x7_1).f2.f1))) (fun _ hk => hk.2) (.int .u64 ((rd_T39 t393 x7_1).f2.f2))) (fun _ hk => hk.2) (.string ((rd_T39 t393 x7_1).f2.f3))) (fun _ hk => hk.2) (.int .i64 ((rd_T39 t393 x7_1).f3))) (fun _ hk => hk.1.2)⟩, ⟨by (with_reducible repeat (first | refine blk_drewN ?_ _ | refine blk_drew ?_ | refine blk_alloc ?_ _)); refine blk_put (cs := #[.int .i64 ((rd_T39 t393 x7_1).f0), .string ((rd_T39 t393 x7_1).f1), .int .i64 ((rd_T39 t393 x7_1).f2.f0), .int .i64 ((rd_T39 t393 x7_1).f2.f1), .int .u64 ((rd_T39 t393 x7_1).f2.f2), .string ((rd_T39 t393 x7_1).f2.f3), .int .i64 0]) ?_ 6 _ rfl; (with_reducible repeat (first | refine blk_drewN ?_ _ | refine blk_drew ?_ | refine blk_alloc ?_ _)); refine blk_put (cs := #[.int .i64 ((rd_T39 t393 x7_1).f0), .string ((rd_T39 t393 x7_1).f1), .int .i64 ((rd_T39 t393 x7_1).f2.f0), .int .i64 ((rd_T39 t393 x7_1).f2.f1), .int .u64 ((rd_T39 t393 x7_1).f2.f2), .string (⟨#[]⟩ : ByteArray), .int .i64 0]) ?_ 5 _ rfl; (with_reducible repeat (first | refine blk_drewN ?_ _ | refine blk_drew ?_ | refine blk_alloc ?_ _)); refine blk_put (cs := #[.int .i64 ((rd_T39 t393 x7_1).f0), .string ((rd_T39 t393 x7_1).f1), .int .i64 ((rd_T39 t393 x7_1).f2.f0), .int .i64 ((rd_T39 t393 x7_1).f2.f1), .int .u64 0, .string (⟨#[]⟩ : ByteArray), .int .i64 0]) ?_ 4 _ rfl; (with_reducible repeat (first | refine blk_drewN ?_ _ | refine blk_drew ?_ | refine blk_alloc ?_ _)); refine blk_put (cs := #[.int .i64 ((rd_T39 t393 x7_1).f0), .string ((rd_T39 t393 x7_1).f1), .int .i64 ((rd_T39 t393 x7_1).f2.f0), .int .i64 0, .int .u64 0, .string (⟨#[]⟩ : ByteArray), .int .i64 0]) ?_ 3 _ rfl; (with_reducible repeat (first | refine blk_drewN ?_ _ | refine blk_drew ?_ | refine blk_alloc ?_ _)); refine blk_put (cs := #[.int .i64 ((rd_T39 t393 x7_1).f0), .string ((rd_T39 t393 x7_1).f1), .int .i64 0, .int .i64 0, .int .u64 0, .string (⟨#[]⟩ : ByteArray), .int .i64 0]) ?_ 2 _ rfl; (with_reducible repeat (first | refine blk_drewN ?_ _ | refine blk_drew ?_ | refine blk_alloc ?_ _)); refine blk_put (cs := #[.int .i64 ((rd_T39 t393 x7_1).f0), .string (⟨#[]⟩ : ByteArray), .int .i64 0, .int .i64 0, .int .u64 0, .string (⟨#[]⟩ : ByteArray), .int .i64 0]) ?_ 1 _ rfl; (with_reducible repeat (first | refine blk_drewN ?_ _ | refine blk_drew ?_ | refine blk_alloc ?_ _)); refine blk_put (cs := #[.int .i64 0, .string (⟨#[]⟩ : ByteArray), .int .i64 0, .int .i64 0, .int .u64 0, .string (⟨#[]⟩ : ByteArray), .int .i64 0]) ?_ 0 _ rfl; (with_reducible repeat (first | refine blk_drewN ?_ _ | refine blk_drew ?_ | refine blk_alloc ?_ _)); exact BK402.out⟩, ⟨by repeat (first | (with_reducible first | exact HB.out | apply below_alloc | apply pw_below_drewN | apply below_drew1 | refine below_set ?_ GE402.out) | exact HB.out)⟩⟩
                          · rw [if_neg c21] at H
                            have c21b0 : ((a0.extract (((rd_T39 t393 x7_1).f3) : Int).toNat ((wrap64 (((rd_T39 t393 x7_1).f3) + (((rd_T39 t393 x7_1).f1).size : Int))) : Int).toNat).toList == ((rd_T39 t393 x7_1).f1).toList) = false := beq_eq_false_iff_ne.mpr c21
                            have c21b1 : ((a0.extract (((rd_T39 t393 x7_1).f3) : Int).toNat ((wrap64 (((rd_T39 t393 x7_1).f3) + (((rd_T39 t393 x7_1).f1).size : Int))) : Int).toNat).toList != ((rd_T39 t393 x7_1).f1).toList) = true := bne_iff_ne.mpr c21
                            have H' := Aside0.mk H
                            clear H
                            have hcz23_0 : w10.cell? ⟨gb402, 0, none⟩ = some (.int .i64 0) := (blk_cell BK402.out 0).trans rfl
                            have hcz23_1 : w10.cell? ⟨gb402, 1, none⟩ = some (.string (⟨#[]⟩ : ByteArray)) := (blk_cell BK402.out 1).trans rfl
                            have hcz23_2 : w10.cell? ⟨gb402, 2, none⟩ = some (.int .i64 0) := (blk_cell BK402.out 2).trans rfl
                            have hcz23_3 : w10.cell? ⟨gb402, 3, none⟩ = some (.int .i64 0) := (blk_cell BK402.out 3).trans rfl
                            have hcz23_4 : w10.cell? ⟨gb402, 4, none⟩ = some (.int .u64 0) := (blk_cell BK402.out 4).trans rfl
                            have hcz23_5 : w10.cell? ⟨gb402, 5, none⟩ = some (.string (⟨#[]⟩ : ByteArray)) := (blk_cell BK402.out 5).trans rfl
                            have hcz23_6 : w10.cell? ⟨gb402, 6, none⟩ = some (.int .i64 0) := (blk_cell BK402.out 6).trans rfl
                            have hfz23_0 := blk_frozen BK402.out 0
                            have hfz23_1 := blk_frozen BK402.out 1
                            have hfz23_2 := blk_frozen BK402.out 2
                            have hfz23_3 := blk_frozen BK402.out 3
                            have hfz23_4 := blk_frozen BK402.out 4
                            have hfz23_5 := blk_frozen BK402.out 5
                            have hfz23_6 := blk_frozen BK402.out 6
                            go_wp2
                            repeat (go_quiet (fail); try go_wp2)
                            go_meet
                            case rel => exact ⟨_, (true), (by first | rfl | (simp; done) | (simp [*]; done)), H', ⟨by have := HK1.out; first | omega | exact Nat.le_refl _⟩, ⟨by (with_reducible repeat (first | apply Kd.R_alloc | apply Kd.R_drewN | apply Kd.R_drew)); exact Kd.R_mono (Kd.R_far (p := ⟨gb402, 6, none⟩) (Kd.R_far (p := ⟨gb402, 5, none⟩) (Kd.R_far (p := ⟨gb402, 4, none⟩) (Kd.R_far (p := ⟨gb402, 3, none⟩) (Kd.R_far (p := ⟨gb402, 2, none⟩) (Kd.R_far (p := ⟨gb402, 1, none⟩) (Kd.R_far (p := ⟨gb402, 0, none⟩) (Kd.R_mono HO_3.out (fun k_ hk => (⟨hk, hk.2⟩ : _ ∧ k_ ≠ gb402))) (fun _ hk => hk.2) (.int .i64 ((rd_T39 t393 x7_1).f0))) (fun _ hk => hk.2) (.string ((rd_T39 t393 x7_1).f1))) (fun _ hk => hk.2) (.int .i64 ((rd_T39 t393 x7_1).f2.f0))) (fun _ hk => hk.2) (.int .i64 ((rd_T39 t393 x7_1).f2.f1))) (fun _ hk => hk.2) (.int .u64 ((rd_T39 t393 x7_1).f2.f2))) (fun _ hk => hk.2) (.string ((rd_T39 t393 x7_1).f2.f3))) (fun _ hk => hk.2) (.int .i64 ((rd_T39 t393 x7_1).f3))) (fun _ hk => hk.1.2)⟩, ⟨by (with_reducible repeat (first | refine blk_drewN ?_ _ | refine blk_drew ?_ | refine blk_alloc ?_ _)); refine blk_put (cs := #[.int .i64 ((rd_T39 t393 x7_1).f0), .string ((rd_T39 t393 x7_1).f1), .int .i64 ((rd_T39 t393 x7_1).f2.f0), .int .i64 ((rd_T39 t393 x7_1).f2.f1), .int .u64 ((rd_T39 t393 x7_1).f2.f2), .string ((rd_T39 t393 x7_1).f2.f3), .int .i64 0]) ?_ 6 _ rfl; (with_reducible repeat (first | refine blk_drewN ?_ _ | refine blk_drew ?_ | refine blk_alloc ?_ _)); refine blk_put (cs := #[.int .i64 ((rd_T39 t393 x7_1).f0), .string ((rd_T39 t393 x7_1).f1), .int .i64 ((rd_T39 t393 x7_1).f2.f0), .int .i64 ((rd_T39 t393 x7_1).f2.f1), .int .u64 ((rd_T39 t393 x7_1).f2.f2), .string (⟨#[]⟩ : ByteArray), .int .i64 0]) ?_ 5 _ rfl; (with_reducible repeat (first | refine blk_drewN ?_ _ | refine blk_drew ?_ | refine blk_alloc ?_ _)); refine blk_put (cs := #[.int .i64 ((rd_T39 t393 x7_1).f0), .string ((rd_T39 t393 x7_1).f1), .int .i64 ((rd_T39 t393 x7_1).f2.f0), .int .i64 ((rd_T39 t393 x7_1).f2.f1), .int .u64 0, .string (⟨#[]⟩ : ByteArray), .int .i64 0]) ?_ 4 _ rfl; (with_reducible repeat (first | refine blk_drewN ?_ _ | refine blk_drew ?_ | refine blk_alloc ?_ _)); refine blk_put (cs := #[.int .i64 ((rd_T39 t393 x7_1).f0), .string ((rd_T39 t393 x7_1).f1), .int .i64 ((rd_T39 t393 x7_1).f2.f0), .int .i64 0, .int .u64 0, .string (⟨#[]⟩ : ByteArray), .int .i64 0]) ?_ 3 _ rfl; (with_reducible repeat (first | refine blk_drewN ?_ _ | refine blk_drew ?_ | refine blk_alloc ?_ _)); refine blk_put (cs := #[.int .i64 ((rd_T39 t393 x7_1).f0), .string ((rd_T39 t393 x7_1).f1), .int .i64 0, .int .i64 0, .int .u64 0, .string (⟨#[]⟩ : ByteArray), .int .i64 0]) ?_ 2 _ rfl; (with_reducible repeat (first | refine blk_drewN ?_ _ | refine blk_drew ?_ | refine blk_alloc ?_ _)); refine blk_put (cs := #[.int .i64 ((rd_T39 t393 x7_1).f0), .string (⟨#[]⟩ : ByteArray), .int .i64 0, .int .i64 0, .int .u64 0, .string (⟨#[]⟩ : ByteArray), .int .i64 0]) ?_ 1 _ rfl; (with_reducible repeat (first | refine blk_drewN ?_ _ | refine blk_drew ?_ | refine blk_alloc ?_ _)); refine blk_put (cs := #[.int .i64 0, .string (⟨#[]⟩ : ByteArray), .int .i64 0, .int .i64 0, .int .u64 0, .string (⟨#[]⟩ : ByteArray), .int .i64 0]) ?_ 0 _ rfl; (with_reducible repeat (first | refine blk_drewN ?_ _ | refine blk_drew ?_ | refine blk_alloc ?_ _)); exact BK402.out⟩, ⟨by repeat (first | (with_reducible first | exact HB.out | apply below_alloc | apply pw_below_drewN | apply below_drew1 | refine below_set ?_ GE402.out) | exact HB.out)⟩⟩
                        · rw [if_neg c20] at H
                          exact absurd H (by simp)
                      · rw [if_neg c19] at H
                        exact absurd H (by simp)
                    · rw [if_neg c18] at H
                      exact absurd H (by simp)
            case rest =>
              clear HC8
              try clear c1
              try clear c2
              try clear p2
              try clear c4
              try clear c4b0
              try clear c4b1
              try clear p4
              try clear q4
              try clear hx4
              try clear c6
              try clear c6b0
              try clear p6
              try clear c7
              try clear c7b0
              try clear c8
              try clear c12
              try clear c12b0
              try clear c14
              try clear c14b0
              try clear c16
              try clear c16b0
              try clear c18
              try clear c18b0
              try clear c18b1
              try clear c19
              try clear c19b0
              try clear c19b1
              try clear c20
              try clear c20b0
              try clear c20b1
              try clear c21
              try clear c21b0
              try clear c21b1
              try clear hcz11_0
              try clear hcz11_1
              try clear hcz11_2
              try clear hcz11_3
              try clear hcz11_4
              try clear hcz11_5
              try clear hcz11_6
              try clear hcz13_0
              try clear hcz13_1
              try clear hcz13_2
              try clear hcz13_3
              try clear hcz13_4
              try clear hcz13_5
              try clear hcz13_6
              try clear hcz15_0
              try clear hcz15_1
              try clear hcz15_2
              try clear hcz15_3
              try clear hcz15_4
              try clear hcz15_5
              try clear hcz15_6
              try clear hcz17_0
              try clear hcz17_1
              try clear hcz17_2
              try clear hcz17_3
              try clear hcz17_4
              try clear hcz17_5
              try clear hcz17_6
              try clear hcz22_0
              try clear hcz22_1
              try clear hcz22_2
              try clear hcz22_3
              try clear hcz22_4
              try clear hcz22_5
              try clear hcz22_6
              try clear hcz23_0
              try clear hcz23_1
              try clear hcz23_2
              try clear hcz23_3
              try clear hcz23_4
              try clear hcz23_5
              try clear hcz23_6
              try clear hfz11_0
              try clear hfz11_1
              try clear hfz11_2
              try clear hfz11_3
              try clear hfz11_4
              try clear hfz11_5
              try clear hfz11_6
              try clear hfz13_0
              try clear hfz13_1
              try clear hfz13_2
              try clear hfz13_3
              try clear hfz13_4
              try clear hfz13_5
              try clear hfz13_6
              try clear hfz15_0
              try clear hfz15_1
              try clear hfz15_2
              try clear hfz15_3
              try clear hfz15_4
              try clear hfz15_5
              try clear hfz15_6
              try clear hfz17_0
              try clear hfz17_1
              try clear hfz17_2
              try clear hfz17_3
              try clear hfz17_4
              try clear hfz17_5
              try clear hfz17_6
              try clear hfz22_0
              try clear hfz22_1
              try clear hfz22_2
              try clear hfz22_3
              try clear hfz22_4
              try clear hfz22_5
              try clear hfz22_6
              try clear hfz23_0
              try clear hfz23_1
              try clear hfz23_2
              try clear hfz23_3
              try clear hfz23_4
              try clear hfz23_5
              try clear hfz23_6
              try clear hx401_0
              try clear hx401_1
              try clear hx401_2
              try clear hx401_3
              try clear hx401_4
              try clear hx401_5
              try clear hx401_6
              try clear p2
              try clear p401
              try clear q401
              obtain ⟨kq, x92_7, rfl, HA, HJ7, HO_3, BK402, HB⟩ := hcut
              cases kq with
              | zero => exact absurd HA.out (by simp [falseworklaw16_LexCovers.j1])
              | succ kj7 =>
                have H := HA.out
                clear HA
                simp only [falseworklaw16_LexCovers.j1] at H
                by_cases c24 : x92_7 = true
                · subst c24
                  have H1 : (some false) = some r := by rw [if_pos rfl] at H; exact H
                  clear H
                  have H := H1
                  clear H1
                  obtain rfl := Option.some.inj H
                  go_wp2
                  repeat (go_quiet (fail); try go_wp2)
                  go_ret
                  exact ⟨by first | rfl | (simp [errW_none, errW_some] <;> rfl) | (simp [*, errW_none, errW_some] <;> rfl), by repeat (first | (with_reducible first | exact HB.out | apply below_alloc | apply pw_below_drewN | apply below_drew1 | refine below_set ?_ GE402.out) | exact HB.out)⟩
                · replace c24 := Bool.eq_false_iff.mpr c24
                  subst c24
                  have H1 : (falseworklaw16_LexCovers.l1 kj7 a0 t393 x7_1 x6_1 ((rd_T39 t393 x7_1).f0) ((rd_T39 t393 x7_1).f1) ((rd_T39 t393 x7_1).f2.f0) ((rd_T39 t393 x7_1).f2.f1) ((rd_T39 t393 x7_1).f2.f2) ((rd_T39 t393 x7_1).f2.f3) ((rd_T39 t393 x7_1).f3)) = some r := by rw [if_neg (show ¬ (false = true) by decide)] at H; exact H
                  clear H
                  have H := H1
                  clear H1
                  have H' := Aside0.mk H
                  clear H
                  go_wp2
                  repeat (go_quiet (fail); try go_wp2)
                  go_loopg [9] kj7 (fun kq v9 w' => ∃ (x9_3 : Int), v9 = .int .i64 x9_3 ∧ Aside0 (falseworklaw16_LexCovers.l1 kq a0 t393 x7_1 x9_3 ((rd_T39 t393 x7_1).f0) ((rd_T39 t393 x7_1).f1) ((rd_T39 t393 x7_1).f2.f0) ((rd_T39 t393 x7_1).f2.f1) ((rd_T39 t393 x7_1).f2.f2) ((rd_T39 t393 x7_1).f2.f3) ((rd_T39 t393 x7_1).f3) = some r) ∧ Aside0 (kq ≤ kj7) ∧ Aside0 (Kd.R k39 39 w' w.heap.size (fun k_ => k_ ≠ gb402) (.slice (some ad401) t393.length co9) t393) ∧ Aside0 (w'.heap[gb402]? = some (.cells #[.int .i64 ((rd_T39 t393 x7_1).f0), .string ((rd_T39 t393 x7_1).f1), .int .i64 ((rd_T39 t393 x7_1).f2.f0), .int .i64 ((rd_T39 t393 x7_1).f2.f1), .int .u64 ((rd_T39 t393 x7_1).f2.f2), .string ((rd_T39 t393 x7_1).f2.f3), .int .i64 ((rd_T39 t393 x7_1).f3)] 39 (0, 0))) ∧ Aside0 (Below w.heap.size w w'))
                  case atStart => exact ⟨(x6_1), (by first | rfl | (simp; done) | (simp [*]; done)), H', ⟨Nat.le_refl _⟩, ⟨by (with_reducible repeat (first | apply Kd.R_alloc | apply Kd.R_drewN | apply Kd.R_drew)); exact HO_3.out⟩, ⟨by (with_reducible repeat (first | refine blk_drewN ?_ _ | refine blk_drew ?_ | refine blk_alloc ?_ _)); exact BK402.out⟩, ⟨by repeat (first | (with_reducible first | exact HB.out | apply below_alloc | apply pw_below_drewN | apply below_drew1 | refine below_set ?_ GE402.out) | exact HB.out)⟩⟩
                  case round =>
                    clear H'
                    try clear c1
                    try clear c2
                    try clear p2
                    try clear c4
                    try clear c4b0
                    try clear c4b1
                    try clear p4
                    try clear q4
                    try clear hx4
                    try clear c6
                    try clear c6b0
                    try clear p6
                    try clear c7
                    try clear c7b0
                    try clear c8
                    try clear c12
                    try clear c12b0
                    try clear c14
                    try clear c14b0
                    try clear c16
                    try clear c16b0
                    try clear c18
                    try clear c18b0
                    try clear c18b1
                    try clear c19
                    try clear c19b0
                    try clear c19b1
                    try clear c20
                    try clear c20b0
                    try clear c20b1
                    try clear c21
                    try clear c21b0
                    try clear c21b1
                    try clear c24
                    try clear hcz11_0
                    try clear hcz11_1
                    try clear hcz11_2
                    try clear hcz11_3
                    try clear hcz11_4
                    try clear hcz11_5
                    try clear hcz11_6
                    try clear hcz13_0
                    try clear hcz13_1
                    try clear hcz13_2
                    try clear hcz13_3
                    try clear hcz13_4
                    try clear hcz13_5
                    try clear hcz13_6
                    try clear hcz15_0
                    try clear hcz15_1
                    try clear hcz15_2
                    try clear hcz15_3
                    try clear hcz15_4
                    try clear hcz15_5
                    try clear hcz15_6
                    try clear hcz17_0
                    try clear hcz17_1
                    try clear hcz17_2
                    try clear hcz17_3
                    try clear hcz17_4
                    try clear hcz17_5
                    try clear hcz17_6
                    try clear hcz22_0
                    try clear hcz22_1
                    try clear hcz22_2
                    try clear hcz22_3
                    try clear hcz22_4
                    try clear hcz22_5
                    try clear hcz22_6
                    try clear hcz23_0
                    try clear hcz23_1
                    try clear hcz23_2
                    try clear hcz23_3
                    try clear hcz23_4
                    try clear hcz23_5
                    try clear hcz23_6
                    try clear hfz11_0
                    try clear hfz11_1
                    try clear hfz11_2
                    try clear hfz11_3
                    try clear hfz11_4
                    try clear hfz11_5
                    try clear hfz11_6
                    try clear hfz13_0
                    try clear hfz13_1
                    try clear hfz13_2
                    try clear hfz13_3
                    try clear hfz13_4
                    try clear hfz13_5
                    try clear hfz13_6
                    try clear hfz15_0
                    try clear hfz15_1
                    try clear hfz15_2
                    try clear hfz15_3
                    try clear hfz15_4
                    try clear hfz15_5
                    try clear hfz15_6
                    try clear hfz17_0
                    try clear hfz17_1
                    try clear hfz17_2
                    try clear hfz17_3
                    try clear hfz17_4
                    try clear hfz17_5
                    try clear hfz17_6
                    try clear hfz22_0
                    try clear hfz22_1
                    try clear hfz22_2
                    try clear hfz22_3
                    try clear hfz22_4
                    try clear hfz22_5
                    try clear hfz22_6
                    try clear hfz23_0
                    try clear hfz23_1
                    try clear hfz23_2
                    try clear hfz23_3
                    try clear hfz23_4
                    try clear hfz23_5
                    try clear hfz23_6
                    try clear hx401_0
                    try clear hx401_1
                    try clear hx401_2
                    try clear hx401_3
                    try clear hx401_4
                    try clear hx401_5
                    try clear hx401_6
                    try clear p2
                    try clear p4
                    try clear p401
                    try clear p6
                    try clear q4
                    try clear q401
                    obtain ⟨x9_3, rfl, HA, HK3, HO_3, BK402, HB⟩ := hrel
                    cases gk with
                    | zero => exact absurd HA.out (by simp [falseworklaw16_LexCovers.l1])
                    | succ k3 =>
                      have H := HA.out
                      clear HA
                      simp only [falseworklaw16_LexCovers.l1] at H
                      by_cases c25 : x9_3 < ((rd_T39 t393 x7_1).f3)
                      · rw [if_pos c25] at H
                        have c25b0 : decide (x9_3 < ((rd_T39 t393 x7_1).f3)) = true := decide_eq_true c25
                        clear c25
                        by_cases c26 : 0 ≤ x9_3
                        · rw [if_pos c26] at H
                          have c26b0 : decide (0 ≤ x9_3) = true := decide_eq_true c26
                          clear c26
                          by_cases c27 : x9_3 < (a0.size : Int)
                          · rw [if_pos c27] at H
                            have c27b0 : decide (x9_3 < (a0.size : Int)) = true := decide_eq_true c27
                            clear c27
                            by_cases c29 : (bt a0 x9_3) = 32
                            · rw [if_pos c29] at H
                              have c29b0 : ((bt a0 x9_3) == 32) = true := beq_iff_eq.mpr c29
                              have c29b1 : ((bt a0 x9_3) != 32) = false := bne_eq_false_iff_eq.mpr c29
                              clear c29
                              have H' := Aside0.mk H
                              clear H
                              have hcz30_0 : wr.cell? ⟨gb402, 0, none⟩ = some (.int .i64 ((rd_T39 t393 x7_1).f0)) := (blk_cell BK402.out 0).trans rfl
                              have hcz30_1 : wr.cell? ⟨gb402, 1, none⟩ = some (.string ((rd_T39 t393 x7_1).f1)) := (blk_cell BK402.out 1).trans rfl
                              have hcz30_2 : wr.cell? ⟨gb402, 2, none⟩ = some (.int .i64 ((rd_T39 t393 x7_1).f2.f0)) := (blk_cell BK402.out 2).trans rfl
                              have hcz30_3 : wr.cell? ⟨gb402, 3, none⟩ = some (.int .i64 ((rd_T39 t393 x7_1).f2.f1)) := (blk_cell BK402.out 3).trans rfl
                              have hcz30_4 : wr.cell? ⟨gb402, 4, none⟩ = some (.int .u64 ((rd_T39 t393 x7_1).f2.f2)) := (blk_cell BK402.out 4).trans rfl
                              have hcz30_5 : wr.cell? ⟨gb402, 5, none⟩ = some (.string ((rd_T39 t393 x7_1).f2.f3)) := (blk_cell BK402.out 5).trans rfl
                              have hcz30_6 : wr.cell? ⟨gb402, 6, none⟩ = some (.int .i64 ((rd_T39 t393 x7_1).f3)) := (blk_cell BK402.out 6).trans rfl
                              have hfz30_0 := blk_frozen BK402.out 0
                              have hfz30_1 := blk_frozen BK402.out 1
                              have hfz30_2 := blk_frozen BK402.out 2
                              have hfz30_3 := blk_frozen BK402.out 3
                              have hfz30_4 := blk_frozen BK402.out 4
                              have hfz30_5 := blk_frozen BK402.out 5
                              have hfz30_6 := blk_frozen BK402.out 6
                              have p28 : 0 ≤ (x9_3 : Int) := of_decide_eq_true (by first | (with_reducible assumption) | assumption)
                              have q28 : x9_3 < (a0.size : Int) := of_decide_eq_true (by first | (with_reducible assumption) | assumption)
                              have hx28 := bt_at a0 x9_3
                              replace p28 := eq_true p28
                              replace q28 := eq_true q28
                              go_wp2
                              repeat (go_quiet (fail); try go_wp2)
                              go_roundg k3
                              case measure => have := HK1.out; have := HJ7.out; have := HK3.out; omega
                              case rel => exact ⟨(wrap64 (x9_3 + 1)), (by first | rfl | (simp; done) | (simp [*]; done)), H', ⟨by have := HK1.out; have := HJ7.out; have := HK3.out; omega⟩, ⟨by (with_reducible repeat (first | apply Kd.R_alloc | apply Kd.R_drewN | apply Kd.R_drew)); exact HO_3.out⟩, ⟨by (with_reducible repeat (first | refine blk_drewN ?_ _ | refine blk_drew ?_ | refine blk_alloc ?_ _)); exact BK402.out⟩, ⟨by repeat (first | (with_reducible first | exact HB.out | apply below_alloc | apply pw_below_drewN | apply below_drew1 | refine below_set ?_ GE402.out) | exact HB.out)⟩⟩
                            · rw [if_neg c29] at H
                              have c29b0 : ((bt a0 x9_3) == 32) = false := beq_eq_false_iff_ne.mpr c29
                              have c29b1 : ((bt a0 x9_3) != 32) = true := bne_iff_ne.mpr c29
                              by_cases c32 : (bt a0 x9_3) = 9
                              · rw [if_pos c32] at H
                                have c32b0 : ((bt a0 x9_3) == 9) = true := beq_iff_eq.mpr c32
                                have c32b1 : ((bt a0 x9_3) != 9) = false := bne_eq_false_iff_eq.mpr c32
                                clear c32
                                have H' := Aside0.mk H
                                clear H
                                have hcz33_0 : wr.cell? ⟨gb402, 0, none⟩ = some (.int .i64 ((rd_T39 t393 x7_1).f0)) := (blk_cell BK402.out 0).trans rfl
                                have hcz33_1 : wr.cell? ⟨gb402, 1, none⟩ = some (.string ((rd_T39 t393 x7_1).f1)) := (blk_cell BK402.out 1).trans rfl
                                have hcz33_2 : wr.cell? ⟨gb402, 2, none⟩ = some (.int .i64 ((rd_T39 t393 x7_1).f2.f0)) := (blk_cell BK402.out 2).trans rfl
                                have hcz33_3 : wr.cell? ⟨gb402, 3, none⟩ = some (.int .i64 ((rd_T39 t393 x7_1).f2.f1)) := (blk_cell BK402.out 3).trans rfl
                                have hcz33_4 : wr.cell? ⟨gb402, 4, none⟩ = some (.int .u64 ((rd_T39 t393 x7_1).f2.f2)) := (blk_cell BK402.out 4).trans rfl
                                have hcz33_5 : wr.cell? ⟨gb402, 5, none⟩ = some (.string ((rd_T39 t393 x7_1).f2.f3)) := (blk_cell BK402.out 5).trans rfl
                                have hcz33_6 : wr.cell? ⟨gb402, 6, none⟩ = some (.int .i64 ((rd_T39 t393 x7_1).f3)) := (blk_cell BK402.out 6).trans rfl
                                have hfz33_0 := blk_frozen BK402.out 0
                                have hfz33_1 := blk_frozen BK402.out 1
                                have hfz33_2 := blk_frozen BK402.out 2
                                have hfz33_3 := blk_frozen BK402.out 3
                                have hfz33_4 := blk_frozen BK402.out 4
                                have hfz33_5 := blk_frozen BK402.out 5
                                have hfz33_6 := blk_frozen BK402.out 6
                                have p28 : 0 ≤ (x9_3 : Int) := of_decide_eq_true (by first | (with_reducible assumption) | assumption)
                                have q28 : x9_3 < (a0.size : Int) := of_decide_eq_true (by first | (with_reducible assumption) | assumption)
                                have hx28 := bt_at a0 x9_3
                                replace p28 := eq_true p28
                                replace q28 := eq_true q28
                                have p31 : 0 ≤ (x9_3 : Int) := of_decide_eq_true (by first | (with_reducible assumption) | assumption)
                                have q31 : x9_3 < (a0.size : Int) := of_decide_eq_true (by first | (with_reducible assumption) | assumption)
                                have hx31 := bt_at a0 x9_3
                                replace p31 := eq_true p31
                                replace q31 := eq_true q31
                                go_wp2
                                repeat (go_quiet (fail); try go_wp2)
                                go_roundg k3
                                case measure => have := HK1.out; have := HJ7.out; have := HK3.out; omega
                                case rel => exact ⟨(wrap64 (x9_3 + 1)), (by first | rfl | (simp; done) | (simp [*]; done)), H', ⟨by have := HK1.out; have := HJ7.out; have := HK3.out; omega⟩, ⟨by (with_reducible repeat (first | apply Kd.R_alloc | apply Kd.R_drewN | apply Kd.R_drew)); exact HO_3.out⟩, ⟨by (with_reducible repeat (first | refine blk_drewN ?_ _ | refine blk_drew ?_ | refine blk_alloc ?_ _)); exact BK402.out⟩, ⟨by repeat (first | (with_reducible first | exact HB.out | apply below_alloc | apply pw_below_drewN | apply below_drew1 | refine below_set ?_ GE402.out) | exact HB.out)⟩⟩
                              · rw [if_neg c32] at H
                                have c32b0 : ((bt a0 x9_3) == 9) = false := beq_eq_false_iff_ne.mpr c32
                                have c32b1 : ((bt a0 x9_3) != 9) = true := bne_iff_ne.mpr c32
                                by_cases c35 : (bt a0 x9_3) = 10
                                · rw [if_pos c35] at H
                                  have c35b0 : ((bt a0 x9_3) == 10) = true := beq_iff_eq.mpr c35
                                  have c35b1 : ((bt a0 x9_3) != 10) = false := bne_eq_false_iff_eq.mpr c35
                                  clear c35
                                  have H' := Aside0.mk H
                                  clear H
                                  have hcz36_0 : wr.cell? ⟨gb402, 0, none⟩ = some (.int .i64 ((rd_T39 t393 x7_1).f0)) := (blk_cell BK402.out 0).trans rfl
                                  have hcz36_1 : wr.cell? ⟨gb402, 1, none⟩ = some (.string ((rd_T39 t393 x7_1).f1)) := (blk_cell BK402.out 1).trans rfl
                                  have hcz36_2 : wr.cell? ⟨gb402, 2, none⟩ = some (.int .i64 ((rd_T39 t393 x7_1).f2.f0)) := (blk_cell BK402.out 2).trans rfl
                                  have hcz36_3 : wr.cell? ⟨gb402, 3, none⟩ = some (.int .i64 ((rd_T39 t393 x7_1).f2.f1)) := (blk_cell BK402.out 3).trans rfl
                                  have hcz36_4 : wr.cell? ⟨gb402, 4, none⟩ = some (.int .u64 ((rd_T39 t393 x7_1).f2.f2)) := (blk_cell BK402.out 4).trans rfl
                                  have hcz36_5 : wr.cell? ⟨gb402, 5, none⟩ = some (.string ((rd_T39 t393 x7_1).f2.f3)) := (blk_cell BK402.out 5).trans rfl
                                  have hcz36_6 : wr.cell? ⟨gb402, 6, none⟩ = some (.int .i64 ((rd_T39 t393 x7_1).f3)) := (blk_cell BK402.out 6).trans rfl
                                  have hfz36_0 := blk_frozen BK402.out 0
                                  have hfz36_1 := blk_frozen BK402.out 1
                                  have hfz36_2 := blk_frozen BK402.out 2
                                  have hfz36_3 := blk_frozen BK402.out 3
                                  have hfz36_4 := blk_frozen BK402.out 4
                                  have hfz36_5 := blk_frozen BK402.out 5
                                  have hfz36_6 := blk_frozen BK402.out 6
                                  have p28 : 0 ≤ (x9_3 : Int) := of_decide_eq_true (by first | (with_reducible assumption) | assumption)
                                  have q28 : x9_3 < (a0.size : Int) := of_decide_eq_true (by first | (with_reducible assumption) | assumption)
                                  have hx28 := bt_at a0 x9_3
                                  replace p28 := eq_true p28
                                  replace q28 := eq_true q28
                                  have p31 : 0 ≤ (x9_3 : Int) := of_decide_eq_true (by first | (with_reducible assumption) | assumption)
                                  have q31 : x9_3 < (a0.size : Int) := of_decide_eq_true (by first | (with_reducible assumption) | assumption)
                                  have hx31 := bt_at a0 x9_3
                                  replace p31 := eq_true p31
                                  replace q31 := eq_true q31
                                  have p34 : 0 ≤ (x9_3 : Int) := of_decide_eq_true (by first | (with_reducible assumption) | assumption)
                                  have q34 : x9_3 < (a0.size : Int) := of_decide_eq_true (by first | (with_reducible assumption) | assumption)
                                  have hx34 := bt_at a0 x9_3
                                  replace p34 := eq_true p34
                                  replace q34 := eq_true q34
                                  go_wp2
                                  repeat (go_quiet (fail); try go_wp2)
                                  go_roundg k3
                                  case measure => have := HK1.out; have := HJ7.out; have := HK3.out; omega
                                  case rel => exact ⟨(wrap64 (x9_3 + 1)), (by first | rfl | (simp; done) | (simp [*]; done)), H', ⟨by have := HK1.out; have := HJ7.out; have := HK3.out; omega⟩, ⟨by (with_reducible repeat (first | apply Kd.R_alloc | apply Kd.R_drewN | apply Kd.R_drew)); exact HO_3.out⟩, ⟨by (with_reducible repeat (first | refine blk_drewN ?_ _ | refine blk_drew ?_ | refine blk_alloc ?_ _)); exact BK402.out⟩, ⟨by repeat (first | (with_reducible first | exact HB.out | apply below_alloc | apply pw_below_drewN | apply below_drew1 | refine below_set ?_ GE402.out) | exact HB.out)⟩⟩
                                · rw [if_neg c35] at H
                                  have c35b0 : ((bt a0 x9_3) == 10) = false := beq_eq_false_iff_ne.mpr c35
                                  have c35b1 : ((bt a0 x9_3) != 10) = true := bne_iff_ne.mpr c35
                                  obtain rfl := Option.some.inj H
                                  have hcz37_0 : wr.cell? ⟨gb402, 0, none⟩ = some (.int .i64 ((rd_T39 t393 x7_1).f0)) := (blk_cell BK402.out 0).trans rfl
                                  have hcz37_1 : wr.cell? ⟨gb402, 1, none⟩ = some (.string ((rd_T39 t393 x7_1).f1)) := (blk_cell BK402.out 1).trans rfl
                                  have hcz37_2 : wr.cell? ⟨gb402, 2, none⟩ = some (.int .i64 ((rd_T39 t393 x7_1).f2.f0)) := (blk_cell BK402.out 2).trans rfl
                                  have hcz37_3 : wr.cell? ⟨gb402, 3, none⟩ = some (.int .i64 ((rd_T39 t393 x7_1).f2.f1)) := (blk_cell BK402.out 3).trans rfl
                                  have hcz37_4 : wr.cell? ⟨gb402, 4, none⟩ = some (.int .u64 ((rd_T39 t393 x7_1).f2.f2)) := (blk_cell BK402.out 4).trans rfl
                                  have hcz37_5 : wr.cell? ⟨gb402, 5, none⟩ = some (.string ((rd_T39 t393 x7_1).f2.f3)) := (blk_cell BK402.out 5).trans rfl
                                  have hcz37_6 : wr.cell? ⟨gb402, 6, none⟩ = some (.int .i64 ((rd_T39 t393 x7_1).f3)) := (blk_cell BK402.out 6).trans rfl
                                  have hfz37_0 := blk_frozen BK402.out 0
                                  have hfz37_1 := blk_frozen BK402.out 1
                                  have hfz37_2 := blk_frozen BK402.out 2
                                  have hfz37_3 := blk_frozen BK402.out 3
                                  have hfz37_4 := blk_frozen BK402.out 4
                                  have hfz37_5 := blk_frozen BK402.out 5
                                  have hfz37_6 := blk_frozen BK402.out 6
                                  have p28 : 0 ≤ (x9_3 : Int) := of_decide_eq_true (by first | (with_reducible assumption) | assumption)
                                  have q28 : x9_3 < (a0.size : Int) := of_decide_eq_true (by first | (with_reducible assumption) | assumption)
                                  have hx28 := bt_at a0 x9_3
                                  replace p28 := eq_true p28
                                  replace q28 := eq_true q28
                                  have p31 : 0 ≤ (x9_3 : Int) := of_decide_eq_true (by first | (with_reducible assumption) | assumption)
                                  have q31 : x9_3 < (a0.size : Int) := of_decide_eq_true (by first | (with_reducible assumption) | assumption)
                                  have hx31 := bt_at a0 x9_3
                                  replace p31 := eq_true p31
                                  replace q31 := eq_true q31
                                  have p34 : 0 ≤ (x9_3 : Int) := of_decide_eq_true (by first | (with_reducible assumption) | assumption)
                                  have q34 : x9_3 < (a0.size : Int) := of_decide_eq_true (by first | (with_reducible assumption) | assumption)
                                  have hx34 := bt_at a0 x9_3
                                  replace p34 := eq_true p34
                                  replace q34 := eq_true q34
                                  go_wp2
                                  repeat (go_quiet (fail); try go_wp2)
                                  go_ret
                                  exact ⟨by first | rfl | (simp [errW_none, errW_some] <;> rfl) | (simp [*, errW_none, errW_some] <;> rfl), by repeat (first | (with_reducible first | exact HB.out | apply below_alloc | apply pw_below_drewN | apply below_drew1 | refine below_set ?_ GE402.out) | exact HB.out)⟩
                          · rw [if_neg c27] at H
                            exact absurd H (by simp)
                        · rw [if_neg c26] at H
                          exact absurd H (by simp)
                      · rw [if_neg c25] at H
                        have c25b0 : decide (x9_3 < ((rd_T39 t393 x7_1).f3)) = false := decide_eq_false c25
                        clear c25
                        have H' := Aside0.mk H
                        clear H
                        have hcz38_0 : wr.cell? ⟨gb402, 0, none⟩ = some (.int .i64 ((rd_T39 t393 x7_1).f0)) := (blk_cell BK402.out 0).trans rfl
                        have hcz38_1 : wr.cell? ⟨gb402, 1, none⟩ = some (.string ((rd_T39 t393 x7_1).f1)) := (blk_cell BK402.out 1).trans rfl
                        have hcz38_2 : wr.cell? ⟨gb402, 2, none⟩ = some (.int .i64 ((rd_T39 t393 x7_1).f2.f0)) := (blk_cell BK402.out 2).trans rfl
                        have hcz38_3 : wr.cell? ⟨gb402, 3, none⟩ = some (.int .i64 ((rd_T39 t393 x7_1).f2.f1)) := (blk_cell BK402.out 3).trans rfl
                        have hcz38_4 : wr.cell? ⟨gb402, 4, none⟩ = some (.int .u64 ((rd_T39 t393 x7_1).f2.f2)) := (blk_cell BK402.out 4).trans rfl
                        have hcz38_5 : wr.cell? ⟨gb402, 5, none⟩ = some (.string ((rd_T39 t393 x7_1).f2.f3)) := (blk_cell BK402.out 5).trans rfl
                        have hcz38_6 : wr.cell? ⟨gb402, 6, none⟩ = some (.int .i64 ((rd_T39 t393 x7_1).f3)) := (blk_cell BK402.out 6).trans rfl
                        have hfz38_0 := blk_frozen BK402.out 0
                        have hfz38_1 := blk_frozen BK402.out 1
                        have hfz38_2 := blk_frozen BK402.out 2
                        have hfz38_3 := blk_frozen BK402.out 3
                        have hfz38_4 := blk_frozen BK402.out 4
                        have hfz38_5 := blk_frozen BK402.out 5
                        have hfz38_6 := blk_frozen BK402.out 6
                        go_wp2
                        repeat (go_quiet (fail); try go_wp2)
                        go_roundg k3
                        case measure => have := HK1.out; have := HJ7.out; have := HK3.out; omega
                        case rel => exact ⟨(wrap64 (((rd_T39 t393 x7_1).f3) + (((rd_T39 t393 x7_1).f1).size : Int))), (wrap64 (x7_1 + 1)), (by first | rfl | (simp; done) | (simp [*]; done)), (by first | rfl | (simp; done) | (simp [*]; done)), H', ⟨by have := HK1.out; have := HJ7.out; have := HK3.out; omega⟩, ⟨by (with_reducible repeat (first | apply Kd.R_alloc | apply Kd.R_drewN | apply Kd.R_drew)); exact Kd.R_mono HO_3.out (fun _ hk => trivial)⟩, ⟨by repeat (first | (with_reducible first | exact HB.out | apply below_alloc | apply pw_below_drewN | apply below_drew1 | refine below_set ?_ GE402.out) | exact HB.out)⟩⟩
          · rw [if_neg c7] at H
            exact absurd H (by simp)
        · rw [if_neg c6] at H
          have c6b0 : decide (x7_1 < (t393.length : Int)) = false := decide_eq_false c6
          clear c6
          by_cases c39 : x6_1 = (a0.size : Int)
          · rw [if_pos c39] at H
            have c39b0 : (x6_1 == (a0.size : Int)) = true := beq_iff_eq.mpr c39
            have c39b1 : (x6_1 != (a0.size : Int)) = false := bne_eq_false_iff_eq.mpr c39
            clear c39
            replace H := Option.bind_eq_some_iff.mp H
            obtain ⟨t400, A400, H⟩ := H
            replace H : (some t400) = some r := H
            have A40 := Aside0.mk A400
            clear A400
            obtain rfl := Option.some.inj H
            obtain ⟨Ao41, co41, eo41⟩ := Kd.R_slice HO_3.out
            subst eo41
            go_wp2_with (first | (go_at_call 13; (with_reducible refine (falseworklaw16_awake.calls k1  t400 _ A40.out ?side1).mono ?_); (case side1 => exact GL.of_below HG.out (by repeat (first | (with_reducible first | exact HB.out | apply below_alloc | apply pw_below_drewN | apply below_drew1) | exact HB.out))); rintro e w42 ⟨rfl, hb⟩; have n0_ := Aside0.mk (Kd.R_below (by (with_reducible repeat (first | apply Kd.R_alloc | apply Kd.R_drewN | apply Kd.R_drew)); exact HO_3.out) hb); have n1_ := Aside0.mk (below_step (by repeat (first | (with_reducible first | exact HB.out | apply below_alloc | apply pw_below_drewN | apply below_drew1) | exact HB.out)) hb); clear HO_3; clear HB; have HO_3 := n0_; have HB := n1_; clear n0_ n1_; (try clear hb); (try clear hb2); (try clear hk); (try clear hi)))
            repeat (go_quiet (first | (go_at_call 13; (with_reducible refine (falseworklaw16_awake.calls k1  t400 _ A40.out ?side1).mono ?_); (case side1 => exact GL.of_below HG.out (by repeat (first | (with_reducible first | exact HB.out | apply below_alloc | apply pw_below_drewN | apply below_drew1) | exact HB.out))); rintro e w42 ⟨rfl, hb⟩; have n0_ := Aside0.mk (Kd.R_below (by (with_reducible repeat (first | apply Kd.R_alloc | apply Kd.R_drewN | apply Kd.R_drew)); exact HO_3.out) hb); have n1_ := Aside0.mk (below_step (by repeat (first | (with_reducible first | exact HB.out | apply below_alloc | apply pw_below_drewN | apply below_drew1) | exact HB.out)) hb); clear HO_3; clear HB; have HO_3 := n0_; have HB := n1_; clear n0_ n1_; (try clear hb); (try clear hb2); (try clear hk); (try clear hi))); try go_wp2_with (first | (go_at_call 13; (with_reducible refine (falseworklaw16_awake.calls k1  t400 _ A40.out ?side1).mono ?_); (case side1 => exact GL.of_below HG.out (by repeat (first | (with_reducible first | exact HB.out | apply below_alloc | apply pw_below_drewN | apply below_drew1) | exact HB.out))); rintro e w42 ⟨rfl, hb⟩; have n0_ := Aside0.mk (Kd.R_below (by (with_reducible repeat (first | apply Kd.R_alloc | apply Kd.R_drewN | apply Kd.R_drew)); exact HO_3.out) hb); have n1_ := Aside0.mk (below_step (by repeat (first | (with_reducible first | exact HB.out | apply below_alloc | apply pw_below_drewN | apply below_drew1) | exact HB.out)) hb); clear HO_3; clear HB; have HO_3 := n0_; have HB := n1_; clear n0_ n1_; (try clear hb); (try clear hb2); (try clear hk); (try clear hi))))
            go_ret
            exact ⟨by first | rfl | (simp [errW_none, errW_some] <;> rfl) | (simp [*, errW_none, errW_some] <;> rfl), by repeat (first | (with_reducible first | exact HB.out | apply below_alloc | apply pw_below_drewN | apply below_drew1) | exact HB.out)⟩
          · rw [if_neg c39] at H
            have c39b0 : (x6_1 == (a0.size : Int)) = false := beq_eq_false_iff_ne.mpr c39
            have c39b1 : (x6_1 != (a0.size : Int)) = true := bne_iff_ne.mpr c39
            obtain rfl := Option.some.inj H
            obtain ⟨Ao43, co43, eo43⟩ := Kd.R_slice HO_3.out
            subst eo43
            go_wp2
            repeat (go_quiet (fail); try go_wp2)
            go_ret
            exact ⟨by first | rfl | (simp [errW_none, errW_some] <;> rfl) | (simp [*, errW_none, errW_some] <;> rfl), by repeat (first | (with_reducible first | exact HB.out | apply below_alloc | apply pw_below_drewN | apply below_drew1) | exact HB.out)⟩
  · rw [if_neg c4] at H
    have c4b0 : (t398 == 0) = false := beq_eq_false_iff_ne.mpr c4
    have c4b1 : (t398 != 0) = true := bne_iff_ne.mpr c4
    by_cases c44 : (t393.length : Int) = 0
    · rw [if_pos c44] at H
      have c44b0 : ((t393.length : Int) == 0) = true := beq_iff_eq.mpr c44
      have c44b1 : ((t393.length : Int) != 0) = false := bne_eq_false_iff_eq.mpr c44
      clear c44
      by_cases c45 : t394 ≥ 0
      · rw [if_pos c45] at H
        have c45b0 : decide (0 ≤ t394) = true := decide_eq_true c45
        clear c45
        by_cases c46 : t394 ≤ (a0.size : Int)
        · rw [if_pos c46] at H
          have c46b0 : decide (t394 ≤ (a0.size : Int)) = true := decide_eq_true c46
          clear c46
          replace H := Option.bind_eq_some_iff.mp H
          obtain ⟨t399, A470, H⟩ := H
          replace H : (some t399) = some r := H
          have A47 := Aside0.mk A470
          clear A470
          obtain rfl := Option.some.inj H
          go_enter Tryd.func8, Tryd.ntmps8
          go_wp2_with (first | (go_at_call 9; (with_reducible refine (lex_Lex.calls k a0 t393 t394 t395 _ A2.out ?side1).mono ?_); (case side1 => exact GL.of_below HG.out (by repeat (first | (with_reducible first | exact HB.out | apply below_alloc | apply pw_below_drewN | apply below_drew1) | exact HB.out))); rintro e w48 ⟨v396, rfl, ho0, hb⟩; have n0_ := Aside0.mk (Kd.R_lower ho0 (below_size (by repeat (first | (with_reducible first | exact HB.out | apply below_alloc | apply pw_below_drewN | apply below_drew1) | exact HB.out)))); have n1_ := Aside0.mk (below_step (by repeat (first | (with_reducible first | exact HB.out | apply below_alloc | apply pw_below_drewN | apply below_drew1) | exact HB.out)) hb); clear HB; have HO397 := n0_; have HB := n1_; clear n0_ n1_; (try clear hb); (try clear hb2); (try clear hk); (try clear hi); (try clear ho0)) | (go_at_call 12; (with_reducible refine (falseworklaw16_num.calls t395 t398 _ A3.out).mono ?_); rintro e w' ⟨rfl, ⟨nd, rfl⟩⟩; (try first | exact ⟨rfl, _, World.drewN_drewN _ _ _⟩ | exact ⟨rfl, _, Eq.trans (World.drewN_drewN _ _ _) (congrArg (World.drewN _) (Nat.add_assoc _ _ _))⟩); obtain ⟨Ao49, co49, eo49⟩ := Kd.R_slice HO397.out; subst eo49) | (go_at_call 13; (with_reducible refine (falseworklaw16_awake.calls k  t399 _ A47.out ?side1).mono ?_); (case side1 => exact GL.of_below HG.out (by repeat (first | (with_reducible first | exact HB.out | apply below_alloc | apply pw_below_drewN | apply below_drew1) | exact HB.out))); rintro e w50 ⟨rfl, hb⟩; have n0_ := Aside0.mk (Kd.R_below (by (with_reducible repeat (first | apply Kd.R_alloc | apply Kd.R_drewN | apply Kd.R_drew)); exact HO397.out) hb); have n1_ := Aside0.mk (below_step (by repeat (first | (with_reducible first | exact HB.out | apply below_alloc | apply pw_below_drewN | apply below_drew1) | exact HB.out)) hb); clear HO397; clear HB; have HO397 := n0_; have HB := n1_; clear n0_ n1_; (try clear hb); (try clear hb2); (try clear hk); (try clear hi)))
          repeat (go_quiet (first | (go_at_call 9; (with_reducible refine (lex_Lex.calls k a0 t393 t394 t395 _ A2.out ?side1).mono ?_); (case side1 => exact GL.of_below HG.out (by repeat (first | (with_reducible first | exact HB.out | apply below_alloc | apply pw_below_drewN | apply below_drew1) | exact HB.out))); rintro e w48 ⟨v396, rfl, ho0, hb⟩; have n0_ := Aside0.mk (Kd.R_lower ho0 (below_size (by repeat (first | (with_reducible first | exact HB.out | apply below_alloc | apply pw_below_drewN | apply below_drew1) | exact HB.out)))); have n1_ := Aside0.mk (below_step (by repeat (first | (with_reducible first | exact HB.out | apply below_alloc | apply pw_below_drewN | apply below_drew1) | exact HB.out)) hb); clear HB; have HO397 := n0_; have HB := n1_; clear n0_ n1_; (try clear hb); (try clear hb2); (try clear hk); (try clear hi); (try clear ho0)) | (go_at_call 12; (with_reducible refine (falseworklaw16_num.calls t395 t398 _ A3.out).mono ?_); rintro e w' ⟨rfl, ⟨nd, rfl⟩⟩; (try first | exact ⟨rfl, _, World.drewN_drewN _ _ _⟩ | exact ⟨rfl, _, Eq.trans (World.drewN_drewN _ _ _) (congrArg (World.drewN _) (Nat.add_assoc _ _ _))⟩); obtain ⟨Ao49, co49, eo49⟩ := Kd.R_slice HO397.out; subst eo49) | (go_at_call 13; (with_reducible refine (falseworklaw16_awake.calls k  t399 _ A47.out ?side1).mono ?_); (case side1 => exact GL.of_below HG.out (by repeat (first | (with_reducible first | exact HB.out | apply below_alloc | apply pw_below_drewN | apply below_drew1) | exact HB.out))); rintro e w50 ⟨rfl, hb⟩; have n0_ := Aside0.mk (Kd.R_below (by (with_reducible repeat (first | apply Kd.R_alloc | apply Kd.R_drewN | apply Kd.R_drew)); exact HO397.out) hb); have n1_ := Aside0.mk (below_step (by repeat (first | (with_reducible first | exact HB.out | apply below_alloc | apply pw_below_drewN | apply below_drew1) | exact HB.out)) hb); clear HO397; clear HB; have HO397 := n0_; have HB := n1_; clear n0_ n1_; (try clear hb); (try clear hb2); (try clear hk); (try clear hi))); try go_wp2_with (first | (go_at_call 9; (with_reducible refine (lex_Lex.calls k a0 t393 t394 t395 _ A2.out ?side1).mono ?_); (case side1 => exact GL.of_below HG.out (by repeat (first | (with_reducible first | exact HB.out | apply below_alloc | apply pw_below_drewN | apply below_drew1) | exact HB.out))); rintro e w48 ⟨v396, rfl, ho0, hb⟩; have n0_ := Aside0.mk (Kd.R_lower ho0 (below_size (by repeat (first | (with_reducible first | exact HB.out | apply below_alloc | apply pw_below_drewN | apply below_drew1) | exact HB.out)))); have n1_ := Aside0.mk (below_step (by repeat (first | (with_reducible first | exact HB.out | apply below_alloc | apply pw_below_drewN | apply below_drew1) | exact HB.out)) hb); clear HB; have HO397 := n0_; have HB := n1_; clear n0_ n1_; (try clear hb); (try clear hb2); (try clear hk); (try clear hi); (try clear ho0)) | (go_at_call 12; (with_reducible refine (falseworklaw16_num.calls t395 t398 _ A3.out).mono ?_); rintro e w' ⟨rfl, ⟨nd, rfl⟩⟩; (try first | exact ⟨rfl, _, World.drewN_drewN _ _ _⟩ | exact ⟨rfl, _, Eq.trans (World.drewN_drewN _ _ _) (congrArg (World.drewN _) (Nat.add_assoc _ _ _))⟩); obtain ⟨Ao49, co49, eo49⟩ := Kd.R_slice HO397.out; subst eo49) | (go_at_call 13; (with_reducible refine (falseworklaw16_awake.calls k  t399 _ A47.out ?side1).mono ?_); (case side1 => exact GL.of_below HG.out (by repeat (first | (with_reducible first | exact HB.out | apply below_alloc | apply pw_below_drewN | apply below_drew1) | exact HB.out))); rintro e w50 ⟨rfl, hb⟩; have n0_ := Aside0.mk (Kd.R_below (by (with_reducible repeat (first | apply Kd.R_alloc | apply Kd.R_drewN | apply Kd.R_drew)); exact HO397.out) hb); have n1_ := Aside0.mk (below_step (by repeat (first | (with_reducible first | exact HB.out | apply below_alloc | apply pw_below_drewN | apply below_drew1) | exact HB.out)) hb); clear HO397; clear HB; have HO397 := n0_; have HB := n1_; clear n0_ n1_; (try clear hb); (try clear hb2); (try clear hk); (try clear hi))))
          go_ret
          exact ⟨by first | rfl | (simp [errW_none, errW_some] <;> rfl) | (simp [*, errW_none, errW_some] <;> rfl), by repeat (first | (with_reducible first | exact HB.out | apply below_alloc | apply pw_below_drewN | apply below_drew1) | exact HB.out)⟩
        · rw [if_neg c46] at H
          have c46b0 : decide (t394 ≤ (a0.size : Int)) = false := decide_eq_false c46
          clear c46
          obtain rfl := Option.some.inj H
          go_enter Tryd.func8, Tryd.ntmps8
          go_wp2_with (first | (go_at_call 9; (with_reducible refine (lex_Lex.calls k a0 t393 t394 t395 _ A2.out ?side1).mono ?_); (case side1 => exact GL.of_below HG.out (by repeat (first | (with_reducible first | exact HB.out | apply below_alloc | apply pw_below_drewN | apply below_drew1) | exact HB.out))); rintro e w51 ⟨v396, rfl, ho0, hb⟩; have n0_ := Aside0.mk (Kd.R_lower ho0 (below_size (by repeat (first | (with_reducible first | exact HB.out | apply below_alloc | apply pw_below_drewN | apply below_drew1) | exact HB.out)))); have n1_ := Aside0.mk (below_step (by repeat (first | (with_reducible first | exact HB.out | apply below_alloc | apply pw_below_drewN | apply below_drew1) | exact HB.out)) hb); clear HB; have HO397 := n0_; have HB := n1_; clear n0_ n1_; (try clear hb); (try clear hb2); (try clear hk); (try clear hi); (try clear ho0)) | (go_at_call 12; (with_reducible refine (falseworklaw16_num.calls t395 t398 _ A3.out).mono ?_); rintro e w' ⟨rfl, ⟨nd, rfl⟩⟩; (try first | exact ⟨rfl, _, World.drewN_drewN _ _ _⟩ | exact ⟨rfl, _, Eq.trans (World.drewN_drewN _ _ _) (congrArg (World.drewN _) (Nat.add_assoc _ _ _))⟩); obtain ⟨Ao52, co52, eo52⟩ := Kd.R_slice HO397.out; subst eo52))
          repeat (go_quiet (first | (go_at_call 9; (with_reducible refine (lex_Lex.calls k a0 t393 t394 t395 _ A2.out ?side1).mono ?_); (case side1 => exact GL.of_below HG.out (by repeat (first | (with_reducible first | exact HB.out | apply below_alloc | apply pw_below_drewN | apply below_drew1) | exact HB.out))); rintro e w51 ⟨v396, rfl, ho0, hb⟩; have n0_ := Aside0.mk (Kd.R_lower ho0 (below_size (by repeat (first | (with_reducible first | exact HB.out | apply below_alloc | apply pw_below_drewN | apply below_drew1) | exact HB.out)))); have n1_ := Aside0.mk (below_step (by repeat (first | (with_reducible first | exact HB.out | apply below_alloc | apply pw_below_drewN | apply below_drew1) | exact HB.out)) hb); clear HB; have HO397 := n0_; have HB := n1_; clear n0_ n1_; (try clear hb); (try clear hb2); (try clear hk); (try clear hi); (try clear ho0)) | (go_at_call 12; (with_reducible refine (falseworklaw16_num.calls t395 t398 _ A3.out).mono ?_); rintro e w' ⟨rfl, ⟨nd, rfl⟩⟩; (try first | exact ⟨rfl, _, World.drewN_drewN _ _ _⟩ | exact ⟨rfl, _, Eq.trans (World.drewN_drewN _ _ _) (congrArg (World.drewN _) (Nat.add_assoc _ _ _))⟩); obtain ⟨Ao52, co52, eo52⟩ := Kd.R_slice HO397.out; subst eo52)); try go_wp2_with (first | (go_at_call 9; (with_reducible refine (lex_Lex.calls k a0 t393 t394 t395 _ A2.out ?side1).mono ?_); (case side1 => exact GL.of_below HG.out (by repeat (first | (with_reducible first | exact HB.out | apply below_alloc | apply pw_below_drewN | apply below_drew1) | exact HB.out))); rintro e w51 ⟨v396, rfl, ho0, hb⟩; have n0_ := Aside0.mk (Kd.R_lower ho0 (below_size (by repeat (first | (with_reducible first | exact HB.out | apply below_alloc | apply pw_below_drewN | apply below_drew1) | exact HB.out)))); have n1_ := Aside0.mk (below_step (by repeat (first | (with_reducible first | exact HB.out | apply below_alloc | apply pw_below_drewN | apply below_drew1) | exact HB.out)) hb); clear HB; have HO397 := n0_; have HB := n1_; clear n0_ n1_; (try clear hb); (try clear hb2); (try clear hk); (try clear hi); (try clear ho0)) | (go_at_call 12; (with_reducible refine (falseworklaw16_num.calls t395 t398 _ A3.out).mono ?_); rintro e w' ⟨rfl, ⟨nd, rfl⟩⟩; (try first | exact ⟨rfl, _, World.drewN_drewN _ _ _⟩ | exact ⟨rfl, _, Eq.trans (World.drewN_drewN _ _ _) (congrArg (World.drewN _) (Nat.add_assoc _ _ _))⟩); obtain ⟨Ao52, co52, eo52⟩ := Kd.R_slice HO397.out; subst eo52)))
          go_ret
          exact ⟨by first | rfl | (simp [errW_none, errW_some] <;> rfl) | (simp [*, errW_none, errW_some] <;> rfl), by repeat (first | (with_reducible first | exact HB.out | apply below_alloc | apply pw_below_drewN | apply below_drew1) | exact HB.out)⟩
      · rw [if_neg c45] at H
        have c45b0 : decide (0 ≤ t394) = false := decide_eq_false c45
        clear c45
        obtain rfl := Option.some.inj H
        go_enter Tryd.func8, Tryd.ntmps8
        go_wp2_with (first | (go_at_call 9; (with_reducible refine (lex_Lex.calls k a0 t393 t394 t395 _ A2.out ?side1).mono ?_); (case side1 => exact GL.of_below HG.out (by repeat (first | (with_reducible first | exact HB.out | apply below_alloc | apply pw_below_drewN | apply below_drew1) | exact HB.out))); rintro e w53 ⟨v396, rfl, ho0, hb⟩; have n0_ := Aside0.mk (Kd.R_lower ho0 (below_size (by repeat (first | (with_reducible first | exact HB.out | apply below_alloc | apply pw_below_drewN | apply below_drew1) | exact HB.out)))); have n1_ := Aside0.mk (below_step (by repeat (first | (with_reducible first | exact HB.out | apply below_alloc | apply pw_below_drewN | apply below_drew1) | exact HB.out)) hb); clear HB; have HO397 := n0_; have HB := n1_; clear n0_ n1_; (try clear hb); (try clear hb2); (try clear hk); (try clear hi); (try clear ho0)) | (go_at_call 12; (with_reducible refine (falseworklaw16_num.calls t395 t398 _ A3.out).mono ?_); rintro e w' ⟨rfl, ⟨nd, rfl⟩⟩; (try first | exact ⟨rfl, _, World.drewN_drewN _ _ _⟩ | exact ⟨rfl, _, Eq.trans (World.drewN_drewN _ _ _) (congrArg (World.drewN _) (Nat.add_assoc _ _ _))⟩); obtain ⟨Ao54, co54, eo54⟩ := Kd.R_slice HO397.out; subst eo54))
        repeat (go_quiet (first | (go_at_call 9; (with_reducible refine (lex_Lex.calls k a0 t393 t394 t395 _ A2.out ?side1).mono ?_); (case side1 => exact GL.of_below HG.out (by repeat (first | (with_reducible first | exact HB.out | apply below_alloc | apply pw_below_drewN | apply below_drew1) | exact HB.out))); rintro e w53 ⟨v396, rfl, ho0, hb⟩; have n0_ := Aside0.mk (Kd.R_lower ho0 (below_size (by repeat (first | (with_reducible first | exact HB.out | apply below_alloc | apply pw_below_drewN | apply below_drew1) | exact HB.out)))); have n1_ := Aside0.mk (below_step (by repeat (first | (with_reducible first | exact HB.out | apply below_alloc | apply pw_below_drewN | apply below_drew1) | exact HB.out)) hb); clear HB; have HO397 := n0_; have HB := n1_; clear n0_ n1_; (try clear hb); (try clear hb2); (try clear hk); (try clear hi); (try clear ho0)) | (go_at_call 12; (with_reducible refine (falseworklaw16_num.calls t395 t398 _ A3.out).mono ?_); rintro e w' ⟨rfl, ⟨nd, rfl⟩⟩; (try first | exact ⟨rfl, _, World.drewN_drewN _ _ _⟩ | exact ⟨rfl, _, Eq.trans (World.drewN_drewN _ _ _) (congrArg (World.drewN _) (Nat.add_assoc _ _ _))⟩); obtain ⟨Ao54, co54, eo54⟩ := Kd.R_slice HO397.out; subst eo54)); try go_wp2_with (first | (go_at_call 9; (with_reducible refine (lex_Lex.calls k a0 t393 t394 t395 _ A2.out ?side1).mono ?_); (case side1 => exact GL.of_below HG.out (by repeat (first | (with_reducible first | exact HB.out | apply below_alloc | apply pw_below_drewN | apply below_drew1) | exact HB.out))); rintro e w53 ⟨v396, rfl, ho0, hb⟩; have n0_ := Aside0.mk (Kd.R_lower ho0 (below_size (by repeat (first | (with_reducible first | exact HB.out | apply below_alloc | apply pw_below_drewN | apply below_drew1) | exact HB.out)))); have n1_ := Aside0.mk (below_step (by repeat (first | (with_reducible first | exact HB.out | apply below_alloc | apply pw_below_drewN | apply below_drew1) | exact HB.out)) hb); clear HB; have HO397 := n0_; have HB := n1_; clear n0_ n1_; (try clear hb); (try clear hb2); (try clear hk); (try clear hi); (try clear ho0)) | (go_at_call 12; (with_reducible refine (falseworklaw16_num.calls t395 t398 _ A3.out).mono ?_); rintro e w' ⟨rfl, ⟨nd, rfl⟩⟩; (try first | exact ⟨rfl, _, World.drewN_drewN _ _ _⟩ | exact ⟨rfl, _, Eq.trans (World.drewN_drewN _ _ _) (congrArg (World.drewN _) (Nat.add_assoc _ _ _))⟩); obtain ⟨Ao54, co54, eo54⟩ := Kd.R_slice HO397.out; subst eo54)))
        go_ret
        exact ⟨by first | rfl | (simp [errW_none, errW_some] <;> rfl) | (simp [*, errW_none, errW_some] <;> rfl), by repeat (first | (with_reducible first | exact HB.out | apply below_alloc | apply pw_below_drewN | apply below_drew1) | exact HB.out)⟩
    · rw [if_neg c44] at H
      have c44b0 : ((t393.length : Int) == 0) = false := beq_eq_false_iff_ne.mpr c44
      have c44b1 : ((t393.length : Int) != 0) = true := bne_iff_ne.mpr c44
      have c44b2 : ¬ (t393 = []) := fun h_ => c44 (by rw [h_]; rfl)
      obtain rfl := Option.some.inj H
      go_enter Tryd.func8, Tryd.ntmps8
      go_wp2_with (first | (go_at_call 9; (with_reducible refine (lex_Lex.calls k a0 t393 t394 t395 _ A2.out ?side1).mono ?_); (case side1 => exact GL.of_below HG.out (by repeat (first | (with_reducible first | exact HB.out | apply below_alloc | apply pw_below_drewN | apply below_drew1) | exact HB.out))); rintro e w55 ⟨v396, rfl, ho0, hb⟩; have n0_ := Aside0.mk (Kd.R_lower ho0 (below_size (by repeat (first | (with_reducible first | exact HB.out | apply below_alloc | apply pw_below_drewN | apply below_drew1) | exact HB.out)))); have n1_ := Aside0.mk (below_step (by repeat (first | (with_reducible first | exact HB.out | apply below_alloc | apply pw_below_drewN | apply below_drew1) | exact HB.out)) hb); clear HB; have HO397 := n0_; have HB := n1_; clear n0_ n1_; (try clear hb); (try clear hb2); (try clear hk); (try clear hi); (try clear ho0)) | (go_at_call 12; (with_reducible refine (falseworklaw16_num.calls t395 t398 _ A3.out).mono ?_); rintro e w' ⟨rfl, ⟨nd, rfl⟩⟩; (try first | exact ⟨rfl, _, World.drewN_drewN _ _ _⟩ | exact ⟨rfl, _, Eq.trans (World.drewN_drewN _ _ _) (congrArg (World.drewN _) (Nat.add_assoc _ _ _))⟩); obtain ⟨Ao56, co56, eo56⟩ := Kd.R_slice HO397.out; subst eo56))
      repeat (go_quiet (first | (go_at_call 9; (with_reducible refine (lex_Lex.calls k a0 t393 t394 t395 _ A2.out ?side1).mono ?_); (case side1 => exact GL.of_below HG.out (by repeat (first | (with_reducible first | exact HB.out | apply below_alloc | apply pw_below_drewN | apply below_drew1) | exact HB.out))); rintro e w55 ⟨v396, rfl, ho0, hb⟩; have n0_ := Aside0.mk (Kd.R_lower ho0 (below_size (by repeat (first | (with_reducible first | exact HB.out | apply below_alloc | apply pw_below_drewN | apply below_drew1) | exact HB.out)))); have n1_ := Aside0.mk (below_step (by repeat (first | (with_reducible first | exact HB.out | apply below_alloc | apply pw_below_drewN | apply below_drew1) | exact HB.out)) hb); clear HB; have HO397 := n0_; have HB := n1_; clear n0_ n1_; (try clear hb); (try clear hb2); (try clear hk); (try clear hi); (try clear ho0)) | (go_at_call 12; (with_reducible refine (falseworklaw16_num.calls t395 t398 _ A3.out).mono ?_); rintro e w' ⟨rfl, ⟨nd, rfl⟩⟩; (try first | exact ⟨rfl, _, World.drewN_drewN _ _ _⟩ | exact ⟨rfl, _, Eq.trans (World.drewN_drewN _ _ _) (congrArg (World.drewN _) (Nat.add_assoc _ _ _))⟩); obtain ⟨Ao56, co56, eo56⟩ := Kd.R_slice HO397.out; subst eo56)); try go_wp2_with (first | (go_at_call 9; (with_reducible refine (lex_Lex.calls k a0 t393 t394 t395 _ A2.out ?side1).mono ?_); (case side1 => exact GL.of_below HG.out (by repeat (first | (with_reducible first | exact HB.out | apply below_alloc | apply pw_below_drewN | apply below_drew1) | exact HB.out))); rintro e w55 ⟨v396, rfl, ho0, hb⟩; have n0_ := Aside0.mk (Kd.R_lower ho0 (below_size (by repeat (first | (with_reducible first | exact HB.out | apply below_alloc | apply pw_below_drewN | apply below_drew1) | exact HB.out)))); have n1_ := Aside0.mk (below_step (by repeat (first | (with_reducible first | exact HB.out | apply below_alloc | apply pw_below_drewN | apply below_drew1) | exact HB.out)) hb); clear HB; have HO397 := n0_; have HB := n1_; clear n0_ n1_; (try clear hb); (try clear hb2); (try clear hk); (try clear hi); (try clear ho0)) | (go_at_call 12; (with_reducible refine (falseworklaw16_num.calls t395 t398 _ A3.out).mono ?_); rintro e w' ⟨rfl, ⟨nd, rfl⟩⟩; (try first | exact ⟨rfl, _, World.drewN_drewN _ _ _⟩ | exact ⟨rfl, _, Eq.trans (World.drewN_drewN _ _ _) (congrArg (World.drewN _) (Nat.add_assoc _ _ _))⟩); obtain ⟨Ao56, co56, eo56⟩ := Kd.R_slice HO397.out; subst eo56)))
      go_ret
      exact ⟨by first | rfl | (simp [errW_none, errW_some] <;> rfl) | (simp [*, errW_none, errW_some] <;> rfl), by repeat (first | (with_reducible first | exact HB.out | apply below_alloc | apply pw_below_drewN | apply below_drew1) | exact HB.out)⟩

end Go.Proofs.YtjehfmimbbdnkaaDoor.L
