/- Own texts of this session, packed by its program wip/pp/pack.py: lemmas and walks of functions. -/
import Derived.Laws.BitsAllLaws
import Derived.Maps.OwnSet
import Derived.Lib.Hide
import Derived.OneCell
import Derived.ChangeArms
import Derived.OpenShut
import Derived.Test.YtjgomlcdmpcoaaaDoorKSteps2
import Derived.Test.YtjgomlcdmpcoaaaDoorKSteps3
namespace Go.Proofs.YtjgomlcdmpcoaaaDoor.H
open Go.RowKit Go.Proofs.YtjgomlcdmpcoaaaDoorW.PrintWords Go.Proofs.YtjgomlcdmpcoaaaDoorW.PrintLast Go.Proofs.YtjgomlcdmpcoaaaDoorW.PrintMore
open Go.Proofs.YtjgomlcdmpcoaaaDoor.D Go.Proofs.YtjgomlcdmpcoaaaDoor
set_option linter.unusedVariables false
def valB (v : S73) : Bool := if v.f0 = 3 then canonI v.f2 == v.f2 && (v.f1 == 0 && (v.f3.toList == ([] : List UInt8))) else mayB v.f0 v.f1 v.f2 v.f3
def columnB (c : S75) : Bool := nameB c.f1 && (decide (1 ≤ c.f2) && (decide (c.f2 ≤ 5) && (stateB c.f3 && (stateB c.f4 && (valB c.f5 && (c.f5.f0 == 0 || c.f5.f0 == c.f2))))))
def ValWf (v : S73) : Prop := 0 ≤ v.f2 ∧ v.f2 < 18446744073709551616
theorem val_may (v : S73) (h : ValWf v) : value_May.f v.f0 v.f1 v.f2 v.f3 = some (valB v) := by
  unfold value_May.f valB flo_Canon.f
  rw [if_pos h.1, if_pos h.2]
  split <;> rfl
theorem ref_canon (f : Int) (h0 : 0 ≤ f) (h1 : f < 18446744073709551616) : falseworkref1_Canon.f f = some (canonI f) := by
  have hb : Go.bits .andNot .u64 f 9223372036854775808 = f % 9223372036854775808 := by
    rw [u64_andNot f 9223372036854775808 h0 h1 (by decide) (by decide)]
    have e : (18446744073709551615 - (9223372036854775808 : Int).toNat : Nat) = 2 ^ 63 - 1 := by decide
    rw [e, Nat.and_two_pow_sub_one_eq_mod]
    omega
  unfold falseworkref1_Canon.f canonI
  rw [hb]
  split
  · rfl
  · split <;> rfl
theorem ref_val (v : S73) (h : ValWf v) : falseworkref2_May.f v.f0 v.f1 v.f2 v.f3 = some (valB v) := by
  unfold falseworkref2_May.f valB mayB
  rw [ref_canon _ h.1 h.2]
  have d : decide ((v.f3.size : Int) ≤ 40) = decide (v.f3.size ≤ 40) := by rw [decide_eq_decide]; omega
  simp only [d, Option.bind_some]
  have he : ∀ (x y : Option Bool), (if v.f3.toList = ([] : List UInt8) then x else y) = if (v.f3.toList == ([] : List UInt8)) = true then x else y := fun x y => by
    by_cases h : v.f3.toList = [] <;> simp [h]
  simp only [he]
  obtain ⟨e, hE⟩ : ∃ e, (v.f3.toList == ([] : List UInt8)) = e := ⟨_, rfl⟩
  obtain ⟨z, hz⟩ : ∃ z, decide (v.f3.size ≤ 40) = z := ⟨_, rfl⟩
  rw [hE, hz]
  obtain ⟨k, hk⟩ : ∃ k, v.f0 = k := ⟨_, rfl⟩
  obtain ⟨n, hn⟩ : ∃ n, v.f1 = n := ⟨_, rfl⟩
  obtain ⟨f, hf⟩ : ∃ f, v.f2 = f := ⟨_, rfl⟩
  rw [hk, hn, hf]
  clear hE hz he d h hk hn hf v
  by_cases k0 : k = 0
  · subst k0; cases e <;> by_cases h1 : n = 0 <;> by_cases h2 : f = 0 <;> simp [h1, h2]
  by_cases k1 : k = 1
  · subst k1; cases e <;> by_cases h1 : n = 0 <;> by_cases h3 : n = 1 <;> by_cases h2 : f = 0 <;> simp [h1, h2, h3]
  by_cases k2 : k = 2
  · subst k2; cases e <;> by_cases h2 : f = 0 <;> simp [h2]
  by_cases k3 : k = 3
  · subst k3; cases e <;> by_cases h1 : n = 0 <;> simp [h1]
  by_cases k4 : k = 4
  · subst k4; cases z <;> by_cases h1 : n = 0 <;> by_cases h2 : f = 0 <;> simp [h1, h2]
  by_cases k5 : k = 5
  · subst k5; cases z <;> by_cases h1 : n = 0 <;> by_cases h2 : f = 0 <;> simp [h1, h2]
  simp [k0, k1, k2, k3, k4, k5]
set_option maxRecDepth 100000 in
set_option maxHeartbeats 4000000 in
theorem column_calls' (c : S75) (h : ValWf c.f5) (w : World) (hG : GL w) : Calls Tryd.prog 124 #[.agg #[.int .i64 c.f0, .string c.f1, .int .i64 c.f2, .int .i64 c.f3, .int .i64 c.f4, .int .i64 c.f5.f0, .int .i64 c.f5.f1, .int .u64 c.f5.f2, .string c.f5.f3]] w
    fun e w' => e = .returned (.bool (columnB c)) ∧ Below w.heap.size w w' := by
  have hb0 := below_alloc (Below.refl _ w) (.cells #[.int .i64 c.f0, .string c.f1, .int .i64 c.f2, .int .i64 c.f3, .int .i64 c.f4, .int .i64 c.f5.f0, .int .i64 c.f5.f1, .int .u64 c.f5.f2, .string c.f5.f3] 75)
  have HX := Aside0.mk (heap_alloc_new w (.cells #[.int .i64 c.f0, .string c.f1, .int .i64 c.f2, .int .i64 c.f3, .int .i64 c.f4, .int .i64 c.f5.f0, .int .i64 c.f5.f1, .int .u64 c.f5.f2, .string c.f5.f3] 75))
  have HB := Aside0.mk hb0
  have x1 := (Go.Proofs.YtjgomlcdmpcoaaaDoorW.PrintWords.blk_cell HX.out 1).trans (show _ = some (.string c.f1) from rfl)
  have HI := Lib.hid (show columnB c = _ by unfold columnB; exact rfl)
  obtain ⟨r, hr⟩ : ∃ r, columnB c = r := ⟨_, rfl⟩
  rw [hr] at HI ⊢
  have HN := Lib.hid (nameCalls c.f1 (w.alloc (.cells #[.int .i64 c.f0, .string c.f1, .int .i64 c.f2, .int .i64 c.f3, .int .i64 c.f4, .int .i64 c.f5.f0, .int .i64 c.f5.f1, .int .u64 c.f5.f2, .string c.f5.f3] 75)) (hG.of_below hb0))
  have H3 := Lib.hid (fun W => state_calls c.f3 W)
  have H4 := Lib.hid (fun W => state_calls c.f4 W)
  have HV := Lib.hid (fun W => (value_May.calls _ _ _ _ _ W (val_may c.f5 h)))
  clear hb0 hr h hG
  obtain ⟨nm, hnm⟩ : ∃ b, nameB c.f1 = b := ⟨_, rfl⟩
  obtain ⟨g1, hg1⟩ : ∃ b, decide (1 ≤ c.f2) = b := ⟨_, rfl⟩
  obtain ⟨g2, hg2⟩ : ∃ b, decide (c.f2 ≤ 5) = b := ⟨_, rfl⟩
  obtain ⟨s3, hs3⟩ : ∃ b, stateB c.f3 = b := ⟨_, rfl⟩
  obtain ⟨s4, hs4⟩ : ∃ b, stateB c.f4 = b := ⟨_, rfl⟩
  obtain ⟨vb, hvb⟩ : ∃ b, valB c.f5 = b := ⟨_, rfl⟩
  obtain ⟨e0, he0⟩ : ∃ b, (c.f5.f0 == 0) = b := ⟨_, rfl⟩
  obtain ⟨e1, he1⟩ : ∃ b, (c.f5.f0 == c.f2) = b := ⟨_, rfl⟩
  rw [hnm, hg1, hg2, hs3, hs4, hvb, he0, he1] at HI
  rw [hnm] at HN
  clear hnm
  rw [hs3] at H3
  clear hs3
  rw [hs4] at H4
  clear hs4
  rw [hvb] at HV
  clear hvb
  have hcase : (nm = false ∧ r = false) ∨ (nm = true ∧ g1 = false ∧ r = false) ∨ (nm = true ∧ g1 = true ∧ g2 = false ∧ r = false) ∨ (nm = true ∧ g1 = true ∧ g2 = true ∧ s3 = false ∧ r = false) ∨ (nm = true ∧ g1 = true ∧ g2 = true ∧ s3 = true ∧ s4 = false ∧ r = false) ∨ (nm = true ∧ g1 = true ∧ g2 = true ∧ s3 = true ∧ s4 = true ∧ vb = false ∧ r = false) ∨ (nm = true ∧ g1 = true ∧ g2 = true ∧ s3 = true ∧ s4 = true ∧ vb = true ∧ e0 = true ∧ r = true) ∨ (nm = true ∧ g1 = true ∧ g2 = true ∧ s3 = true ∧ s4 = true ∧ vb = true ∧ e0 = false ∧ r = e1) := by
    rw [HI.out]
    cases nm <;> cases g1 <;> cases g2 <;> cases s3 <;> cases s4 <;> cases vb <;> cases e0 <;> simp
  clear HI
  rcases hcase with ⟨rfl, rfl⟩ | ⟨rfl, rfl, rfl⟩ | ⟨rfl, rfl, rfl, rfl⟩ | ⟨rfl, rfl, rfl, rfl, rfl⟩ | ⟨rfl, rfl, rfl, rfl, rfl, rfl⟩ | ⟨rfl, rfl, rfl, rfl, rfl, rfl, rfl⟩ | ⟨rfl, rfl, rfl, rfl, rfl, rfl, rfl, rfl⟩ | ⟨rfl, rfl, rfl, rfl, rfl, rfl, rfl, rfl⟩
  all_goals
    go_enter Tryd.func124, Tryd.ntmps124
    go_wp2_with (first | (go_at_call 33; refine (HN.out).mono ?_; rintro e w1 ⟨rfl, hb1⟩; have HB1 := Aside0.mk (below_then HB.out (by simp) hb1); have hx1 := blk_below HX.out hb1; have HX1 := Aside0.mk hx1; have x2 := (Go.Proofs.YtjgomlcdmpcoaaaDoorW.PrintWords.blk_cell hx1 2).trans (show _ = some (.int .i64 c.f2) from rfl); have x3 := (Go.Proofs.YtjgomlcdmpcoaaaDoorW.PrintWords.blk_cell hx1 3).trans (show _ = some (.int .i64 c.f3) from rfl); have x4 := (Go.Proofs.YtjgomlcdmpcoaaaDoorW.PrintWords.blk_cell hx1 4).trans (show _ = some (.int .i64 c.f4) from rfl); have x5 := (Go.Proofs.YtjgomlcdmpcoaaaDoorW.PrintWords.blk_cell hx1 5).trans (show _ = some (.int .i64 c.f5.f0) from rfl); have x6 := (Go.Proofs.YtjgomlcdmpcoaaaDoorW.PrintWords.blk_cell hx1 6).trans (show _ = some (.int .i64 c.f5.f1) from rfl); have x7 := (Go.Proofs.YtjgomlcdmpcoaaaDoorW.PrintWords.blk_cell hx1 7).trans (show _ = some (.int .u64 c.f5.f2) from rfl); have x8 := (Go.Proofs.YtjgomlcdmpcoaaaDoorW.PrintWords.blk_cell hx1 8).trans (show _ = some (.string c.f5.f3) from rfl); clear hx1 hb1 x1) | (go_at_call 162; first | (refine (H3.out _).mono ?_; rintro e w2 ⟨rfl, rfl⟩) | (refine (H4.out _).mono ?_; rintro e w2 ⟨rfl, rfl⟩)) | (go_at_call 144; refine (HV.out _).mono ?_; rintro e w4 ⟨rfl, hb4⟩; have HB2 := Aside0.mk (below_then HB1.out HB1.out.size hb4); have hx4 := blk_below HX1.out hb4; clear x2 x3 x4 x5 x6 x7 x8; have x2 := (Go.Proofs.YtjgomlcdmpcoaaaDoorW.PrintWords.blk_cell hx4 2).trans (show _ = some (.int .i64 c.f2) from rfl); have x5 := (Go.Proofs.YtjgomlcdmpcoaaaDoorW.PrintWords.blk_cell hx4 5).trans (show _ = some (.int .i64 c.f5.f0) from rfl); clear hx4 hb4))
    all_goals
      go_ret
      exact ⟨rfl, by repeat (first | exact HB.out | exact HB1.out | exact HB2.out | exact HB3.out)⟩
set_option maxRecDepth 100000 in
set_option maxHeartbeats 4000000 in
theorem rcol126 (c : S75) (h : ValWf c.f5) (w : World) : Calls Tryd.prog 126 #[.agg #[.int .i64 c.f0, .string c.f1, .int .i64 c.f2, .int .i64 c.f3, .int .i64 c.f4, .int .i64 c.f5.f0, .int .i64 c.f5.f1, .int .u64 c.f5.f2, .string c.f5.f3]] w
    fun e w' => e = .returned (.bool (columnB c)) ∧ Below w.heap.size w w' := by
  have hb0 := below_alloc (Below.refl _ w) (.cells #[.int .i64 c.f0, .string c.f1, .int .i64 c.f2, .int .i64 c.f3, .int .i64 c.f4, .int .i64 c.f5.f0, .int .i64 c.f5.f1, .int .u64 c.f5.f2, .string c.f5.f3] 75)
  have HX := Aside0.mk (heap_alloc_new w (.cells #[.int .i64 c.f0, .string c.f1, .int .i64 c.f2, .int .i64 c.f3, .int .i64 c.f4, .int .i64 c.f5.f0, .int .i64 c.f5.f1, .int .u64 c.f5.f2, .string c.f5.f3] 75))
  have HB := Aside0.mk hb0
  have x1 := (Go.Proofs.YtjgomlcdmpcoaaaDoorW.PrintWords.blk_cell HX.out 1).trans (show _ = some (.string c.f1) from rfl)
  have HI := Lib.hid (show columnB c = _ by unfold columnB stateB; exact rfl)
  obtain ⟨r, hr⟩ : ∃ r, columnB c = r := ⟨_, rfl⟩
  rw [hr] at HI ⊢
  have HN := Lib.hid (show Calls Tryd.prog 34 #[.string c.f1] (w.alloc (.cells #[.int .i64 c.f0, .string c.f1, .int .i64 c.f2, .int .i64 c.f3, .int .i64 c.f4, .int .i64 c.f5.f0, .int .i64 c.f5.f1, .int .u64 c.f5.f2, .string c.f5.f3] 75)) fun e w' => e = .returned (.bool (nameB c.f1)) ∧ Below (w.alloc (.cells #[.int .i64 c.f0, .string c.f1, .int .i64 c.f2, .int .i64 c.f3, .int .i64 c.f4, .int .i64 c.f5.f0, .int .i64 c.f5.f1, .int .u64 c.f5.f2, .string c.f5.f3] 75)).heap.size (w.alloc (.cells #[.int .i64 c.f0, .string c.f1, .int .i64 c.f2, .int .i64 c.f3, .int .i64 c.f4, .int .i64 c.f5.f0, .int .i64 c.f5.f1, .int .u64 c.f5.f2, .string c.f5.f3] 75)) w' from (falseworkref6_Name.calls 101 c.f1 (nameB c.f1) _ (ref_name _ 101 (by decide))).mono fun e w' h => ⟨h.1, by first | exact h.2 | exact h.2.below⟩)
  have HV := Lib.hid (fun W => (falseworkref2_May.calls _ _ _ _ _ W (ref_val c.f5 h)))
  clear hb0 hr h
  obtain ⟨nm, hnm⟩ : ∃ b, nameB c.f1 = b := ⟨_, rfl⟩
  obtain ⟨g1, hg1⟩ : ∃ b, decide (1 ≤ c.f2) = b := ⟨_, rfl⟩
  obtain ⟨g2, hg2⟩ : ∃ b, decide (c.f2 ≤ 5) = b := ⟨_, rfl⟩
  obtain ⟨a3, ha3⟩ : ∃ b, decide (0 ≤ c.f3) = b := ⟨_, rfl⟩
  obtain ⟨b3, hb3⟩ : ∃ b, decide (c.f3 ≤ 4) = b := ⟨_, rfl⟩
  obtain ⟨a4, ha4⟩ : ∃ b, decide (0 ≤ c.f4) = b := ⟨_, rfl⟩
  obtain ⟨b4, hb4⟩ : ∃ b, decide (c.f4 ≤ 4) = b := ⟨_, rfl⟩
  obtain ⟨vb, hvb⟩ : ∃ b, valB c.f5 = b := ⟨_, rfl⟩
  obtain ⟨e0, he0⟩ : ∃ b, (c.f5.f0 == 0) = b := ⟨_, rfl⟩
  obtain ⟨e1, he1⟩ : ∃ b, (c.f5.f0 == c.f2) = b := ⟨_, rfl⟩
  rw [hnm, hg1, hg2, ha3, hb3, ha4, hb4, hvb, he0, he1] at HI
  rw [hnm] at HN
  clear hnm
  rw [hvb] at HV
  clear hvb
  have hcase : (nm = false ∧ r = false) ∨ (nm = true ∧ g1 = false ∧ r = false) ∨ (nm = true ∧ g1 = true ∧ g2 = false ∧ r = false) ∨ (nm = true ∧ g1 = true ∧ g2 = true ∧ a3 = false ∧ r = false) ∨ (nm = true ∧ g1 = true ∧ g2 = true ∧ a3 = true ∧ b3 = false ∧ r = false) ∨ (nm = true ∧ g1 = true ∧ g2 = true ∧ a3 = true ∧ b3 = true ∧ a4 = false ∧ r = false) ∨ (nm = true ∧ g1 = true ∧ g2 = true ∧ a3 = true ∧ b3 = true ∧ a4 = true ∧ b4 = false ∧ r = false) ∨ (nm = true ∧ g1 = true ∧ g2 = true ∧ a3 = true ∧ b3 = true ∧ a4 = true ∧ b4 = true ∧ vb = false ∧ r = false) ∨ (nm = true ∧ g1 = true ∧ g2 = true ∧ a3 = true ∧ b3 = true ∧ a4 = true ∧ b4 = true ∧ vb = true ∧ e0 = true ∧ r = true) ∨ (nm = true ∧ g1 = true ∧ g2 = true ∧ a3 = true ∧ b3 = true ∧ a4 = true ∧ b4 = true ∧ vb = true ∧ e0 = false ∧ r = e1) := by
    rw [HI.out]
    cases nm <;> cases g1 <;> cases g2 <;> cases a3 <;> cases b3 <;> cases a4 <;> cases b4 <;> cases vb <;> cases e0 <;> simp
  clear HI
  rcases hcase with ⟨rfl, rfl⟩ | ⟨rfl, rfl, rfl⟩ | ⟨rfl, rfl, rfl, rfl⟩ | ⟨rfl, rfl, rfl, rfl, rfl⟩ | ⟨rfl, rfl, rfl, rfl, rfl, rfl⟩ | ⟨rfl, rfl, rfl, rfl, rfl, rfl, rfl⟩ | ⟨rfl, rfl, rfl, rfl, rfl, rfl, rfl, rfl⟩ | ⟨rfl, rfl, rfl, rfl, rfl, rfl, rfl, rfl, rfl⟩ | ⟨rfl, rfl, rfl, rfl, rfl, rfl, rfl, rfl, rfl, rfl⟩ | ⟨rfl, rfl, rfl, rfl, rfl, rfl, rfl, rfl, rfl, rfl⟩
  all_goals
    go_enter Tryd.func126, Tryd.ntmps126
    go_wp2_with (first | (go_at_call 34; refine (HN.out).mono ?_; rintro e w1 ⟨rfl, hb1⟩; have HB1 := Aside0.mk (below_then HB.out (by simp) hb1); have hx1 := blk_below HX.out hb1; have HX1 := Aside0.mk hx1; have x2 := (Go.Proofs.YtjgomlcdmpcoaaaDoorW.PrintWords.blk_cell hx1 2).trans (show _ = some (.int .i64 c.f2) from rfl); have x3 := (Go.Proofs.YtjgomlcdmpcoaaaDoorW.PrintWords.blk_cell hx1 3).trans (show _ = some (.int .i64 c.f3) from rfl); have x4 := (Go.Proofs.YtjgomlcdmpcoaaaDoorW.PrintWords.blk_cell hx1 4).trans (show _ = some (.int .i64 c.f4) from rfl); have x5 := (Go.Proofs.YtjgomlcdmpcoaaaDoorW.PrintWords.blk_cell hx1 5).trans (show _ = some (.int .i64 c.f5.f0) from rfl); have x6 := (Go.Proofs.YtjgomlcdmpcoaaaDoorW.PrintWords.blk_cell hx1 6).trans (show _ = some (.int .i64 c.f5.f1) from rfl); have x7 := (Go.Proofs.YtjgomlcdmpcoaaaDoorW.PrintWords.blk_cell hx1 7).trans (show _ = some (.int .u64 c.f5.f2) from rfl); have x8 := (Go.Proofs.YtjgomlcdmpcoaaaDoorW.PrintWords.blk_cell hx1 8).trans (show _ = some (.string c.f5.f3) from rfl); clear hx1 hb1 x1) | (go_at_call 118; refine (HV.out _).mono ?_; rintro e w4 ⟨rfl, hb4⟩; have HB2 := Aside0.mk (below_then HB1.out HB1.out.size hb4); have hx4 := blk_below HX1.out hb4; clear x2 x3 x4 x5 x6 x7 x8; have x2 := (Go.Proofs.YtjgomlcdmpcoaaaDoorW.PrintWords.blk_cell hx4 2).trans (show _ = some (.int .i64 c.f2) from rfl); have x5 := (Go.Proofs.YtjgomlcdmpcoaaaDoorW.PrintWords.blk_cell hx4 5).trans (show _ = some (.int .i64 c.f5.f0) from rfl); clear hx4 hb4))
    all_goals
      go_ret
      exact ⟨rfl, by repeat (first | exact HB.out | exact HB1.out | exact HB2.out | exact HB3.out)⟩
end Go.Proofs.YtjgomlcdmpcoaaaDoor.H
namespace Go.Proofs.YtjgomlcdmpcoaaaDoor.H
open Go.RowKit Go.Proofs.YtjgomlcdmpcoaaaDoorW.PrintWords Go.Proofs.YtjgomlcdmpcoaaaDoorW.PrintLast Go.Proofs.YtjgomlcdmpcoaaaDoorW.PrintMore
open Go.Maps
set_option linter.unusedVariables false
theorem zero3 (w : World) : (zeroValue 3).run Tryd.prog w = .ok (.int .i64 0) w := by kernel_rfl
def CntM {κ : Type} [DecidableEq κ] (k : TypeId) (lit : κ → Lit) (w : World) (B n : Nat) (l : List κ) : Prop :=
  ∃ D : DataW Unit, w.ownsMap Tryd.prog k (plainElem Tryd.prog 3) B n D ∧ ∀ x, D.atKey (lit x) (.lit (.int .i64 0)) = .lit (.int .i64 (l.count x))
section
variable {κ : Type} [DecidableEq κ] {k : TypeId} {lit : κ → Lit} {w w' : World} {B n : Nat} {l : List κ}
theorem CntM.new (k : TypeId) (lit : κ → Lit) (w : World) : CntM k lit (w.alloc (.map #[] 0)) w.heap.size 0 ([] : List κ) :=
  ⟨_, World.ownsMap_made w Tryd.prog k _, fun x => rfl⟩
theorem CntM.kept (h : CntM k lit w B n l) {row : Option Nat} (hg : w.grownBy w' row) (hne : some B ≠ row) : CntM k lit w' B n l := by
  obtain ⟨D, h1, h2⟩ := h
  exact ⟨D, h1.kept hg hne, h2⟩
theorem CntM.below (h : CntM k lit w B n l) (hb : Below w.heap.size w w') : CntM k lit w' B n l := h.kept (grown_of_below hb none) (by simp)
theorem CntM.snoc {x : κ} (h : CntM k lit w B (l.length + 1) (l ++ [x])) : CntM k lit w B (l ++ [x]).length (l ++ [x]) := by
  rw [List.length_append]
  exact h
theorem CntM.lt (h : CntM k lit w B n l) : B < w.heap.size := by
  obtain ⟨D, h1, _⟩ := h
  exact h1.lt
set_option maxRecDepth 100000 in
theorem CntM.look (h : CntM k lit w B n l) (K : Keyed Tryd.prog k) {t : TypeId} (ht : Tryd.prog.underlying t = some (.map k 3)) {key : Value} {x : κ} (hkey : keyOf Tryd.prog k key = some (lit x)) :
    (Instr.lookup t (.map (some B)) key false).run Tryd.prog w = .ok (.int .i64 (l.count x)) w := by
  obtain ⟨D, h1, h2⟩ := h
  obtain ⟨c, hrun, hat, _⟩ := h1.lookup_int K ht Tryd.underlying3 (zero3 _) hkey
  rw [h2] at hat
  have e : ∀ a b : Int, (DataW.lit (.int .i64 a) : DataW Unit) = .lit (.int .i64 b) → a = b := fun a b q => by
    injection q with q
    injection q with _ q
  rw [hrun, e _ _ hat]
theorem CntM.look0 (h : CntM k lit w B n l) (K : Keyed Tryd.prog k) {t : TypeId} (ht : Tryd.prog.underlying t = some (.map k 3)) {key : Value} {x : κ} (hkey : keyOf Tryd.prog k key = some (lit x)) {c : Int} (hc : (l.count x : Int) = c) :
    (Instr.lookup t (.map (some B)) key false).run Tryd.prog w = .ok (.int .i64 c) w := by rw [← hc]; exact h.look K ht hkey
theorem count_snoc (l : List κ) (x y : κ) : (l ++ [x]).count y = l.count y + if x = y then 1 else 0 := by
  rw [List.count_append, List.count_singleton]
  by_cases h : x = y <;> simp [h]
theorem wpList_count {ops : Array Oper} {rest : List Oper} {o : Oper} {a : Act} {Q : Exit → Act → World → Prop}
    (hg : o.guard = none) (m x v : Operand) (t : TypeId) (hop : o.op = Op.mapUpdate t m x v) (K : Keyed Tryd.prog k) (ht : Tryd.prog.underlying t = some (.map k 3)) (hm : a.eval m = .map (some B)) (h : CntM k lit w B n l) (hn : n < 1000) (hl : l.length ≤ 1000)
    (key : Value) (y : κ) (hx : a.eval x = key) (hkey : keyOf Tryd.prog k key = some (lit y)) (hinj : ∀ z, lit y = lit z → y = z) (hk : WideAt.IsKeyLit (lit y)) (c : Int) (hc : (l.count y : Int) + 1 = c) (hv : a.eval v = .int .i64 c)
    (hK : ∀ w', CntM k lit w' B (n + 1) (l ++ [y]) → w.grownBy w' (some B) → wpList Tryd.prog ops Q rest (a.put o.dst undef) w') :
    wpList Tryd.prog ops Q (o :: rest) a w := by
  obtain ⟨D, h1, h2⟩ := h
  subst hc
  have hc := List.count_le_length (a := y) (l := l)
  refine wpList_mapUpdate_own w hg m x v t hop k 3 K ht _ B n D hm h1 (by unfold maxLen; omega) key _ (lit y) hx hv hkey _ [] (plainElem_int Tryd.underlying3 (WalkArith.wf_i64 (by omega))) (fun w' hown hgrow => hK w' ⟨_, hown, fun z => ?_⟩ hgrow)
  rw [count_snoc]
  by_cases e : y = z
  · subst e
    rw [atKey_put_same (h1.tidy K).isMap hk, if_pos rfl]
    rfl
  · rw [atKey_put_other (fun q => e (hinj z q.symm)), h2, if_neg e, Nat.add_zero]
end
def litI (n : Int) : Lit := .int .i64 n
def litS (s : List UInt8) : Lit := .string s
theorem lawI : Keyed Tryd.prog 3 := int_keyed Tryd.underlying3
theorem lawS : Keyed Tryd.prog 9 := string_keyed Tryd.underlying9
theorem keyI {n : Int} (h0 : -9223372036854775808 ≤ n) (h1 : n < 9223372036854775808) : keyOf Tryd.prog 3 (.int .i64 n) = some (litI n) := keyOf_int_mk Tryd.underlying3 (WalkArith.wf_i64 (by omega))
theorem keyS {s : ByteArray} (h : s.size ≤ maxLen) : keyOf Tryd.prog 9 (.string s) = some (litS s.data.toList) := Go.WideMaps.keyOf_string_mk Tryd.underlying9 h
theorem injI (y : Int) : ∀ z, litI y = litI z → y = z := fun z h => by unfold litI at h; injection h
theorem injS (y : List UInt8) : ∀ z, litS y = litS z → y = z := fun z h => by unfold litS at h; injection h
theorem isI (y : Int) : WideAt.IsKeyLit (litI y) := by unfold litI; trivial
theorem isS (y : List UInt8) : WideAt.IsKeyLit (litS y) := by unfold litS; trivial
theorem count_zero {κ : Type} [DecidableEq κ] {l : List κ} {x : κ} (h : x ∉ l) : l.count x = 0 := List.count_eq_zero.2 h
theorem count_mem {κ : Type} [DecidableEq κ] {l : List κ} {x : κ} (h : x ∈ l) : 0 < l.count x ∧ l.count x ≤ l.length := ⟨List.count_pos_iff.2 h, List.count_le_length⟩
theorem count_none {κ : Type} [DecidableEq κ] [B : BEq κ] [LawfulBEq κ] {l : List κ} {x : κ} (h : @List.contains κ B l x = false) : ((@List.count κ instBEqOfDecidableEq x l : Nat) : Int) = 0 := by
  have hm : x ∉ l := by simpa using h
  have := count_zero hm
  omega
theorem count_some {κ : Type} [DecidableEq κ] [B : BEq κ] [LawfulBEq κ] {l : List κ} {x : κ} (h : @List.contains κ B l x = true) : ∃ c : Int, ((@List.count κ instBEqOfDecidableEq x l : Nat) : Int) = c ∧ 1 ≤ c ∧ c ≤ l.length := by
  have hm : x ∈ l := by simpa using h
  have := count_mem hm
  exact ⟨_, rfl, by omega, by omega⟩
theorem count_one {κ : Type} [DecidableEq κ] {l : List κ} {x : κ} {c : Int} (h : ((@List.count κ instBEqOfDecidableEq x l : Nat) : Int) = c) : ((@List.count κ instBEqOfDecidableEq x (l ++ [x]) : Nat) : Int) = c + 1 := by
  rw [count_snoc, if_pos rfl]
  omega
def fitsB (next : Int) (ids : List Int) (id : Int) : Bool := decide (1 ≤ id) && (decide (id < next) && !ids.contains id)
set_option maxRecDepth 100000 in
set_option maxHeartbeats 4000000 in
theorem fits_calls (id next : Int) (x0 x1 x2 x3 : Value) (BT BI M : Nat) (ids : List Int) (w : World) (hi0 : -9223372036854775808 ≤ id) (hi1 : id < 9223372036854775808)
    (hT : w.heap[BT]? = some (.cells #[x0, x1, x2, x3, .int .i64 next] 70 (0, 0))) (hI : w.heap[BI]? = some (.cells #[.map (some M)] 158 (0, 0))) (hM : CntM 3 litI w M ids.length ids) (hl : ids.length < 100) :
    Calls Tryd.prog 123 #[.int .i64 id, .pointer (some ⟨BI, 0, none⟩), .pointer (some ⟨BT, 0, none⟩)] w
      fun e w' => e = .returned (.bool (fitsB next ids id)) ∧ CntM 3 litI w' M (ids ++ [id]).length (ids ++ [id]) ∧ w.grownBy w' (some M) := by
  have hk := keyI hi0 hi1
  have hcl := List.count_le_length (a := id) (l := ids)
  have k4 : w.cell? ⟨BT, 4, none⟩ = some (.int .i64 next) := by simp [World.cell?, hT]
  have kI := cell_of_one hI
  have hneT : some BT ≠ some M := fun e => by
    injection e with e
    subst e
    obtain ⟨D, ⟨es, cl, hb, _⟩, _⟩ := hM
    rw [hT] at hb
    cases hb
  have hneI : some BI ≠ some M := fun e => by
    injection e with e
    subst e
    obtain ⟨D, ⟨es, cl, hb, _⟩, _⟩ := hM
    rw [hI] at hb
    cases hb
  have lT := lt_of_block hT
  have lI := lt_of_block hI
  have hF : fitsB next ids id = (decide (1 ≤ id) && (decide (id < next) && !ids.contains id)) := rfl
  generalize fitsB next ids id = R at hF ⊢
  have HT := Aside0.mk hT
  have HI := Aside0.mk hI
  have HM := Aside0.mk hM
  have HK := Lib.hid hk
  have HNT := Lib.hid hneT
  have HNI := Lib.hid hneI
  clear hT hI hM hk hneT hneI
  cases hc : ids.contains id with
  | false =>
    have e0 := count_none hc
    have e1 : _ = (1 : Int) := count_one e0
    rw [hc] at hF
    have hrun := HM.out.look0 lawI Tryd.underlying158 HK.out e0
    have E0 := Lib.hid e0
    have E1 := Lib.hid e1
    clear e0 e1 hc
    by_cases h1 : 1 ≤ id
    · have b1 := decide_eq_true h1
      by_cases h2 : id < next
      · have b2 := decide_eq_true h2
        rw [b1, b2] at hF
        have HF := Lib.hid hF
        clear hF
        go_enter Tryd.func123, Tryd.ntmps123
        go_wp2_with (at_mapUpdate; refine wpList_count rfl _ _ _ 158 rfl lawI Tryd.underlying158 rfl HM.out (by omega) (by omega) _ id rfl HK.out (injI id) (isI id) _ (by rw [E0.out] <;> rfl) rfl ?_; intro w1 hm1 hg1; have k4' := (hg1.cell_far ⟨BT, 4, none⟩ lT HNT.out).trans k4; have kI' := (hg1.cell_far ⟨BI, 0, none⟩ lI HNI.out).trans kI; have hrun1 := hm1.look0 lawI Tryd.underlying158 HK.out E1.out; clear hrun; have HM1 := Aside0.mk hm1; have HG1 := Aside0.mk hg1; clear hm1 hg1)
        go_ret
        exact ⟨by rw [HF.out]; rfl, by first | exact HM1.out | (rw [List.length_append]; exact HM1.out), HG1.out⟩
      · have b2 := decide_eq_false h2
        rw [b1, b2] at hF
        have HF := Lib.hid hF
        clear hF
        go_enter Tryd.func123, Tryd.ntmps123
        go_wp2_with (at_mapUpdate; refine wpList_count rfl _ _ _ 158 rfl lawI Tryd.underlying158 rfl HM.out (by omega) (by omega) _ id rfl HK.out (injI id) (isI id) _ (by rw [E0.out] <;> rfl) rfl ?_; intro w1 hm1 hg1; have k4' := (hg1.cell_far ⟨BT, 4, none⟩ lT HNT.out).trans k4; have kI' := (hg1.cell_far ⟨BI, 0, none⟩ lI HNI.out).trans kI; have hrun1 := hm1.look0 lawI Tryd.underlying158 HK.out E1.out; clear hrun; have HM1 := Aside0.mk hm1; have HG1 := Aside0.mk hg1; clear hm1 hg1)
        go_ret
        exact ⟨by rw [HF.out]; rfl, by first | exact HM1.out | (rw [List.length_append]; exact HM1.out), HG1.out⟩
    · have b1 := decide_eq_false h1
      rw [b1] at hF
      have HF := Lib.hid hF
      clear hF
      go_enter Tryd.func123, Tryd.ntmps123
      go_wp2_with (at_mapUpdate; refine wpList_count rfl _ _ _ 158 rfl lawI Tryd.underlying158 rfl HM.out (by omega) (by omega) _ id rfl HK.out (injI id) (isI id) _ (by rw [E0.out] <;> rfl) rfl ?_; intro w1 hm1 hg1; have k4' := (hg1.cell_far ⟨BT, 4, none⟩ lT HNT.out).trans k4; have kI' := (hg1.cell_far ⟨BI, 0, none⟩ lI HNI.out).trans kI; have hrun1 := hm1.look0 lawI Tryd.underlying158 HK.out E1.out; clear hrun; have HM1 := Aside0.mk hm1; have HG1 := Aside0.mk hg1; clear hm1 hg1)
      go_ret
      exact ⟨by rw [HF.out]; rfl, by first | exact HM1.out | (rw [List.length_append]; exact HM1.out), HG1.out⟩
  | true =>
    obtain ⟨c, e0, hc1, hc2'⟩ := count_some hc
    have hc2 : c ≤ 100 := by omega
    have hc3 : ¬ c + 1 = 1 := by omega
    have hc4 : (c + 1 == 1) = false := beq_eq_false_iff_ne.mpr hc3
    have e1 := count_one e0
    rw [hc] at hF
    have hrun := HM.out.look0 lawI Tryd.underlying158 HK.out e0
    have E0 := Lib.hid e0
    have E1 := Lib.hid e1
    clear e0 e1 hc hcl hc3 hc2'
    by_cases h1 : 1 ≤ id
    · have b1 := decide_eq_true h1
      by_cases h2 : id < next
      · have b2 := decide_eq_true h2
        rw [b1, b2] at hF
        have HF := Lib.hid hF
        clear hF
        go_enter Tryd.func123, Tryd.ntmps123
        go_wp2_with (at_mapUpdate; refine wpList_count rfl _ _ _ 158 rfl lawI Tryd.underlying158 rfl HM.out (by omega) (by omega) _ id rfl HK.out (injI id) (isI id) _ (by rw [E0.out] <;> rfl) rfl ?_; intro w1 hm1 hg1; have k4' := (hg1.cell_far ⟨BT, 4, none⟩ lT HNT.out).trans k4; have kI' := (hg1.cell_far ⟨BI, 0, none⟩ lI HNI.out).trans kI; have hrun1 := hm1.look0 lawI Tryd.underlying158 HK.out E1.out; clear hrun; have HM1 := Aside0.mk hm1; have HG1 := Aside0.mk hg1; clear hm1 hg1)
        go_ret
        exact ⟨by rw [HF.out]; rfl, by first | exact HM1.out | (rw [List.length_append]; exact HM1.out), HG1.out⟩
      · have b2 := decide_eq_false h2
        rw [b1, b2] at hF
        have HF := Lib.hid hF
        clear hF
        go_enter Tryd.func123, Tryd.ntmps123
        go_wp2_with (at_mapUpdate; refine wpList_count rfl _ _ _ 158 rfl lawI Tryd.underlying158 rfl HM.out (by omega) (by omega) _ id rfl HK.out (injI id) (isI id) _ (by rw [E0.out] <;> rfl) rfl ?_; intro w1 hm1 hg1; have k4' := (hg1.cell_far ⟨BT, 4, none⟩ lT HNT.out).trans k4; have kI' := (hg1.cell_far ⟨BI, 0, none⟩ lI HNI.out).trans kI; have hrun1 := hm1.look0 lawI Tryd.underlying158 HK.out E1.out; clear hrun; have HM1 := Aside0.mk hm1; have HG1 := Aside0.mk hg1; clear hm1 hg1)
        go_ret
        exact ⟨by rw [HF.out]; rfl, by first | exact HM1.out | (rw [List.length_append]; exact HM1.out), HG1.out⟩
    · have b1 := decide_eq_false h1
      rw [b1] at hF
      have HF := Lib.hid hF
      clear hF
      go_enter Tryd.func123, Tryd.ntmps123
      go_wp2_with (at_mapUpdate; refine wpList_count rfl _ _ _ 158 rfl lawI Tryd.underlying158 rfl HM.out (by omega) (by omega) _ id rfl HK.out (injI id) (isI id) _ (by rw [E0.out] <;> rfl) rfl ?_; intro w1 hm1 hg1; have k4' := (hg1.cell_far ⟨BT, 4, none⟩ lT HNT.out).trans k4; have kI' := (hg1.cell_far ⟨BI, 0, none⟩ lI HNI.out).trans kI; have hrun1 := hm1.look0 lawI Tryd.underlying158 HK.out E1.out; clear hrun; have HM1 := Aside0.mk hm1; have HG1 := Aside0.mk hg1; clear hm1 hg1)
      go_ret
      exact ⟨by rw [HF.out]; rfl, by first | exact HM1.out | (rw [List.length_append]; exact HM1.out), HG1.out⟩
end Go.Proofs.YtjgomlcdmpcoaaaDoor.H
namespace Go.Proofs.YtjgomlcdmpcoaaaDoor.H
open Go.RowKit Go.Proofs.YtjgomlcdmpcoaaaDoorW.PrintWords Go.Proofs.YtjgomlcdmpcoaaaDoorW.PrintLast Go.Proofs.YtjgomlcdmpcoaaaDoorW.PrintMore
open Go.Proofs.YtjgomlcdmpcoaaaDoor.D Go.Proofs.YtjgomlcdmpcoaaaDoor
set_option linter.unusedVariables false
set_option linter.unusedSimpArgs false
abbrev nm (s : ByteArray) : List UInt8 := s.data.toList
def tcolsB (next : Int) : List Int → List (List UInt8) → List S75 → Bool
  | _, _, [] => true
  | ids, names, c :: r => fitsB next ids c.f0 && (!names.contains (nm c.f1) && (columnB c && tcolsB next (ids ++ [c.f0]) (names ++ [nm c.f1]) r))
def tindsB (t : S70) : List Int → List (List UInt8) → List S98 → Bool
  | _, _, [] => true
  | ids, names, x :: r => fitsB t.f4 ids x.f0 && (!names.contains (nm x.f1) && (indexB t x && tindsB t (ids ++ [x.f0]) (names ++ [nm x.f1]) r))
def keyB (t : S70) : Bool := match t.f2 with
  | [] => false
  | c :: _ => c.f3 == 4 && (c.f4 == 4 && c.f5.f0 == 0)
theorem keyB_of (t : S70) (h : 0 < t.f2.length) : keyB t = (t.f2[0].f3 == 4 && (t.f2[0].f4 == 4 && t.f2[0].f5.f0 == 0)) := by
  obtain ⟨f0, f1, f2, f3, f4⟩ := t
  cases f2 with
  | nil => exact absurd h (by simp)
  | cons c r => rfl
def tableB (t : S70) : Bool := decide (1 ≤ t.f4) && (decide (t.f4 ≤ 60000) && (decide (1 ≤ t.f2.length) && (decide (t.f2.length ≤ 8) && (decide (t.f3.length ≤ 4) && (nameB t.f1 && (tcolsB t.f4 [] [] t.f2 && (tindsB t (t.f2.map (·.f0)) [] t.f3 && keyB t)))))))
def ColWf (c : S75) : Prop := -9223372036854775808 ≤ c.f0 ∧ c.f0 < 9223372036854775808 ∧ c.f1.size ≤ maxLen ∧ ValWf c.f5
def IndWf (x : S98) : Prop := -9223372036854775808 ≤ x.f0 ∧ x.f0 < 9223372036854775808 ∧ x.f1.size ≤ maxLen
def TabWf (t : S70) : Prop := t.f1.size ≤ maxLen ∧ (∀ c ∈ t.f2, ColWf c) ∧ ∀ x ∈ t.f3, IndWf x
structure TSt (w wr : World) (H : Nat) (bx : Array Value) (ids : List Int) (cols inds : List (List UInt8)) : Prop where
  lt : w.heap.size < H
  below : Below w.heap.size w wr
  box : wr.heap[w.heap.size]? = some (.cells bx 70 (0, 0))
  idv : wr.heap[H + 1 + 1 + 1]? = some (.cells #[.map (some H)] 158 (0, 0))
  m0 : CntM 3 litI wr H ids.length ids
  m1 : CntM 9 litS wr (H + 1) cols.length cols
  m2 : CntM 9 litS wr (H + 1 + 1) inds.length inds
section
variable {w wr w' : World} {H : Nat} {bx : Array Value} {ids ids' : List Int} {cols cols' inds inds' : List (List UInt8)}
theorem TSt.size (h : TSt w wr H bx ids cols inds) : H + 1 + 1 + 1 < wr.heap.size := lt_of_block h.idv
theorem TSt.step (h : TSt w wr H bx ids cols inds) (hb : Below wr.heap.size wr w') : TSt w w' H bx ids cols inds :=
  ⟨h.lt, below_then h.below h.below.size hb, blk_below h.box hb, blk_below h.idv hb, h.m0.below hb, h.m1.below hb, h.m2.below hb⟩
theorem grown_base {b : Nat} (h : TSt w wr H bx ids cols inds) (hg : wr.grownBy w' (some b)) (hb : w.heap.size ≤ b) : Below w.heap.size w w' :=
  h.below.grown hg h.below.size (fun k e => by injection e with e; omega)
theorem TSt.up0 (h : TSt w wr H bx ids cols inds) (hm : CntM 3 litI w' H ids'.length ids') (hg : wr.grownBy w' (some H)) : TSt w w' H bx ids' cols inds :=
  ⟨h.lt, grown_base h hg (Nat.le_of_lt h.lt), (hg.block _ (lt_of_block h.box) (fun e => by have := h.lt; injection e with e; omega)).trans h.box, (hg.block _ (lt_of_block h.idv) (fun e => by injection e with e; omega)).trans h.idv, hm,
    h.m1.kept hg (fun e => by injection e with e; omega), h.m2.kept hg (fun e => by injection e with e; omega)⟩
theorem TSt.up1 (h : TSt w wr H bx ids cols inds) (hm : CntM 9 litS w' (H + 1) cols'.length cols') (hg : wr.grownBy w' (some (H + 1))) : TSt w w' H bx ids cols' inds :=
  ⟨h.lt, grown_base h hg (by have := h.lt; omega), (hg.block _ (lt_of_block h.box) (fun e => by have := h.lt; injection e with e; omega)).trans h.box, (hg.block _ (lt_of_block h.idv) (fun e => by injection e with e; omega)).trans h.idv,
    h.m0.kept hg (fun e => by injection e with e; omega), hm, h.m2.kept hg (fun e => by injection e with e; omega)⟩
theorem TSt.up2 (h : TSt w wr H bx ids cols inds) (hm : CntM 9 litS w' (H + 1 + 1) inds'.length inds') (hg : wr.grownBy w' (some (H + 1 + 1))) : TSt w w' H bx ids cols inds' :=
  ⟨h.lt, grown_base h hg (by have := h.lt; omega), (hg.block _ (lt_of_block h.box) (fun e => by have := h.lt; injection e with e; omega)).trans h.box, (hg.block _ (lt_of_block h.idv) (fun e => by injection e with e; omega)).trans h.idv,
    h.m0.kept hg (fun e => by injection e with e; omega), h.m1.kept hg (fun e => by injection e with e; omega), hm⟩
theorem TSt.new {w1 : World} (hb : Below w.heap.size w w1) (hbox : w1.heap[w.heap.size]? = some (.cells bx 70 (0, 0))) :
    TSt w ((((w1.alloc (.map #[] 0)).alloc (.map #[] 0)).alloc (.map #[] 0)).alloc (.cells #[.map (some w1.heap.size)] 158)) w1.heap.size bx [] [] [] := by
  have a1 := below_alloc (Below.refl _ w1) (.map #[] 0)
  have a2 := below_alloc (Below.refl _ (w1.alloc (.map #[] 0))) (.map #[] 0)
  have a3 := below_alloc (Below.refl _ ((w1.alloc (.map #[] 0)).alloc (.map #[] 0))) (.map #[] 0)
  have a4 := below_alloc (Below.refl _ (((w1.alloc (.map #[] 0)).alloc (.map #[] 0)).alloc (.map #[] 0))) (.cells #[.map (some w1.heap.size)] 158)
  have s1 : (w1.alloc (.map #[] 0)).heap.size = w1.heap.size + 1 := by simp
  have s2 : ((w1.alloc (.map #[] 0)).alloc (.map #[] 0)).heap.size = w1.heap.size + 1 + 1 := by simp
  have s3 : (((w1.alloc (.map #[] 0)).alloc (.map #[] 0)).alloc (.map #[] 0)).heap.size = w1.heap.size + 1 + 1 + 1 := by simp
  refine ⟨lt_of_block hbox, ?_, ?_, ?_, ?_, ?_, ?_⟩
  · exact below_then (below_then (below_then (below_then hb hb.size a1) (by rw [s1]; have := hb.size; omega) a2) (by rw [s2]; have := hb.size; omega) a3) (by rw [s3]; have := hb.size; omega) a4
  · exact blk_below (blk_below (blk_below (blk_below hbox a1) a2) a3) a4
  · have := heap_alloc_new (((w1.alloc (.map #[] 0)).alloc (.map #[] 0)).alloc (.map #[] 0)) (.cells #[.map (some w1.heap.size)] 158)
    rw [s3] at this
    exact this
  · exact (((CntM.new 3 litI w1).below a2).below a3).below a4
  · have := CntM.new 9 litS (w1.alloc (.map #[] 0))
    rw [s1] at this
    exact (this.below a3).below a4
  · have := CntM.new 9 litS ((w1.alloc (.map #[] 0)).alloc (.map #[] 0))
    rw [s2] at this
    exact this.below a4
end
set_option maxRecDepth 100000 in
set_option maxHeartbeats 16000000 in
theorem table_may (t : S70) (hwf : TabWf t) (A2 : Option Addr) (c2 : Nat) (A3 : Option Addr) (c3 : Nat) (w : World) (hG : GL w)
    (hc2 : t.f2.length ≤ c2) (g2 : k75.C w A2 t.f2.length t.f2) (hc3 : t.f3.length ≤ c3) (g3 : k98.C w A3 t.f3.length t.f3) :
    Calls Tryd.prog 74 #[.agg #[.int .i64 t.f0, .string t.f1, .slice A2 t.f2.length c2, .slice A3 t.f3.length c3, .int .i64 t.f4]] w fun e w' => e = .returned (.bool (tableB t)) ∧ Below w.heap.size w w' := by
  have HN := Lib.hid nameCalls
  have HG := Aside0.mk hG
  have HC := Aside0.mk g2
  have HX := Aside0.mk g3
  have HW := Aside0.mk hwf
  have hmm := @run_makeMap Tryd.prog
  have hmf : ∀ (fn : Fn) (first cap : Array Value) (w : World), (Instr.makeFunc fn first cap).run Tryd.prog w = .ok (.func fn first cap) w := fun _ _ _ _ => rfl
  have big2 := g2.2.1
  have big3 := g3.2.1
  have hI : tableB t = (decide (1 ≤ t.f4) && (decide (t.f4 ≤ 60000) && (decide (1 ≤ t.f2.length) && (decide (t.f2.length ≤ 8) && (decide (t.f3.length ≤ 4) && (nameB t.f1 && (tcolsB t.f4 [] [] t.f2 && (tindsB t (t.f2.map (·.f0)) [] t.f3 && keyB t)))))))) := rfl
  generalize tableB t = R at hI ⊢
  obtain ⟨nb, hb⟩ : ∃ nb, nameB t.f1 = nb := ⟨_, rfl⟩
  rw [hb] at hI
  have HNB := Lib.hid hb
  clear hb hG g2 g3 hwf
  have E1 : decide (t.f4 < 1) = !decide (1 ≤ t.f4) := by by_cases h : 1 ≤ t.f4 <;> simp [h] <;> omega
  have E2 : decide (60000 < t.f4) = !decide (t.f4 ≤ 60000) := by by_cases h : t.f4 ≤ 60000 <;> simp [h] <;> omega
  have E3 : decide ((t.f2.length : Int) < 1) = !decide (1 ≤ t.f2.length) := by by_cases h : 1 ≤ t.f2.length <;> simp [h] <;> omega
  have E4 : decide (8 < (t.f2.length : Int)) = !decide (t.f2.length ≤ 8) := by by_cases h : t.f2.length ≤ 8 <;> simp [h] <;> omega
  have E5 : decide (4 < (t.f3.length : Int)) = !decide (t.f3.length ≤ 4) := by by_cases h : t.f3.length ≤ 4 <;> simp [h] <;> omega
  cases q1 : decide (1 ≤ t.f4) with
  | false =>
    rw [q1] at E1 hI
    simp only [Bool.not_false, Bool.not_true] at E1
    have HI := Lib.hid hI
    clear hI q1 E2 E3 E4 E5
    go_enter Tryd.func74, Tryd.ntmps74
    go_wp2
    go_ret
    exact ⟨by rw [HI.out]; rfl, below_alloc (Below.refl _ _) _⟩
  | true =>
    rw [q1] at E1 hI
    cases q2 : decide (t.f4 ≤ 60000) with
    | false =>
      rw [q2] at E2 hI
      simp only [Bool.not_false, Bool.not_true] at E1 E2
      have HI := Lib.hid hI
      clear hI q1 q2 E3 E4 E5
      go_enter Tryd.func74, Tryd.ntmps74
      go_wp2
      go_ret
      exact ⟨by rw [HI.out]; rfl, below_alloc (Below.refl _ _) _⟩
    | true =>
      rw [q2] at E2 hI
      cases q3 : decide (1 ≤ t.f2.length) with
      | false =>
        rw [q3] at E3 hI
        simp only [Bool.not_false, Bool.not_true] at E1 E2 E3
        have HI := Lib.hid hI
        clear hI q1 q2 q3 E4 E5
        go_enter Tryd.func74, Tryd.ntmps74
        go_wp2
        go_ret
        exact ⟨by rw [HI.out]; rfl, below_alloc (Below.refl _ _) _⟩
      | true =>
        rw [q3] at E3 hI
        cases q4 : decide (t.f2.length ≤ 8) with
        | false =>
          rw [q4] at E4 hI
          simp only [Bool.not_false, Bool.not_true] at E1 E2 E3 E4
          have HI := Lib.hid hI
          clear hI q1 q2 q3 q4 E5
          go_enter Tryd.func74, Tryd.ntmps74
          go_wp2
          go_ret
          exact ⟨by rw [HI.out]; rfl, below_alloc (Below.refl _ _) _⟩
        | true =>
          rw [q4] at E4 hI
          cases q5 : decide (t.f3.length ≤ 4) with
          | false =>
            rw [q5] at E5 hI
            simp only [Bool.not_false, Bool.not_true] at E1 E2 E3 E4 E5
            have HI := Lib.hid hI
            clear hI q1 q2 q3 q4 q5
            go_enter Tryd.func74, Tryd.ntmps74
            go_wp2
            go_ret
            exact ⟨by rw [HI.out]; rfl, below_alloc (Below.refl _ _) _⟩
          | true =>
            rw [q5] at E5 hI
            simp only [Bool.not_false, Bool.not_true] at E1 E2 E3 E4 E5
            simp only [Bool.true_and] at hI
            have z3 := of_decide_eq_true q3
            have z4 := of_decide_eq_true q4
            have z5 := of_decide_eq_true q5
            clear q1 q2 q3 q4 q5
            cases nb with
            | false =>
              have HI := Lib.hid hI
              clear hI
              go_enter Tryd.func74, Tryd.ntmps74
              go_wp2_with (go_at_call 33; refine (HN.out _ _ (HG.out.of_below (by repeat (first | exact Below.refl _ _ | apply below_alloc)))).mono ?_; rintro e w1 ⟨rfl, hb1⟩; rw [HNB.out])
              go_ret
              exact ⟨by rw [HI.out]; rfl, below_then (below_alloc (Below.refl _ _) _) (by simp) hb1⟩
            | true =>
              rw [Bool.true_and] at hI
              have HI := Lib.hid hI
              clear hI
              go_enter Tryd.func74, Tryd.ntmps74
              go_wp2_with fail
              refine (HN.out _ _ (HG.out.of_below (by repeat (first | exact Below.refl _ _ | apply below_alloc)))).mono ?_
              rintro e w1 ⟨rfl, hb1⟩
              rw [HNB.out]
              have hbx := blk_below (heap_alloc_new w (.cells #[.int .i64 t.f0, .string t.f1, .slice A2 t.f2.length c2, .slice A3 t.f3.length c3, .int .i64 t.f4] 70)) hb1
              have hbw := below_then (below_alloc (Below.refl _ w) (.cells #[.int .i64 t.f0, .string t.f1, .slice A2 t.f2.length c2, .slice A3 t.f3.length c3, .int .i64 t.f4] 70)) (by simp) hb1
              have HT := Aside0.mk (TSt.new hbw hbx)
              have kb := (Go.Proofs.YtjgomlcdmpcoaaaDoorW.PrintWords.blk_cell HT.out.box 2).trans (rfl : _ = some (Value.slice A2 t.f2.length c2))
              have hsz : w.heap.size < w1.heap.size := lt_of_block hbx
              clear hb1 hbx hbw E1 E2 E3 E4 E5
              go_wp2_with fail
              go_loopg [8, 51] t.f2.length (fun gg _ u wr => ∃ kk : Nat, kk ≤ t.f2.length ∧ t.f2.length - kk ≤ gg ∧ u = .int .i64 kk ∧ Aside0 (TSt w wr w1.heap.size #[.int .i64 t.f0, .string t.f1, .slice A2 t.f2.length c2, .slice A3 t.f3.length c3, .int .i64 t.f4] ((t.f2.take kk).map fun c => c.f0) ((t.f2.take kk).map fun c => nm c.f1) []) ∧ Aside0 (tcolsB t.f4 [] [] t.f2 = tcolsB t.f4 ((t.f2.take kk).map fun c => c.f0) ((t.f2.take kk).map fun c => nm c.f1) (t.f2.drop kk)))
              case atStart => exact ⟨0, Nat.zero_le _, by omega, rfl, ⟨by first | exact HT.out | (simpa using HT.out)⟩, ⟨by simp⟩⟩
              case round =>
                obtain ⟨kk, hkk, hgg, rfl, HT', HCI'⟩ := hrel
                clear HT kb
                by_cases hlt : kk < t.f2.length
                · have hltz : (kk : Int) < (t.f2.length : Int) := by omega
                  have hszr : w1.heap.size + 1 + 1 + 1 < wr.heap.size := HT'.out.size
                  obtain ⟨ad, eA, h0, h1, h2, h3, h4, h5, h6, h7, h8⟩ := at_T75 (Kd.C_below HC.out HT'.out.below) (kk : Int) (by omega) (by omega)
                  have hx : rd_T75 t.f2 (kk : Int) = t.f2[kk] := by unfold rd_T75; simp [List.getD, hlt]
                  rw [hx] at h0 h1 h2 h3 h4 h5 h6 h7 h8
                  simp only [Int.toNat_natCast] at h0 h1 h2 h3 h4 h5 h6 h7 h8
                  cases eA
                  have hW := HW.out.2.1 _ (List.getElem_mem hlt)
                  have hd : t.f2.drop kk = t.f2[kk] :: t.f2.drop (kk + 1) := List.drop_eq_getElem_cons hlt
                  have htk : t.f2.take (kk + 1) = t.f2.take kk ++ [t.f2[kk]] := List.take_succ_eq_append_getElem hlt
                  rw [hd] at HCI'
                  generalize t.f2[kk] = c at h0 h1 h2 h3 h4 h5 h6 h7 h8 hW hd htk HCI'
                  have HWC := Lib.hid hW
                  obtain ⟨ids, hids⟩ : ∃ ids, ((t.f2.take kk).map fun c => c.f0) = ids := ⟨_, rfl⟩
                  obtain ⟨nsC, hns⟩ : ∃ l_, ((t.f2.take kk).map fun c => nm c.f1) = l_ := ⟨_, rfl⟩
                  have hTI := Lib.hid (show ((t.f2.take (kk + 1)).map fun c => c.f0) = ids ++ [c.f0] by rw [htk, ← hids]; simp)
                  have hTN := Lib.hid (show ((t.f2.take (kk + 1)).map fun c => nm c.f1) = nsC ++ [nm c.f1] by rw [htk, ← hns]; simp)
                  rw [hids, hns] at HT' HCI'
                  have hil : ids.length < 50 := by rw [← hids]; simp; omega
                  have hnl : nsC.length < 50 := by rw [← hns]; simp; omega
                  have hst : tcolsB t.f4 ids nsC (c :: t.f2.drop (kk + 1)) = (fitsB t.f4 ids c.f0 && (!nsC.contains (nm c.f1) && (columnB c && tcolsB t.f4 (ids ++ [c.f0]) (nsC ++ [nm c.f1]) (t.f2.drop (kk + 1))))) := rfl
                  have HCI := Lib.hid (HCI'.out.trans hst)
                  have HKS := Lib.hid (keyS hW.2.2.1)
                  have HTB := Aside0.mk (HT'.out.step (below_alloc (Below.refl _ wr) (.cells #[.int .i64 c.f0, .string c.f1, .int .i64 c.f2, .int .i64 c.f3, .int .i64 c.f4, .int .i64 c.f5.f0, .int .i64 c.f5.f1, .int .u64 c.f5.f2, .string c.f5.f3] 75)))
                  clear hx hW hd htk hids hns hst HCI' HT'
                  cases hf : fitsB t.f4 ids c.f0 with
                  | false =>
                    cases hq : nsC.contains (nm c.f1) with
                    | false =>
                      have e0 := count_none hq
                      have e1 : _ = (1 : Int) := count_one e0
                      have hrun := HTB.out.m1.look0 lawS Tryd.underlying108 HKS.out e0
                      have E0 := Lib.hid e0
                      have E1 := Lib.hid e1
                      have HQ := Lib.hid hq
                      have HF := Lib.hid hf
                      clear e0 e1 hq hf
                      go_wp2_with (first | (at_mapUpdate; refine wpList_count rfl _ _ _ 108 rfl lawS Tryd.underlying108 rfl HTB.out.m1 (by omega) (by omega) _ (nm c.f1) rfl HKS.out (injS _) (isS _) _ (by rw [E0.out] <;> rfl) rfl ?_; intro w2 hm2 hg2; have T2 := Aside0.mk (HTB.out.up1 hm2.snoc hg2); have B2_ := Aside0.mk ((hg2.block _ (by simp) (fun e => by injection e with e; have := hszr; omega)).trans (heap_alloc_new wr (.cells #[.int .i64 c.f0, .string c.f1, .int .i64 c.f2, .int .i64 c.f3, .int .i64 c.f4, .int .i64 c.f5.f0, .int .i64 c.f5.f1, .int .u64 c.f5.f2, .string c.f5.f3] 75))); have k0_ := (Go.Proofs.YtjgomlcdmpcoaaaDoorW.PrintWords.blk_cell B2_.out 0).trans (rfl : _ = some (Value.int .i64 c.f0)); clear hrun hm2 hg2) | (go_at_call 123; refine (fits_calls c.f0 t.f4 _ _ _ _ w.heap.size (w1.heap.size + 1 + 1 + 1) w1.heap.size ids w2 HWC.out.1 HWC.out.2.1 T2.out.box T2.out.idv T2.out.m0 (by omega)).mono ?_; rintro e w3 ⟨rfl, hm3, hg3⟩; rw [HF.out]; have T3 := Aside0.mk (T2.out.up0 hm3 hg3); have B3_ := Aside0.mk ((hg3.block _ (lt_of_block B2_.out) (fun e => by injection e with e; have := hszr; omega)).trans B2_.out); clear k0_; skip; clear hm3 hg3))
                      go_ret
                      exact ⟨by rw [HI.out, HCI.out, HF.out]; rfl, T3.out.below⟩
                    | true =>
                      obtain ⟨cq, e0, cq1, cq2'⟩ := count_some hq
                      have cq2 : cq ≤ 100 := by omega
                      have cq3 : 1 < cq + 1 := by omega
                      have e1 := count_one e0
                      clear cq2'
                      have hrun := HTB.out.m1.look0 lawS Tryd.underlying108 HKS.out e0
                      have E0 := Lib.hid e0
                      have E1 := Lib.hid e1
                      have HQ := Lib.hid hq
                      have HF := Lib.hid hf
                      clear e0 e1 hq hf
                      go_wp2_with (first | (at_mapUpdate; refine wpList_count rfl _ _ _ 108 rfl lawS Tryd.underlying108 rfl HTB.out.m1 (by omega) (by omega) _ (nm c.f1) rfl HKS.out (injS _) (isS _) _ (by rw [E0.out] <;> rfl) rfl ?_; intro w2 hm2 hg2; have T2 := Aside0.mk (HTB.out.up1 hm2.snoc hg2); have B2_ := Aside0.mk ((hg2.block _ (by simp) (fun e => by injection e with e; have := hszr; omega)).trans (heap_alloc_new wr (.cells #[.int .i64 c.f0, .string c.f1, .int .i64 c.f2, .int .i64 c.f3, .int .i64 c.f4, .int .i64 c.f5.f0, .int .i64 c.f5.f1, .int .u64 c.f5.f2, .string c.f5.f3] 75))); have k0_ := (Go.Proofs.YtjgomlcdmpcoaaaDoorW.PrintWords.blk_cell B2_.out 0).trans (rfl : _ = some (Value.int .i64 c.f0)); clear hrun hm2 hg2) | (go_at_call 123; refine (fits_calls c.f0 t.f4 _ _ _ _ w.heap.size (w1.heap.size + 1 + 1 + 1) w1.heap.size ids w2 HWC.out.1 HWC.out.2.1 T2.out.box T2.out.idv T2.out.m0 (by omega)).mono ?_; rintro e w3 ⟨rfl, hm3, hg3⟩; rw [HF.out]; have T3 := Aside0.mk (T2.out.up0 hm3 hg3); have B3_ := Aside0.mk ((hg3.block _ (lt_of_block B2_.out) (fun e => by injection e with e; have := hszr; omega)).trans B2_.out); clear k0_; skip; clear hm3 hg3))
                      go_ret
                      exact ⟨by rw [HI.out, HCI.out, HF.out]; rfl, T3.out.below⟩
                  | true =>
                    cases hq : nsC.contains (nm c.f1) with
                    | true =>
                      obtain ⟨cq, e0, cq1, cq2'⟩ := count_some hq
                      have cq2 : cq ≤ 100 := by omega
                      have cq3 : 1 < cq + 1 := by omega
                      have e1 := count_one e0
                      clear cq2'
                      have hrun := HTB.out.m1.look0 lawS Tryd.underlying108 HKS.out e0
                      have E0 := Lib.hid e0
                      have E1 := Lib.hid e1
                      have HQ := Lib.hid hq
                      have HF := Lib.hid hf
                      clear e0 e1 hq hf
                      go_wp2_with (first | (at_mapUpdate; refine wpList_count rfl _ _ _ 108 rfl lawS Tryd.underlying108 rfl HTB.out.m1 (by omega) (by omega) _ (nm c.f1) rfl HKS.out (injS _) (isS _) _ (by rw [E0.out] <;> rfl) rfl ?_; intro w2 hm2 hg2; have T2 := Aside0.mk (HTB.out.up1 hm2.snoc hg2); have B2_ := Aside0.mk ((hg2.block _ (by simp) (fun e => by injection e with e; have := hszr; omega)).trans (heap_alloc_new wr (.cells #[.int .i64 c.f0, .string c.f1, .int .i64 c.f2, .int .i64 c.f3, .int .i64 c.f4, .int .i64 c.f5.f0, .int .i64 c.f5.f1, .int .u64 c.f5.f2, .string c.f5.f3] 75))); have k0_ := (Go.Proofs.YtjgomlcdmpcoaaaDoorW.PrintWords.blk_cell B2_.out 0).trans (rfl : _ = some (Value.int .i64 c.f0)); clear hrun hm2 hg2) | (go_at_call 123; refine (fits_calls c.f0 t.f4 _ _ _ _ w.heap.size (w1.heap.size + 1 + 1 + 1) w1.heap.size ids w2 HWC.out.1 HWC.out.2.1 T2.out.box T2.out.idv T2.out.m0 (by omega)).mono ?_; rintro e w3 ⟨rfl, hm3, hg3⟩; rw [HF.out]; have T3 := Aside0.mk (T2.out.up0 hm3 hg3); have B3_ := Aside0.mk ((hg3.block _ (lt_of_block B2_.out) (fun e => by injection e with e; have := hszr; omega)).trans B2_.out); clear k0_; have k0_ := (Go.Proofs.YtjgomlcdmpcoaaaDoorW.PrintWords.blk_cell B3_.out 0).trans (rfl : _ = some (Value.int .i64 c.f0)); have k1_ := (Go.Proofs.YtjgomlcdmpcoaaaDoorW.PrintWords.blk_cell B3_.out 1).trans (rfl : _ = some (Value.string c.f1)); have k2_ := (Go.Proofs.YtjgomlcdmpcoaaaDoorW.PrintWords.blk_cell B3_.out 2).trans (rfl : _ = some (Value.int .i64 c.f2)); have k3_ := (Go.Proofs.YtjgomlcdmpcoaaaDoorW.PrintWords.blk_cell B3_.out 3).trans (rfl : _ = some (Value.int .i64 c.f3)); have k4_ := (Go.Proofs.YtjgomlcdmpcoaaaDoorW.PrintWords.blk_cell B3_.out 4).trans (rfl : _ = some (Value.int .i64 c.f4)); have k5_ := (Go.Proofs.YtjgomlcdmpcoaaaDoorW.PrintWords.blk_cell B3_.out 5).trans (rfl : _ = some (Value.int .i64 c.f5.f0)); have k6_ := (Go.Proofs.YtjgomlcdmpcoaaaDoorW.PrintWords.blk_cell B3_.out 6).trans (rfl : _ = some (Value.int .i64 c.f5.f1)); have k7_ := (Go.Proofs.YtjgomlcdmpcoaaaDoorW.PrintWords.blk_cell B3_.out 7).trans (rfl : _ = some (Value.int .u64 c.f5.f2)); have k8_ := (Go.Proofs.YtjgomlcdmpcoaaaDoorW.PrintWords.blk_cell B3_.out 8).trans (rfl : _ = some (Value.string c.f5.f3)); have hrun3 := T3.out.m1.look0 lawS Tryd.underlying108 HKS.out E1.out; clear hm3 hg3))
                      go_ret
                      exact ⟨by rw [HI.out, HCI.out, HF.out, HQ.out]; rfl, T3.out.below⟩
                    | false =>
                      cases hb : columnB c with
                      | false =>
                        have e0 := count_none hq
                        have e1 : _ = (1 : Int) := count_one e0
                        have hrun := HTB.out.m1.look0 lawS Tryd.underlying108 HKS.out e0
                        have E0 := Lib.hid e0
                        have E1 := Lib.hid e1
                        have HQ := Lib.hid hq
                        have HF := Lib.hid hf
                        have HB := Lib.hid hb
                        clear e0 e1 hq hf hb
                        go_wp2_with (first | (at_mapUpdate; refine wpList_count rfl _ _ _ 108 rfl lawS Tryd.underlying108 rfl HTB.out.m1 (by omega) (by omega) _ (nm c.f1) rfl HKS.out (injS _) (isS _) _ (by rw [E0.out] <;> rfl) rfl ?_; intro w2 hm2 hg2; have T2 := Aside0.mk (HTB.out.up1 hm2.snoc hg2); have B2_ := Aside0.mk ((hg2.block _ (by simp) (fun e => by injection e with e; have := hszr; omega)).trans (heap_alloc_new wr (.cells #[.int .i64 c.f0, .string c.f1, .int .i64 c.f2, .int .i64 c.f3, .int .i64 c.f4, .int .i64 c.f5.f0, .int .i64 c.f5.f1, .int .u64 c.f5.f2, .string c.f5.f3] 75))); have k0_ := (Go.Proofs.YtjgomlcdmpcoaaaDoorW.PrintWords.blk_cell B2_.out 0).trans (rfl : _ = some (Value.int .i64 c.f0)); clear hrun hm2 hg2) | (go_at_call 123; refine (fits_calls c.f0 t.f4 _ _ _ _ w.heap.size (w1.heap.size + 1 + 1 + 1) w1.heap.size ids w2 HWC.out.1 HWC.out.2.1 T2.out.box T2.out.idv T2.out.m0 (by omega)).mono ?_; rintro e w3 ⟨rfl, hm3, hg3⟩; rw [HF.out]; have T3 := Aside0.mk (T2.out.up0 hm3 hg3); have B3_ := Aside0.mk ((hg3.block _ (lt_of_block B2_.out) (fun e => by injection e with e; have := hszr; omega)).trans B2_.out); clear k0_; have k0_ := (Go.Proofs.YtjgomlcdmpcoaaaDoorW.PrintWords.blk_cell B3_.out 0).trans (rfl : _ = some (Value.int .i64 c.f0)); have k1_ := (Go.Proofs.YtjgomlcdmpcoaaaDoorW.PrintWords.blk_cell B3_.out 1).trans (rfl : _ = some (Value.string c.f1)); have k2_ := (Go.Proofs.YtjgomlcdmpcoaaaDoorW.PrintWords.blk_cell B3_.out 2).trans (rfl : _ = some (Value.int .i64 c.f2)); have k3_ := (Go.Proofs.YtjgomlcdmpcoaaaDoorW.PrintWords.blk_cell B3_.out 3).trans (rfl : _ = some (Value.int .i64 c.f3)); have k4_ := (Go.Proofs.YtjgomlcdmpcoaaaDoorW.PrintWords.blk_cell B3_.out 4).trans (rfl : _ = some (Value.int .i64 c.f4)); have k5_ := (Go.Proofs.YtjgomlcdmpcoaaaDoorW.PrintWords.blk_cell B3_.out 5).trans (rfl : _ = some (Value.int .i64 c.f5.f0)); have k6_ := (Go.Proofs.YtjgomlcdmpcoaaaDoorW.PrintWords.blk_cell B3_.out 6).trans (rfl : _ = some (Value.int .i64 c.f5.f1)); have k7_ := (Go.Proofs.YtjgomlcdmpcoaaaDoorW.PrintWords.blk_cell B3_.out 7).trans (rfl : _ = some (Value.int .u64 c.f5.f2)); have k8_ := (Go.Proofs.YtjgomlcdmpcoaaaDoorW.PrintWords.blk_cell B3_.out 8).trans (rfl : _ = some (Value.string c.f5.f3)); have hrun3 := T3.out.m1.look0 lawS Tryd.underlying108 HKS.out E1.out; clear hm3 hg3) | (go_at_call 124; refine (column_calls' c HWC.out.2.2.2 w3 (HG.out.of_below T3.out.below)).mono ?_; rintro e w4 ⟨rfl, hb4⟩; rw [HB.out]; have T4 := Aside0.mk (T3.out.step hb4); clear hb4))
                        go_ret
                        exact ⟨by rw [HI.out, HCI.out, HF.out, HQ.out, HB.out]; rfl, T4.out.below⟩
                      | true =>
                        have e0 := count_none hq
                        have e1 : _ = (1 : Int) := count_one e0
                        have hrun := HTB.out.m1.look0 lawS Tryd.underlying108 HKS.out e0
                        have E0 := Lib.hid e0
                        have E1 := Lib.hid e1
                        have HQ := Lib.hid hq
                        have HF := Lib.hid hf
                        have HB := Lib.hid hb
                        clear e0 e1 hq hf hb
                        go_wp2_with (first | (at_mapUpdate; refine wpList_count rfl _ _ _ 108 rfl lawS Tryd.underlying108 rfl HTB.out.m1 (by omega) (by omega) _ (nm c.f1) rfl HKS.out (injS _) (isS _) _ (by rw [E0.out] <;> rfl) rfl ?_; intro w2 hm2 hg2; have T2 := Aside0.mk (HTB.out.up1 hm2.snoc hg2); have B2_ := Aside0.mk ((hg2.block _ (by simp) (fun e => by injection e with e; have := hszr; omega)).trans (heap_alloc_new wr (.cells #[.int .i64 c.f0, .string c.f1, .int .i64 c.f2, .int .i64 c.f3, .int .i64 c.f4, .int .i64 c.f5.f0, .int .i64 c.f5.f1, .int .u64 c.f5.f2, .string c.f5.f3] 75))); have k0_ := (Go.Proofs.YtjgomlcdmpcoaaaDoorW.PrintWords.blk_cell B2_.out 0).trans (rfl : _ = some (Value.int .i64 c.f0)); clear hrun hm2 hg2) | (go_at_call 123; refine (fits_calls c.f0 t.f4 _ _ _ _ w.heap.size (w1.heap.size + 1 + 1 + 1) w1.heap.size ids w2 HWC.out.1 HWC.out.2.1 T2.out.box T2.out.idv T2.out.m0 (by omega)).mono ?_; rintro e w3 ⟨rfl, hm3, hg3⟩; rw [HF.out]; have T3 := Aside0.mk (T2.out.up0 hm3 hg3); have B3_ := Aside0.mk ((hg3.block _ (lt_of_block B2_.out) (fun e => by injection e with e; have := hszr; omega)).trans B2_.out); clear k0_; have k0_ := (Go.Proofs.YtjgomlcdmpcoaaaDoorW.PrintWords.blk_cell B3_.out 0).trans (rfl : _ = some (Value.int .i64 c.f0)); have k1_ := (Go.Proofs.YtjgomlcdmpcoaaaDoorW.PrintWords.blk_cell B3_.out 1).trans (rfl : _ = some (Value.string c.f1)); have k2_ := (Go.Proofs.YtjgomlcdmpcoaaaDoorW.PrintWords.blk_cell B3_.out 2).trans (rfl : _ = some (Value.int .i64 c.f2)); have k3_ := (Go.Proofs.YtjgomlcdmpcoaaaDoorW.PrintWords.blk_cell B3_.out 3).trans (rfl : _ = some (Value.int .i64 c.f3)); have k4_ := (Go.Proofs.YtjgomlcdmpcoaaaDoorW.PrintWords.blk_cell B3_.out 4).trans (rfl : _ = some (Value.int .i64 c.f4)); have k5_ := (Go.Proofs.YtjgomlcdmpcoaaaDoorW.PrintWords.blk_cell B3_.out 5).trans (rfl : _ = some (Value.int .i64 c.f5.f0)); have k6_ := (Go.Proofs.YtjgomlcdmpcoaaaDoorW.PrintWords.blk_cell B3_.out 6).trans (rfl : _ = some (Value.int .i64 c.f5.f1)); have k7_ := (Go.Proofs.YtjgomlcdmpcoaaaDoorW.PrintWords.blk_cell B3_.out 7).trans (rfl : _ = some (Value.int .u64 c.f5.f2)); have k8_ := (Go.Proofs.YtjgomlcdmpcoaaaDoorW.PrintWords.blk_cell B3_.out 8).trans (rfl : _ = some (Value.string c.f5.f3)); have hrun3 := T3.out.m1.look0 lawS Tryd.underlying108 HKS.out E1.out; clear hm3 hg3) | (go_at_call 124; refine (column_calls' c HWC.out.2.2.2 w3 (HG.out.of_below T3.out.below)).mono ?_; rintro e w4 ⟨rfl, hb4⟩; rw [HB.out]; have T4 := Aside0.mk (T3.out.step hb4); clear hb4))
                        go_roundg (t.f2.length - (kk + 1))
                        case measure => omega
                        case rel =>
                          refine ⟨kk + 1, by omega, by omega, by go_num, ⟨?_, ?_⟩⟩
                          · rw [hTI.out, hTN.out]; exact T4
                          · refine ⟨?_⟩
                            rw [HCI.out, HF.out, HQ.out, HB.out, hTI.out, hTN.out]; rfl
                · have hltz : ¬ (kk : Int) < (t.f2.length : Int) := by omega
                  have hkd : t.f2.drop kk = [] := List.drop_eq_nil_of_le (by omega)
                  have hkt : t.f2.take kk = t.f2 := List.take_of_length_le (by omega)
                  rw [hkd, hkt] at HCI'
                  rw [hkt] at HT'
                  have HT := HT'
                  clear HT' hkd hkt
                  have HC1 := Lib.hid (show tcolsB t.f4 [] [] t.f2 = true from HCI'.out)
                  clear HCI'
                  have kb2 := (Go.Proofs.YtjgomlcdmpcoaaaDoorW.PrintWords.blk_cell HT.out.box 3).trans (rfl : _ = some (Value.slice A3 t.f3.length c3))
                  obtain ⟨wo, hwo⟩ : ∃ wo : World, wo = wr := ⟨_, rfl⟩
                  subst hwo
                  go_wp2_with fail
                  go_loopg [10, 81] t.f3.length (fun gg _ u wr => ∃ kk : Nat, kk ≤ t.f3.length ∧ t.f3.length - kk ≤ gg ∧ u = .int .i64 kk ∧ Aside0 (TSt w wr w1.heap.size #[.int .i64 t.f0, .string t.f1, .slice A2 t.f2.length c2, .slice A3 t.f3.length c3, .int .i64 t.f4] (t.f2.map (fun c => c.f0) ++ (t.f3.take kk).map fun c => c.f0) (t.f2.map fun c => nm c.f1) ((t.f3.take kk).map fun c => nm c.f1)) ∧ Aside0 (tindsB t (t.f2.map (·.f0)) [] t.f3 = tindsB t (t.f2.map (fun c => c.f0) ++ (t.f3.take kk).map fun c => c.f0) ((t.f3.take kk).map fun c => nm c.f1) (t.f3.drop kk)))
                  case atStart => exact ⟨0, Nat.zero_le _, by omega, rfl, ⟨by first | exact HT.out | (simpa using HT.out)⟩, ⟨by simp⟩⟩
                  case round =>
                    obtain ⟨kk, hkk, hgg, rfl, HT', HCI'⟩ := hrel
                    clear HT kb2
                    by_cases hlt : kk < t.f3.length
                    · have hltz : (kk : Int) < (t.f3.length : Int) := by omega
                      have hszr : w1.heap.size + 1 + 1 + 1 < wr.heap.size := HT'.out.size
                      have hBW := HT'.out.below
                      obtain ⟨ad, B2, d2, eA, h0, h1, h2, h3, h4, hd2, hcols⟩ := at_T98 HX.out (kk : Int) (by omega) (by omega)
                      have hx : rd_T98 t.f3 (kk : Int) = t.f3[kk] := by unfold rd_T98; simp [List.getD, hlt]
                      rw [hx] at h0 h1 h2 h3 h4 hd2 hcols
                      simp only [Int.toNat_natCast] at h0 h1 h2 h3 h4
                      replace h0 := pw_cell_below hBW h0
                      replace h1 := pw_cell_below hBW h1
                      replace h2 := pw_cell_below hBW h2
                      replace h3 := pw_cell_below hBW h3
                      replace h4 := pw_cell_below hBW h4
                      cases eA
                      clear hBW
                      have hW := HW.out.2.2 _ (List.getElem_mem hlt)
                      have hd : t.f3.drop kk = t.f3[kk] :: t.f3.drop (kk + 1) := List.drop_eq_getElem_cons hlt
                      have htk : t.f3.take (kk + 1) = t.f3.take kk ++ [t.f3[kk]] := List.take_succ_eq_append_getElem hlt
                      rw [hd] at HCI'
                      generalize t.f3[kk] = c at h0 h1 h2 h3 h4 hd2 hcols hW hd htk HCI'
                      have HWC := Lib.hid hW
                      obtain ⟨ids, hids⟩ : ∃ ids, (t.f2.map (fun c => c.f0) ++ (t.f3.take kk).map fun c => c.f0) = ids := ⟨_, rfl⟩
                      obtain ⟨nsI, hns⟩ : ∃ l_, ((t.f3.take kk).map fun c => nm c.f1) = l_ := ⟨_, rfl⟩
                      have hTI := Lib.hid (show (t.f2.map (fun c => c.f0) ++ (t.f3.take (kk + 1)).map fun c => c.f0) = ids ++ [c.f0] by rw [htk, ← hids]; simp)
                      have hTN := Lib.hid (show ((t.f3.take (kk + 1)).map fun c => nm c.f1) = nsI ++ [nm c.f1] by rw [htk, ← hns]; simp)
                      rw [hids, hns] at HT' HCI'
                      have hil : ids.length < 50 := by rw [← hids]; simp; omega
                      have hnl : nsI.length < 50 := by rw [← hns]; simp; omega
                      have hst : tindsB t ids nsI (c :: t.f3.drop (kk + 1)) = (fitsB t.f4 ids c.f0 && (!nsI.contains (nm c.f1) && (indexB t c && tindsB t (ids ++ [c.f0]) (nsI ++ [nm c.f1]) (t.f3.drop (kk + 1))))) := rfl
                      have HCI := Lib.hid (HCI'.out.trans hst)
                      have HKS := Lib.hid (keyS hW.2.2)
                      have HTB := Aside0.mk (HT'.out.step (below_alloc (Below.refl _ wr) (.cells #[.int .i64 c.f0, .string c.f1, .slice B2 c.f2.length d2, .bool c.f3, .int .i64 c.f4] 98)))
                      have HI2 := Aside0.mk hcols
                      clear hcols
                      clear hx hW hd htk hids hns hst HCI' HT'
                      cases hf : fitsB t.f4 ids c.f0 with
                      | false =>
                        cases hq : nsI.contains (nm c.f1) with
                        | false =>
                          have e0 := count_none hq
                          have e1 : _ = (1 : Int) := count_one e0
                          have hrun := HTB.out.m2.look0 lawS Tryd.underlying108 HKS.out e0
                          have E0 := Lib.hid e0
                          have E1 := Lib.hid e1
                          have HQ := Lib.hid hq
                          have HF := Lib.hid hf
                          clear e0 e1 hq hf
                          go_wp2_with (first | (at_mapUpdate; refine wpList_count rfl _ _ _ 108 rfl lawS Tryd.underlying108 rfl HTB.out.m2 (by omega) (by omega) _ (nm c.f1) rfl HKS.out (injS _) (isS _) _ (by rw [E0.out] <;> rfl) rfl ?_; intro w2 hm2 hg2; have T2 := Aside0.mk (HTB.out.up2 hm2.snoc hg2); have B2_ := Aside0.mk ((hg2.block _ (by simp) (fun e => by injection e with e; have := hszr; omega)).trans (heap_alloc_new wr (.cells #[.int .i64 c.f0, .string c.f1, .slice B2 c.f2.length d2, .bool c.f3, .int .i64 c.f4] 98))); have k0_ := (Go.Proofs.YtjgomlcdmpcoaaaDoorW.PrintWords.blk_cell B2_.out 0).trans (rfl : _ = some (Value.int .i64 c.f0)); clear hrun hm2 hg2) | (go_at_call 123; refine (fits_calls c.f0 t.f4 _ _ _ _ w.heap.size (w1.heap.size + 1 + 1 + 1) w1.heap.size ids w2 HWC.out.1 HWC.out.2.1 T2.out.box T2.out.idv T2.out.m0 (by omega)).mono ?_; rintro e w3 ⟨rfl, hm3, hg3⟩; rw [HF.out]; have T3 := Aside0.mk (T2.out.up0 hm3 hg3); have B3_ := Aside0.mk ((hg3.block _ (lt_of_block B2_.out) (fun e => by injection e with e; have := hszr; omega)).trans B2_.out); clear k0_; skip; clear hm3 hg3))
                          go_ret
                          exact ⟨by rw [HI.out, HC1.out, Bool.true_and, HCI.out, HF.out]; rfl, T3.out.below⟩
                        | true =>
                          obtain ⟨cq, e0, cq1, cq2'⟩ := count_some hq
                          have cq2 : cq ≤ 100 := by omega
                          have cq3 : 1 < cq + 1 := by omega
                          have e1 := count_one e0
                          clear cq2'
                          have hrun := HTB.out.m2.look0 lawS Tryd.underlying108 HKS.out e0
                          have E0 := Lib.hid e0
                          have E1 := Lib.hid e1
                          have HQ := Lib.hid hq
                          have HF := Lib.hid hf
                          clear e0 e1 hq hf
                          go_wp2_with (first | (at_mapUpdate; refine wpList_count rfl _ _ _ 108 rfl lawS Tryd.underlying108 rfl HTB.out.m2 (by omega) (by omega) _ (nm c.f1) rfl HKS.out (injS _) (isS _) _ (by rw [E0.out] <;> rfl) rfl ?_; intro w2 hm2 hg2; have T2 := Aside0.mk (HTB.out.up2 hm2.snoc hg2); have B2_ := Aside0.mk ((hg2.block _ (by simp) (fun e => by injection e with e; have := hszr; omega)).trans (heap_alloc_new wr (.cells #[.int .i64 c.f0, .string c.f1, .slice B2 c.f2.length d2, .bool c.f3, .int .i64 c.f4] 98))); have k0_ := (Go.Proofs.YtjgomlcdmpcoaaaDoorW.PrintWords.blk_cell B2_.out 0).trans (rfl : _ = some (Value.int .i64 c.f0)); clear hrun hm2 hg2) | (go_at_call 123; refine (fits_calls c.f0 t.f4 _ _ _ _ w.heap.size (w1.heap.size + 1 + 1 + 1) w1.heap.size ids w2 HWC.out.1 HWC.out.2.1 T2.out.box T2.out.idv T2.out.m0 (by omega)).mono ?_; rintro e w3 ⟨rfl, hm3, hg3⟩; rw [HF.out]; have T3 := Aside0.mk (T2.out.up0 hm3 hg3); have B3_ := Aside0.mk ((hg3.block _ (lt_of_block B2_.out) (fun e => by injection e with e; have := hszr; omega)).trans B2_.out); clear k0_; skip; clear hm3 hg3))
                          go_ret
                          exact ⟨by rw [HI.out, HC1.out, Bool.true_and, HCI.out, HF.out]; rfl, T3.out.below⟩
                      | true =>
                        cases hq : nsI.contains (nm c.f1) with
                        | true =>
                          obtain ⟨cq, e0, cq1, cq2'⟩ := count_some hq
                          have cq2 : cq ≤ 100 := by omega
                          have cq3 : 1 < cq + 1 := by omega
                          have e1 := count_one e0
                          clear cq2'
                          have hrun := HTB.out.m2.look0 lawS Tryd.underlying108 HKS.out e0
                          have E0 := Lib.hid e0
                          have E1 := Lib.hid e1
                          have HQ := Lib.hid hq
                          have HF := Lib.hid hf
                          clear e0 e1 hq hf
                          go_wp2_with (first | (at_mapUpdate; refine wpList_count rfl _ _ _ 108 rfl lawS Tryd.underlying108 rfl HTB.out.m2 (by omega) (by omega) _ (nm c.f1) rfl HKS.out (injS _) (isS _) _ (by rw [E0.out] <;> rfl) rfl ?_; intro w2 hm2 hg2; have T2 := Aside0.mk (HTB.out.up2 hm2.snoc hg2); have B2_ := Aside0.mk ((hg2.block _ (by simp) (fun e => by injection e with e; have := hszr; omega)).trans (heap_alloc_new wr (.cells #[.int .i64 c.f0, .string c.f1, .slice B2 c.f2.length d2, .bool c.f3, .int .i64 c.f4] 98))); have k0_ := (Go.Proofs.YtjgomlcdmpcoaaaDoorW.PrintWords.blk_cell B2_.out 0).trans (rfl : _ = some (Value.int .i64 c.f0)); clear hrun hm2 hg2) | (go_at_call 123; refine (fits_calls c.f0 t.f4 _ _ _ _ w.heap.size (w1.heap.size + 1 + 1 + 1) w1.heap.size ids w2 HWC.out.1 HWC.out.2.1 T2.out.box T2.out.idv T2.out.m0 (by omega)).mono ?_; rintro e w3 ⟨rfl, hm3, hg3⟩; rw [HF.out]; have T3 := Aside0.mk (T2.out.up0 hm3 hg3); have B3_ := Aside0.mk ((hg3.block _ (lt_of_block B2_.out) (fun e => by injection e with e; have := hszr; omega)).trans B2_.out); clear k0_; have k0_ := (Go.Proofs.YtjgomlcdmpcoaaaDoorW.PrintWords.blk_cell B3_.out 0).trans (rfl : _ = some (Value.int .i64 c.f0)); have k1_ := (Go.Proofs.YtjgomlcdmpcoaaaDoorW.PrintWords.blk_cell B3_.out 1).trans (rfl : _ = some (Value.string c.f1)); have k2_ := (Go.Proofs.YtjgomlcdmpcoaaaDoorW.PrintWords.blk_cell B3_.out 2).trans (rfl : _ = some (Value.slice B2 c.f2.length d2)); have k3_ := (Go.Proofs.YtjgomlcdmpcoaaaDoorW.PrintWords.blk_cell B3_.out 3).trans (rfl : _ = some (Value.bool c.f3)); have k4_ := (Go.Proofs.YtjgomlcdmpcoaaaDoorW.PrintWords.blk_cell B3_.out 4).trans (rfl : _ = some (Value.int .i64 c.f4)); have hrun3 := T3.out.m2.look0 lawS Tryd.underlying108 HKS.out E1.out; have j0_ := (Go.Proofs.YtjgomlcdmpcoaaaDoorW.PrintWords.blk_cell T3.out.box 0).trans (rfl : _ = some (Value.int .i64 t.f0)); have j1_ := (Go.Proofs.YtjgomlcdmpcoaaaDoorW.PrintWords.blk_cell T3.out.box 1).trans (rfl : _ = some (Value.string t.f1)); have j2_ := (Go.Proofs.YtjgomlcdmpcoaaaDoorW.PrintWords.blk_cell T3.out.box 2).trans (rfl : _ = some (Value.slice A2 t.f2.length c2)); have j3_ := (Go.Proofs.YtjgomlcdmpcoaaaDoorW.PrintWords.blk_cell T3.out.box 3).trans (rfl : _ = some (Value.slice (some ad) t.f3.length c3)); have j4_ := (Go.Proofs.YtjgomlcdmpcoaaaDoorW.PrintWords.blk_cell T3.out.box 4).trans (rfl : _ = some (Value.int .i64 t.f4)); clear hm3 hg3))
                          go_ret
                          exact ⟨by rw [HI.out, HC1.out, Bool.true_and, HCI.out, HF.out, HQ.out]; rfl, T3.out.below⟩
                        | false =>
                          cases hb : indexB t c with
                          | false =>
                            have e0 := count_none hq
                            have e1 : _ = (1 : Int) := count_one e0
                            have hrun := HTB.out.m2.look0 lawS Tryd.underlying108 HKS.out e0
                            have E0 := Lib.hid e0
                            have E1 := Lib.hid e1
                            have HQ := Lib.hid hq
                            have HF := Lib.hid hf
                            have HB := Lib.hid hb
                            clear e0 e1 hq hf hb
                            go_wp2_with (first | (at_mapUpdate; refine wpList_count rfl _ _ _ 108 rfl lawS Tryd.underlying108 rfl HTB.out.m2 (by omega) (by omega) _ (nm c.f1) rfl HKS.out (injS _) (isS _) _ (by rw [E0.out] <;> rfl) rfl ?_; intro w2 hm2 hg2; have T2 := Aside0.mk (HTB.out.up2 hm2.snoc hg2); have B2_ := Aside0.mk ((hg2.block _ (by simp) (fun e => by injection e with e; have := hszr; omega)).trans (heap_alloc_new wr (.cells #[.int .i64 c.f0, .string c.f1, .slice B2 c.f2.length d2, .bool c.f3, .int .i64 c.f4] 98))); have k0_ := (Go.Proofs.YtjgomlcdmpcoaaaDoorW.PrintWords.blk_cell B2_.out 0).trans (rfl : _ = some (Value.int .i64 c.f0)); clear hrun hm2 hg2) | (go_at_call 123; refine (fits_calls c.f0 t.f4 _ _ _ _ w.heap.size (w1.heap.size + 1 + 1 + 1) w1.heap.size ids w2 HWC.out.1 HWC.out.2.1 T2.out.box T2.out.idv T2.out.m0 (by omega)).mono ?_; rintro e w3 ⟨rfl, hm3, hg3⟩; rw [HF.out]; have T3 := Aside0.mk (T2.out.up0 hm3 hg3); have B3_ := Aside0.mk ((hg3.block _ (lt_of_block B2_.out) (fun e => by injection e with e; have := hszr; omega)).trans B2_.out); clear k0_; have k0_ := (Go.Proofs.YtjgomlcdmpcoaaaDoorW.PrintWords.blk_cell B3_.out 0).trans (rfl : _ = some (Value.int .i64 c.f0)); have k1_ := (Go.Proofs.YtjgomlcdmpcoaaaDoorW.PrintWords.blk_cell B3_.out 1).trans (rfl : _ = some (Value.string c.f1)); have k2_ := (Go.Proofs.YtjgomlcdmpcoaaaDoorW.PrintWords.blk_cell B3_.out 2).trans (rfl : _ = some (Value.slice B2 c.f2.length d2)); have k3_ := (Go.Proofs.YtjgomlcdmpcoaaaDoorW.PrintWords.blk_cell B3_.out 3).trans (rfl : _ = some (Value.bool c.f3)); have k4_ := (Go.Proofs.YtjgomlcdmpcoaaaDoorW.PrintWords.blk_cell B3_.out 4).trans (rfl : _ = some (Value.int .i64 c.f4)); have hrun3 := T3.out.m2.look0 lawS Tryd.underlying108 HKS.out E1.out; have j0_ := (Go.Proofs.YtjgomlcdmpcoaaaDoorW.PrintWords.blk_cell T3.out.box 0).trans (rfl : _ = some (Value.int .i64 t.f0)); have j1_ := (Go.Proofs.YtjgomlcdmpcoaaaDoorW.PrintWords.blk_cell T3.out.box 1).trans (rfl : _ = some (Value.string t.f1)); have j2_ := (Go.Proofs.YtjgomlcdmpcoaaaDoorW.PrintWords.blk_cell T3.out.box 2).trans (rfl : _ = some (Value.slice A2 t.f2.length c2)); have j3_ := (Go.Proofs.YtjgomlcdmpcoaaaDoorW.PrintWords.blk_cell T3.out.box 3).trans (rfl : _ = some (Value.slice (some ad) t.f3.length c3)); have j4_ := (Go.Proofs.YtjgomlcdmpcoaaaDoorW.PrintWords.blk_cell T3.out.box 4).trans (rfl : _ = some (Value.int .i64 t.f4)); clear hm3 hg3) | (go_at_call 125; refine (index_calls nameCalls t c A2 c2 _ c3 B2 d2 w3 (HG.out.of_below T3.out.below) hc2 (Kd.C_below HC.out T3.out.below) hd2 (Kd.C_below HI2.out T3.out.below)).mono ?_; rintro e w4 ⟨rfl, hb4⟩; rw [HB.out]; have T4 := Aside0.mk (T3.out.step hb4); clear hb4))
                            go_ret
                            exact ⟨by rw [HI.out, HC1.out, Bool.true_and, HCI.out, HF.out, HQ.out, HB.out]; rfl, T4.out.below⟩
                          | true =>
                            have e0 := count_none hq
                            have e1 : _ = (1 : Int) := count_one e0
                            have hrun := HTB.out.m2.look0 lawS Tryd.underlying108 HKS.out e0
                            have E0 := Lib.hid e0
                            have E1 := Lib.hid e1
                            have HQ := Lib.hid hq
                            have HF := Lib.hid hf
                            have HB := Lib.hid hb
                            clear e0 e1 hq hf hb
                            go_wp2_with (first | (at_mapUpdate; refine wpList_count rfl _ _ _ 108 rfl lawS Tryd.underlying108 rfl HTB.out.m2 (by omega) (by omega) _ (nm c.f1) rfl HKS.out (injS _) (isS _) _ (by rw [E0.out] <;> rfl) rfl ?_; intro w2 hm2 hg2; have T2 := Aside0.mk (HTB.out.up2 hm2.snoc hg2); have B2_ := Aside0.mk ((hg2.block _ (by simp) (fun e => by injection e with e; have := hszr; omega)).trans (heap_alloc_new wr (.cells #[.int .i64 c.f0, .string c.f1, .slice B2 c.f2.length d2, .bool c.f3, .int .i64 c.f4] 98))); have k0_ := (Go.Proofs.YtjgomlcdmpcoaaaDoorW.PrintWords.blk_cell B2_.out 0).trans (rfl : _ = some (Value.int .i64 c.f0)); clear hrun hm2 hg2) | (go_at_call 123; refine (fits_calls c.f0 t.f4 _ _ _ _ w.heap.size (w1.heap.size + 1 + 1 + 1) w1.heap.size ids w2 HWC.out.1 HWC.out.2.1 T2.out.box T2.out.idv T2.out.m0 (by omega)).mono ?_; rintro e w3 ⟨rfl, hm3, hg3⟩; rw [HF.out]; have T3 := Aside0.mk (T2.out.up0 hm3 hg3); have B3_ := Aside0.mk ((hg3.block _ (lt_of_block B2_.out) (fun e => by injection e with e; have := hszr; omega)).trans B2_.out); clear k0_; have k0_ := (Go.Proofs.YtjgomlcdmpcoaaaDoorW.PrintWords.blk_cell B3_.out 0).trans (rfl : _ = some (Value.int .i64 c.f0)); have k1_ := (Go.Proofs.YtjgomlcdmpcoaaaDoorW.PrintWords.blk_cell B3_.out 1).trans (rfl : _ = some (Value.string c.f1)); have k2_ := (Go.Proofs.YtjgomlcdmpcoaaaDoorW.PrintWords.blk_cell B3_.out 2).trans (rfl : _ = some (Value.slice B2 c.f2.length d2)); have k3_ := (Go.Proofs.YtjgomlcdmpcoaaaDoorW.PrintWords.blk_cell B3_.out 3).trans (rfl : _ = some (Value.bool c.f3)); have k4_ := (Go.Proofs.YtjgomlcdmpcoaaaDoorW.PrintWords.blk_cell B3_.out 4).trans (rfl : _ = some (Value.int .i64 c.f4)); have hrun3 := T3.out.m2.look0 lawS Tryd.underlying108 HKS.out E1.out; have j0_ := (Go.Proofs.YtjgomlcdmpcoaaaDoorW.PrintWords.blk_cell T3.out.box 0).trans (rfl : _ = some (Value.int .i64 t.f0)); have j1_ := (Go.Proofs.YtjgomlcdmpcoaaaDoorW.PrintWords.blk_cell T3.out.box 1).trans (rfl : _ = some (Value.string t.f1)); have j2_ := (Go.Proofs.YtjgomlcdmpcoaaaDoorW.PrintWords.blk_cell T3.out.box 2).trans (rfl : _ = some (Value.slice A2 t.f2.length c2)); have j3_ := (Go.Proofs.YtjgomlcdmpcoaaaDoorW.PrintWords.blk_cell T3.out.box 3).trans (rfl : _ = some (Value.slice (some ad) t.f3.length c3)); have j4_ := (Go.Proofs.YtjgomlcdmpcoaaaDoorW.PrintWords.blk_cell T3.out.box 4).trans (rfl : _ = some (Value.int .i64 t.f4)); clear hm3 hg3) | (go_at_call 125; refine (index_calls nameCalls t c A2 c2 _ c3 B2 d2 w3 (HG.out.of_below T3.out.below) hc2 (Kd.C_below HC.out T3.out.below) hd2 (Kd.C_below HI2.out T3.out.below)).mono ?_; rintro e w4 ⟨rfl, hb4⟩; rw [HB.out]; have T4 := Aside0.mk (T3.out.step hb4); clear hb4))
                            go_roundg (t.f3.length - (kk + 1))
                            case measure => omega
                            case rel =>
                              refine ⟨kk + 1, by omega, by omega, by go_num, ⟨?_, ?_⟩⟩
                              · rw [hTI.out, hTN.out]; exact T4
                              · refine ⟨?_⟩
                                rw [HCI.out, HF.out, HQ.out, HB.out, hTI.out, hTN.out]; rfl
                    · have hltz : ¬ (kk : Int) < (t.f3.length : Int) := by omega
                      have hkd : t.f3.drop kk = [] := List.drop_eq_nil_of_le (by omega)
                      have hkt : t.f3.take kk = t.f3 := List.take_of_length_le (by omega)
                      rw [hkd, hkt] at HCI'
                      rw [hkt] at HT'
                      have HT := HT'
                      clear HT' hkd hkt
                      have HC2 := Lib.hid (show tindsB t (t.f2.map (·.f0)) [] t.f3 = true from HCI'.out)
                      clear HCI'
                      have kb2 := (Go.Proofs.YtjgomlcdmpcoaaaDoorW.PrintWords.blk_cell HT.out.box 2).trans (rfl : _ = some (Value.slice A2 t.f2.length c2))
                      obtain ⟨ad, eA, h0, h1, h2, h3, h4, h5, h6, h7, h8⟩ := at_T75 (Kd.C_below HC.out HT.out.below) (0 : Int) (by omega) (by omega)
                      have hl0 : 0 < t.f2.length := by omega
                      have hx : rd_T75 t.f2 (0 : Int) = t.f2[0] := by unfold rd_T75; simp [List.getD, hl0]
                      rw [hx] at h0 h1 h2 h3 h4 h5 h6 h7 h8
                      simp only [Int.toNat_zero, Nat.zero_mul] at h0 h1 h2 h3 h4 h5 h6 h7 h8
                      have ea : ad.add 0 = ad := by simp [Addr.add]
                      rw [ea] at h0 h1 h2 h3 h4 h5 h6 h7 h8
                      clear ea
                      cases eA
                      have hK := keyB_of t hl0
                      generalize t.f2[0] = c at h0 h1 h2 h3 h4 h5 h6 h7 h8 hK
                      have HW0 := Lib.hid HT.out.below
                      clear hx HT
                      cases q1 : c.f3 == 4 with
                      | false =>
                        rw [q1] at hK
                        have HK := Lib.hid hK
                        clear hK
                        go_wp2
                        go_ret
                        exact ⟨by rw [HI.out, HC1.out, HC2.out, HK.out]; rfl, below_alloc HW0.out _⟩
                      | true =>
                        cases q2 : c.f4 == 4 with
                        | false =>
                          rw [q1, q2] at hK
                          have HK := Lib.hid hK
                          clear hK
                          go_wp2
                          go_ret
                          exact ⟨by rw [HI.out, HC1.out, HC2.out, HK.out]; rfl, below_alloc HW0.out _⟩
                        | true =>
                          rw [q1, q2] at hK
                          have HK := Lib.hid hK
                          clear hK
                          go_wp2
                          go_ret
                          exact ⟨by rw [HI.out, HC1.out, HC2.out, HK.out]; rfl, below_alloc HW0.out _⟩
end Go.Proofs.YtjgomlcdmpcoaaaDoor.H
namespace Go.Proofs.YtjgomlcdmpcoaaaDoor.H
open Go.RowKit Go.Proofs.YtjgomlcdmpcoaaaDoorW.PrintWords Go.Proofs.YtjgomlcdmpcoaaaDoorW.PrintLast Go.Proofs.YtjgomlcdmpcoaaaDoorW.PrintMore
open Go.Proofs.YtjgomlcdmpcoaaaDoor.D Go.Proofs.YtjgomlcdmpcoaaaDoor
set_option linter.unusedVariables false
set_option linter.unusedSimpArgs false
def tabsB (nx : Int) : Int → List (List UInt8) → List S70 → Bool
  | _, _, [] => true
  | last, ns, t :: r => decide (last < t.f0) && (decide (t.f0 < nx) && (!ns.contains (nm t.f1) && (tableB t && tabsB nx t.f0 (ns ++ [nm t.f1]) r)))
def schB (v : Int) (ts : List S70) (nx : Int) : Bool := decide (0 ≤ v) && (decide (v < 1099511627776) && (decide (0 ≤ nx) && (decide (nx < 1099511627776) && (decide (ts.length ≤ 4) && tabsB nx 0 [] ts))))
structure MSt (w wr : World) (bx : Array Value) (ns : List (List UInt8)) : Prop where
  below : Below w.heap.size w wr
  box : wr.heap[w.heap.size]? = some (.cells bx 28 (0, 0))
  m : CntM 9 litS wr (w.heap.size + 1) ns.length ns
section
variable {w wr w' : World} {bx : Array Value} {ns ns' : List (List UInt8)}
theorem MSt.size (h : MSt w wr bx ns) : w.heap.size + 1 < wr.heap.size := h.m.lt
theorem MSt.step (h : MSt w wr bx ns) (hb : Below wr.heap.size wr w') : MSt w w' bx ns := ⟨below_then h.below h.below.size hb, blk_below h.box hb, h.m.below hb⟩
theorem MSt.up (h : MSt w wr bx ns) (hm : CntM 9 litS w' (w.heap.size + 1) ns'.length ns') (hg : wr.grownBy w' (some (w.heap.size + 1))) : MSt w w' bx ns' :=
  ⟨h.below.grown hg h.below.size (fun k e => by injection e with e; omega), (hg.block _ (lt_of_block h.box) (fun e => by injection e with e; omega)).trans h.box, hm⟩
theorem MSt.new (w : World) (bx : Array Value) : MSt w ((w.alloc (.cells bx 28)).alloc (.map #[] 0)) bx [] := by
  have a1 := below_alloc (Below.refl _ w) (.cells bx 28)
  have a2 := below_alloc (Below.refl _ (w.alloc (.cells bx 28))) (.map #[] 0)
  have s1 : (w.alloc (.cells bx 28)).heap.size = w.heap.size + 1 := by simp
  refine ⟨below_then a1 (by rw [s1]; omega) a2, blk_below (heap_alloc_new w _) a2, ?_⟩
  have := CntM.new 9 litS (w.alloc (.cells bx 28))
  rw [s1] at this
  exact this
end
set_option maxRecDepth 100000 in
set_option maxHeartbeats 16000000 in
theorem may_calls (v : Int) (ts : List S70) (nx : Int) (hwf : ∀ t ∈ ts, TabWf t) (A : Option Addr) (c : Nat) (w : World) (hG : GL w) (g2 : k70.C w A ts.length ts) :
    Calls Tryd.prog 36 #[.agg #[.int .i64 v, .slice A ts.length c, .int .i64 nx]] w fun e w' => e = .returned (.bool (schB v ts nx)) ∧ Below w.heap.size w w' := by
  have HG := Aside0.mk hG
  have HC := Aside0.mk g2
  have HW := Aside0.mk hwf
  have hmm := @run_makeMap Tryd.prog
  have big2 := g2.2.1
  have hI : schB v ts nx = (decide (0 ≤ v) && (decide (v < 1099511627776) && (decide (0 ≤ nx) && (decide (nx < 1099511627776) && (decide (ts.length ≤ 4) && tabsB nx 0 [] ts))))) := rfl
  generalize schB v ts nx = R at hI ⊢
  clear hG g2 hwf
  have E1 : decide (v < 0) = !decide (0 ≤ v) := by by_cases h : 0 ≤ v <;> simp [h] <;> omega
  have E2 : decide (1099511627776 ≤ v) = !decide (v < 1099511627776) := by by_cases h : v < 1099511627776 <;> simp [h] <;> omega
  have E3 : decide (nx < 0) = !decide (0 ≤ nx) := by by_cases h : 0 ≤ nx <;> simp [h] <;> omega
  have E4 : decide (1099511627776 ≤ nx) = !decide (nx < 1099511627776) := by by_cases h : nx < 1099511627776 <;> simp [h] <;> omega
  have E5 : decide (4 < (ts.length : Int)) = !decide (ts.length ≤ 4) := by by_cases h : ts.length ≤ 4 <;> simp [h] <;> omega
  cases q1 : decide (0 ≤ v) with
  | false =>
    rw [q1] at E1 hI
    simp only [Bool.not_false, Bool.not_true] at E1
    have HI := Lib.hid hI
    clear hI q1 E2 E3 E4 E5
    go_enter Tryd.func36, Tryd.ntmps36
    go_wp2
    go_ret
    exact ⟨by rw [HI.out]; rfl, below_alloc (Below.refl _ _) _⟩
  | true =>
    rw [q1] at E1 hI
    cases q2 : decide (v < 1099511627776) with
    | false =>
      rw [q2] at E2 hI
      simp only [Bool.not_false, Bool.not_true] at E1 E2
      have HI := Lib.hid hI
      clear hI q1 q2 E3 E4 E5
      go_enter Tryd.func36, Tryd.ntmps36
      go_wp2
      go_ret
      exact ⟨by rw [HI.out]; rfl, below_alloc (Below.refl _ _) _⟩
    | true =>
      rw [q2] at E2 hI
      cases q3 : decide (0 ≤ nx) with
      | false =>
        rw [q3] at E3 hI
        simp only [Bool.not_false, Bool.not_true] at E1 E2 E3
        have HI := Lib.hid hI
        clear hI q1 q2 q3 E4 E5
        go_enter Tryd.func36, Tryd.ntmps36
        go_wp2
        go_ret
        exact ⟨by rw [HI.out]; rfl, below_alloc (Below.refl _ _) _⟩
      | true =>
        rw [q3] at E3 hI
        cases q4 : decide (nx < 1099511627776) with
        | false =>
          rw [q4] at E4 hI
          simp only [Bool.not_false, Bool.not_true] at E1 E2 E3 E4
          have HI := Lib.hid hI
          clear hI q1 q2 q3 q4 E5
          go_enter Tryd.func36, Tryd.ntmps36
          go_wp2
          go_ret
          exact ⟨by rw [HI.out]; rfl, below_alloc (Below.refl _ _) _⟩
        | true =>
          rw [q4] at E4 hI
          cases q5 : decide (ts.length ≤ 4) with
          | false =>
            rw [q5] at E5 hI
            simp only [Bool.not_false, Bool.not_true] at E1 E2 E3 E4 E5
            have HI := Lib.hid hI
            clear hI q1 q2 q3 q4 q5
            go_enter Tryd.func36, Tryd.ntmps36
            go_wp2
            go_ret
            exact ⟨by rw [HI.out]; rfl, below_alloc (Below.refl _ _) _⟩
          | true =>
            rw [q5] at E5 hI
            simp only [Bool.not_false, Bool.not_true] at E1 E2 E3 E4 E5
            simp only [Bool.true_and] at hI
            have z5 := of_decide_eq_true q5
            clear q1 q2 q3 q4 q5
            have HI := Lib.hid hI
            have HT := Aside0.mk (MSt.new w #[.int .i64 v, .slice A ts.length c, .int .i64 nx])
            clear hI
            go_enter Tryd.func36, Tryd.ntmps36
            go_wp2_with fail
            clear E1 E2 E3 E4 E5
            go_loopg [3, 6, 35] ts.length (fun gg u3 _ u35 wr => ∃ kk : Nat, ∃ last : Int, kk ≤ ts.length ∧ ts.length - kk ≤ gg ∧ u3 = .int .i64 last ∧ u35 = .int .i64 kk ∧ Aside0 (MSt w wr #[.int .i64 v, .slice A ts.length c, .int .i64 nx] ((ts.take kk).map fun t => nm t.f1)) ∧ Aside0 (tabsB nx 0 [] ts = tabsB nx last ((ts.take kk).map fun t => nm t.f1) (ts.drop kk)))
            case atStart => exact ⟨0, 0, Nat.zero_le _, by omega, rfl, rfl, ⟨by first | exact HT.out | (simpa using HT.out)⟩, ⟨by simp⟩⟩
            case round =>
              obtain ⟨kk, last, hkk, hgg, rfl, rfl, HT', HCI'⟩ := hrel
              clear HT
              by_cases hlt : kk < ts.length
              · have hltz : (kk : Int) < (ts.length : Int) := by omega
                have hszr : w.heap.size + 1 < wr.heap.size := HT'.out.size
                have hBW := HT'.out.below
                obtain ⟨ad, A2, c2, A3, c3, eA, h0, h1, h2, h3, h4, hd2, hcols, hd3, hinds⟩ := at_T70 HC.out (kk : Int) (by omega) (by omega)
                have hx : rd_T70 ts (kk : Int) = ts[kk] := by unfold rd_T70; simp [List.getD, hlt]
                rw [hx] at h0 h1 h2 h3 h4 hd2 hcols hd3 hinds
                simp only [Int.toNat_natCast] at h0 h1 h2 h3 h4
                replace h0 := pw_cell_below hBW h0
                replace h1 := pw_cell_below hBW h1
                replace h2 := pw_cell_below hBW h2
                replace h3 := pw_cell_below hBW h3
                replace h4 := pw_cell_below hBW h4
                cases eA
                have hW := HW.out _ (List.getElem_mem hlt)
                have hd : ts.drop kk = ts[kk] :: ts.drop (kk + 1) := List.drop_eq_getElem_cons hlt
                have htk : ts.take (kk + 1) = ts.take kk ++ [ts[kk]] := List.take_succ_eq_append_getElem hlt
                rw [hd] at HCI'
                generalize ts[kk] = t at h0 h1 h2 h3 h4 hd2 hcols hd3 hinds hW hd htk HCI'
                have HWT := Lib.hid hW
                obtain ⟨nsC, hns⟩ : ∃ l_, ((ts.take kk).map fun t => nm t.f1) = l_ := ⟨_, rfl⟩
                have hTN := Lib.hid (show ((ts.take (kk + 1)).map fun t => nm t.f1) = nsC ++ [nm t.f1] by rw [htk, ← hns]; simp)
                rw [hns] at HT' HCI'
                have hnl : nsC.length < 50 := by rw [← hns]; simp; omega
                have hst : tabsB nx last nsC (t :: ts.drop (kk + 1)) = (decide (last < t.f0) && (decide (t.f0 < nx) && (!nsC.contains (nm t.f1) && (tableB t && tabsB nx t.f0 (nsC ++ [nm t.f1]) (ts.drop (kk + 1)))))) := rfl
                have HCI := Lib.hid (HCI'.out.trans hst)
                have HKS := Lib.hid (keyS hW.1)
                have HTB := Aside0.mk (HT'.out.step (below_alloc (Below.refl _ wr) (.cells #[.int .i64 t.f0, .string t.f1, .slice A2 t.f2.length c2, .slice A3 t.f3.length c3, .int .i64 t.f4] 70)))
                have HI2 := Aside0.mk hcols
                have HI3 := Aside0.mk hinds
                clear hx hW hd htk hns hst HCI' HT' hcols hinds hBW
                have F1 : decide (t.f0 ≤ last) = !decide (last < t.f0) := by by_cases h : last < t.f0 <;> simp [h] <;> omega
                have F2 : decide (nx ≤ t.f0) = !decide (t.f0 < nx) := by by_cases h : t.f0 < nx <;> simp [h] <;> omega
                cases ha : decide (last < t.f0) with
                | false =>
                  rw [ha] at F1
                  have HA := Lib.hid ha
                  clear ha F2
                  simp only [Bool.not_false] at F1
                  cases hq : nsC.contains (nm t.f1) with
                  | false =>
                    have e0 := count_none hq
                    have e1 : _ = (1 : Int) := count_one e0
                    have hrun := HTB.out.m.look0 lawS Tryd.underlying108 HKS.out e0
                    have E0 := Lib.hid e0
                    have E1 := Lib.hid e1
                    have HQ := Lib.hid hq
                    clear e0 e1 hq
                    go_wp2_with ((at_mapUpdate; refine wpList_count rfl _ _ _ 108 rfl lawS Tryd.underlying108 rfl HTB.out.m (by omega) (by omega) _ (nm t.f1) rfl HKS.out (injS _) (isS _) _ (by rw [E0.out] <;> rfl) rfl ?_; intro w2 hm2 hg2; have T2 := Aside0.mk (HTB.out.up hm2.snoc hg2); have B2_ := Aside0.mk ((hg2.block _ (by simp) (fun e => by injection e with e; have := hszr; omega)).trans (heap_alloc_new wr (.cells #[.int .i64 t.f0, .string t.f1, .slice A2 t.f2.length c2, .slice A3 t.f3.length c3, .int .i64 t.f4] 70))); have k0_ := (Go.Proofs.YtjgomlcdmpcoaaaDoorW.PrintWords.blk_cell B2_.out 0).trans (rfl : _ = some (Value.int .i64 t.f0)); have k1_ := (Go.Proofs.YtjgomlcdmpcoaaaDoorW.PrintWords.blk_cell B2_.out 1).trans (rfl : _ = some (Value.string t.f1)); have k2_ := (Go.Proofs.YtjgomlcdmpcoaaaDoorW.PrintWords.blk_cell B2_.out 2).trans (rfl : _ = some (Value.slice A2 t.f2.length c2)); have k3_ := (Go.Proofs.YtjgomlcdmpcoaaaDoorW.PrintWords.blk_cell B2_.out 3).trans (rfl : _ = some (Value.slice A3 t.f3.length c3)); have k4_ := (Go.Proofs.YtjgomlcdmpcoaaaDoorW.PrintWords.blk_cell B2_.out 4).trans (rfl : _ = some (Value.int .i64 t.f4)); have j2_ := (Go.Proofs.YtjgomlcdmpcoaaaDoorW.PrintWords.blk_cell T2.out.box 2).trans (rfl : _ = some (Value.int .i64 nx)); have hrun2 := T2.out.m.look0 lawS Tryd.underlying108 HKS.out E1.out; clear hrun hm2 hg2))
                    go_ret
                    exact ⟨by rw [HI.out, HCI.out, HA.out]; rfl, T2.out.below⟩
                  | true =>
                    obtain ⟨cq, e0, cq1, cq2'⟩ := count_some hq
                    have cq2 : cq ≤ 100 := by omega
                    have cq3 : 1 < cq + 1 := by omega
                    have e1 := count_one e0
                    clear cq2'
                    have hrun := HTB.out.m.look0 lawS Tryd.underlying108 HKS.out e0
                    have E0 := Lib.hid e0
                    have E1 := Lib.hid e1
                    have HQ := Lib.hid hq
                    clear e0 e1 hq
                    go_wp2_with ((at_mapUpdate; refine wpList_count rfl _ _ _ 108 rfl lawS Tryd.underlying108 rfl HTB.out.m (by omega) (by omega) _ (nm t.f1) rfl HKS.out (injS _) (isS _) _ (by rw [E0.out] <;> rfl) rfl ?_; intro w2 hm2 hg2; have T2 := Aside0.mk (HTB.out.up hm2.snoc hg2); have B2_ := Aside0.mk ((hg2.block _ (by simp) (fun e => by injection e with e; have := hszr; omega)).trans (heap_alloc_new wr (.cells #[.int .i64 t.f0, .string t.f1, .slice A2 t.f2.length c2, .slice A3 t.f3.length c3, .int .i64 t.f4] 70))); have k0_ := (Go.Proofs.YtjgomlcdmpcoaaaDoorW.PrintWords.blk_cell B2_.out 0).trans (rfl : _ = some (Value.int .i64 t.f0)); have k1_ := (Go.Proofs.YtjgomlcdmpcoaaaDoorW.PrintWords.blk_cell B2_.out 1).trans (rfl : _ = some (Value.string t.f1)); have k2_ := (Go.Proofs.YtjgomlcdmpcoaaaDoorW.PrintWords.blk_cell B2_.out 2).trans (rfl : _ = some (Value.slice A2 t.f2.length c2)); have k3_ := (Go.Proofs.YtjgomlcdmpcoaaaDoorW.PrintWords.blk_cell B2_.out 3).trans (rfl : _ = some (Value.slice A3 t.f3.length c3)); have k4_ := (Go.Proofs.YtjgomlcdmpcoaaaDoorW.PrintWords.blk_cell B2_.out 4).trans (rfl : _ = some (Value.int .i64 t.f4)); have j2_ := (Go.Proofs.YtjgomlcdmpcoaaaDoorW.PrintWords.blk_cell T2.out.box 2).trans (rfl : _ = some (Value.int .i64 nx)); have hrun2 := T2.out.m.look0 lawS Tryd.underlying108 HKS.out E1.out; clear hrun hm2 hg2))
                    go_ret
                    exact ⟨by rw [HI.out, HCI.out, HA.out]; rfl, T2.out.below⟩
                | true =>
                  rw [ha] at F1
                  have HA := Lib.hid ha
                  clear ha
                  simp only [Bool.not_true] at F1
                  cases hb : decide (t.f0 < nx) with
                  | false =>
                    rw [hb] at F2
                    have HBb := Lib.hid hb
                    clear hb
                    simp only [Bool.not_false] at F2
                    cases hq : nsC.contains (nm t.f1) with
                    | false =>
                      have e0 := count_none hq
                      have e1 : _ = (1 : Int) := count_one e0
                      have hrun := HTB.out.m.look0 lawS Tryd.underlying108 HKS.out e0
                      have E0 := Lib.hid e0
                      have E1 := Lib.hid e1
                      have HQ := Lib.hid hq
                      clear e0 e1 hq
                      go_wp2_with ((at_mapUpdate; refine wpList_count rfl _ _ _ 108 rfl lawS Tryd.underlying108 rfl HTB.out.m (by omega) (by omega) _ (nm t.f1) rfl HKS.out (injS _) (isS _) _ (by rw [E0.out] <;> rfl) rfl ?_; intro w2 hm2 hg2; have T2 := Aside0.mk (HTB.out.up hm2.snoc hg2); have B2_ := Aside0.mk ((hg2.block _ (by simp) (fun e => by injection e with e; have := hszr; omega)).trans (heap_alloc_new wr (.cells #[.int .i64 t.f0, .string t.f1, .slice A2 t.f2.length c2, .slice A3 t.f3.length c3, .int .i64 t.f4] 70))); have k0_ := (Go.Proofs.YtjgomlcdmpcoaaaDoorW.PrintWords.blk_cell B2_.out 0).trans (rfl : _ = some (Value.int .i64 t.f0)); have k1_ := (Go.Proofs.YtjgomlcdmpcoaaaDoorW.PrintWords.blk_cell B2_.out 1).trans (rfl : _ = some (Value.string t.f1)); have k2_ := (Go.Proofs.YtjgomlcdmpcoaaaDoorW.PrintWords.blk_cell B2_.out 2).trans (rfl : _ = some (Value.slice A2 t.f2.length c2)); have k3_ := (Go.Proofs.YtjgomlcdmpcoaaaDoorW.PrintWords.blk_cell B2_.out 3).trans (rfl : _ = some (Value.slice A3 t.f3.length c3)); have k4_ := (Go.Proofs.YtjgomlcdmpcoaaaDoorW.PrintWords.blk_cell B2_.out 4).trans (rfl : _ = some (Value.int .i64 t.f4)); have j2_ := (Go.Proofs.YtjgomlcdmpcoaaaDoorW.PrintWords.blk_cell T2.out.box 2).trans (rfl : _ = some (Value.int .i64 nx)); have hrun2 := T2.out.m.look0 lawS Tryd.underlying108 HKS.out E1.out; clear hrun hm2 hg2))
                      go_ret
                      exact ⟨by rw [HI.out, HCI.out, HA.out, HBb.out]; rfl, T2.out.below⟩
                    | true =>
                      obtain ⟨cq, e0, cq1, cq2'⟩ := count_some hq
                      have cq2 : cq ≤ 100 := by omega
                      have cq3 : 1 < cq + 1 := by omega
                      have e1 := count_one e0
                      clear cq2'
                      have hrun := HTB.out.m.look0 lawS Tryd.underlying108 HKS.out e0
                      have E0 := Lib.hid e0
                      have E1 := Lib.hid e1
                      have HQ := Lib.hid hq
                      clear e0 e1 hq
                      go_wp2_with ((at_mapUpdate; refine wpList_count rfl _ _ _ 108 rfl lawS Tryd.underlying108 rfl HTB.out.m (by omega) (by omega) _ (nm t.f1) rfl HKS.out (injS _) (isS _) _ (by rw [E0.out] <;> rfl) rfl ?_; intro w2 hm2 hg2; have T2 := Aside0.mk (HTB.out.up hm2.snoc hg2); have B2_ := Aside0.mk ((hg2.block _ (by simp) (fun e => by injection e with e; have := hszr; omega)).trans (heap_alloc_new wr (.cells #[.int .i64 t.f0, .string t.f1, .slice A2 t.f2.length c2, .slice A3 t.f3.length c3, .int .i64 t.f4] 70))); have k0_ := (Go.Proofs.YtjgomlcdmpcoaaaDoorW.PrintWords.blk_cell B2_.out 0).trans (rfl : _ = some (Value.int .i64 t.f0)); have k1_ := (Go.Proofs.YtjgomlcdmpcoaaaDoorW.PrintWords.blk_cell B2_.out 1).trans (rfl : _ = some (Value.string t.f1)); have k2_ := (Go.Proofs.YtjgomlcdmpcoaaaDoorW.PrintWords.blk_cell B2_.out 2).trans (rfl : _ = some (Value.slice A2 t.f2.length c2)); have k3_ := (Go.Proofs.YtjgomlcdmpcoaaaDoorW.PrintWords.blk_cell B2_.out 3).trans (rfl : _ = some (Value.slice A3 t.f3.length c3)); have k4_ := (Go.Proofs.YtjgomlcdmpcoaaaDoorW.PrintWords.blk_cell B2_.out 4).trans (rfl : _ = some (Value.int .i64 t.f4)); have j2_ := (Go.Proofs.YtjgomlcdmpcoaaaDoorW.PrintWords.blk_cell T2.out.box 2).trans (rfl : _ = some (Value.int .i64 nx)); have hrun2 := T2.out.m.look0 lawS Tryd.underlying108 HKS.out E1.out; clear hrun hm2 hg2))
                      go_ret
                      exact ⟨by rw [HI.out, HCI.out, HA.out, HBb.out]; rfl, T2.out.below⟩
                  | true =>
                    rw [hb] at F2
                    have HBb := Lib.hid hb
                    clear hb
                    simp only [Bool.not_true] at F2
                    cases hq : nsC.contains (nm t.f1) with
                    | true =>
                      obtain ⟨cq, e0, cq1, cq2'⟩ := count_some hq
                      have cq2 : cq ≤ 100 := by omega
                      have cq3 : 1 < cq + 1 := by omega
                      have e1 := count_one e0
                      clear cq2'
                      have hrun := HTB.out.m.look0 lawS Tryd.underlying108 HKS.out e0
                      have E0 := Lib.hid e0
                      have E1 := Lib.hid e1
                      have HQ := Lib.hid hq
                      clear e0 e1 hq
                      go_wp2_with ((at_mapUpdate; refine wpList_count rfl _ _ _ 108 rfl lawS Tryd.underlying108 rfl HTB.out.m (by omega) (by omega) _ (nm t.f1) rfl HKS.out (injS _) (isS _) _ (by rw [E0.out] <;> rfl) rfl ?_; intro w2 hm2 hg2; have T2 := Aside0.mk (HTB.out.up hm2.snoc hg2); have B2_ := Aside0.mk ((hg2.block _ (by simp) (fun e => by injection e with e; have := hszr; omega)).trans (heap_alloc_new wr (.cells #[.int .i64 t.f0, .string t.f1, .slice A2 t.f2.length c2, .slice A3 t.f3.length c3, .int .i64 t.f4] 70))); have k0_ := (Go.Proofs.YtjgomlcdmpcoaaaDoorW.PrintWords.blk_cell B2_.out 0).trans (rfl : _ = some (Value.int .i64 t.f0)); have k1_ := (Go.Proofs.YtjgomlcdmpcoaaaDoorW.PrintWords.blk_cell B2_.out 1).trans (rfl : _ = some (Value.string t.f1)); have k2_ := (Go.Proofs.YtjgomlcdmpcoaaaDoorW.PrintWords.blk_cell B2_.out 2).trans (rfl : _ = some (Value.slice A2 t.f2.length c2)); have k3_ := (Go.Proofs.YtjgomlcdmpcoaaaDoorW.PrintWords.blk_cell B2_.out 3).trans (rfl : _ = some (Value.slice A3 t.f3.length c3)); have k4_ := (Go.Proofs.YtjgomlcdmpcoaaaDoorW.PrintWords.blk_cell B2_.out 4).trans (rfl : _ = some (Value.int .i64 t.f4)); have j2_ := (Go.Proofs.YtjgomlcdmpcoaaaDoorW.PrintWords.blk_cell T2.out.box 2).trans (rfl : _ = some (Value.int .i64 nx)); have hrun2 := T2.out.m.look0 lawS Tryd.underlying108 HKS.out E1.out; clear hrun hm2 hg2))
                      go_ret
                      exact ⟨by rw [HI.out, HCI.out, HA.out, HBb.out, HQ.out]; rfl, T2.out.below⟩
                    | false =>
                      cases htb : tableB t with
                      | false =>
                        have e0 := count_none hq
                        have e1 : _ = (1 : Int) := count_one e0
                        have hrun := HTB.out.m.look0 lawS Tryd.underlying108 HKS.out e0
                        have E0 := Lib.hid e0
                        have E1 := Lib.hid e1
                        have HQ := Lib.hid hq
                        clear e0 e1 hq
                        have HB := Lib.hid htb
                        clear htb
                        go_wp2_with (first | (at_mapUpdate; refine wpList_count rfl _ _ _ 108 rfl lawS Tryd.underlying108 rfl HTB.out.m (by omega) (by omega) _ (nm t.f1) rfl HKS.out (injS _) (isS _) _ (by rw [E0.out] <;> rfl) rfl ?_; intro w2 hm2 hg2; have T2 := Aside0.mk (HTB.out.up hm2.snoc hg2); have B2_ := Aside0.mk ((hg2.block _ (by simp) (fun e => by injection e with e; have := hszr; omega)).trans (heap_alloc_new wr (.cells #[.int .i64 t.f0, .string t.f1, .slice A2 t.f2.length c2, .slice A3 t.f3.length c3, .int .i64 t.f4] 70))); have k0_ := (Go.Proofs.YtjgomlcdmpcoaaaDoorW.PrintWords.blk_cell B2_.out 0).trans (rfl : _ = some (Value.int .i64 t.f0)); have k1_ := (Go.Proofs.YtjgomlcdmpcoaaaDoorW.PrintWords.blk_cell B2_.out 1).trans (rfl : _ = some (Value.string t.f1)); have k2_ := (Go.Proofs.YtjgomlcdmpcoaaaDoorW.PrintWords.blk_cell B2_.out 2).trans (rfl : _ = some (Value.slice A2 t.f2.length c2)); have k3_ := (Go.Proofs.YtjgomlcdmpcoaaaDoorW.PrintWords.blk_cell B2_.out 3).trans (rfl : _ = some (Value.slice A3 t.f3.length c3)); have k4_ := (Go.Proofs.YtjgomlcdmpcoaaaDoorW.PrintWords.blk_cell B2_.out 4).trans (rfl : _ = some (Value.int .i64 t.f4)); have j2_ := (Go.Proofs.YtjgomlcdmpcoaaaDoorW.PrintWords.blk_cell T2.out.box 2).trans (rfl : _ = some (Value.int .i64 nx)); have hrun2 := T2.out.m.look0 lawS Tryd.underlying108 HKS.out E1.out; clear hrun hm2 hg2) | (go_at_call 74; refine (table_may t HWT.out A2 c2 A3 c3 w2 (HG.out.of_below T2.out.below) hd2 (Kd.C_below HI2.out T2.out.below) hd3 (Kd.C_below HI3.out T2.out.below)).mono ?_; rintro e w4 ⟨rfl, hb4⟩; rw [HB.out]; have T4 := Aside0.mk (T2.out.step hb4); have B4_ := Aside0.mk (blk_below B2_.out hb4); have k0__ := (Go.Proofs.YtjgomlcdmpcoaaaDoorW.PrintWords.blk_cell B4_.out 0).trans (rfl : _ = some (Value.int .i64 t.f0)); clear hb4))
                        go_ret
                        exact ⟨by rw [HI.out, HCI.out, HA.out, HBb.out, HQ.out, HB.out]; rfl, T4.out.below⟩
                      | true =>
                        have e0 := count_none hq
                        have e1 : _ = (1 : Int) := count_one e0
                        have hrun := HTB.out.m.look0 lawS Tryd.underlying108 HKS.out e0
                        have E0 := Lib.hid e0
                        have E1 := Lib.hid e1
                        have HQ := Lib.hid hq
                        clear e0 e1 hq
                        have HB := Lib.hid htb
                        clear htb
                        go_wp2_with (first | (at_mapUpdate; refine wpList_count rfl _ _ _ 108 rfl lawS Tryd.underlying108 rfl HTB.out.m (by omega) (by omega) _ (nm t.f1) rfl HKS.out (injS _) (isS _) _ (by rw [E0.out] <;> rfl) rfl ?_; intro w2 hm2 hg2; have T2 := Aside0.mk (HTB.out.up hm2.snoc hg2); have B2_ := Aside0.mk ((hg2.block _ (by simp) (fun e => by injection e with e; have := hszr; omega)).trans (heap_alloc_new wr (.cells #[.int .i64 t.f0, .string t.f1, .slice A2 t.f2.length c2, .slice A3 t.f3.length c3, .int .i64 t.f4] 70))); have k0_ := (Go.Proofs.YtjgomlcdmpcoaaaDoorW.PrintWords.blk_cell B2_.out 0).trans (rfl : _ = some (Value.int .i64 t.f0)); have k1_ := (Go.Proofs.YtjgomlcdmpcoaaaDoorW.PrintWords.blk_cell B2_.out 1).trans (rfl : _ = some (Value.string t.f1)); have k2_ := (Go.Proofs.YtjgomlcdmpcoaaaDoorW.PrintWords.blk_cell B2_.out 2).trans (rfl : _ = some (Value.slice A2 t.f2.length c2)); have k3_ := (Go.Proofs.YtjgomlcdmpcoaaaDoorW.PrintWords.blk_cell B2_.out 3).trans (rfl : _ = some (Value.slice A3 t.f3.length c3)); have k4_ := (Go.Proofs.YtjgomlcdmpcoaaaDoorW.PrintWords.blk_cell B2_.out 4).trans (rfl : _ = some (Value.int .i64 t.f4)); have j2_ := (Go.Proofs.YtjgomlcdmpcoaaaDoorW.PrintWords.blk_cell T2.out.box 2).trans (rfl : _ = some (Value.int .i64 nx)); have hrun2 := T2.out.m.look0 lawS Tryd.underlying108 HKS.out E1.out; clear hrun hm2 hg2) | (go_at_call 74; refine (table_may t HWT.out A2 c2 A3 c3 w2 (HG.out.of_below T2.out.below) hd2 (Kd.C_below HI2.out T2.out.below) hd3 (Kd.C_below HI3.out T2.out.below)).mono ?_; rintro e w4 ⟨rfl, hb4⟩; rw [HB.out]; have T4 := Aside0.mk (T2.out.step hb4); have B4_ := Aside0.mk (blk_below B2_.out hb4); have k0__ := (Go.Proofs.YtjgomlcdmpcoaaaDoorW.PrintWords.blk_cell B4_.out 0).trans (rfl : _ = some (Value.int .i64 t.f0)); clear hb4))
                        go_roundg (ts.length - (kk + 1))
                        case measure => omega
                        case rel =>
                          refine ⟨kk + 1, t.f0, by omega, by omega, rfl, by go_num, ⟨?_⟩, ⟨?_⟩⟩
                          · rw [hTN.out]; exact T4.out
                          · rw [HCI.out, HA.out, HBb.out, HQ.out, HB.out, hTN.out]; rfl
              · have hltz : ¬ (kk : Int) < (ts.length : Int) := by omega
                have hkd : ts.drop kk = [] := List.drop_eq_nil_of_le (by omega)
                rw [hkd] at HCI'
                have HC1 := Lib.hid (show tabsB nx 0 [] ts = true from HCI'.out)
                clear HCI' hkd
                go_wp2
                go_ret
                exact ⟨by rw [HI.out, HC1.out]; rfl, HT'.out.below⟩
end Go.Proofs.YtjgomlcdmpcoaaaDoor.H
namespace Go.Proofs.YtjgomlcdmpcoaaaDoor.H
open Go.RowKit Go.Proofs.YtjgomlcdmpcoaaaDoorW.PrintWords Go.Proofs.YtjgomlcdmpcoaaaDoorW.PrintLast Go.Proofs.YtjgomlcdmpcoaaaDoorW.PrintMore
open Go.Proofs.YtjgomlcdmpcoaaaDoor.D Go.Proofs.YtjgomlcdmpcoaaaDoor
set_option linter.unusedVariables false
def Opens {α : Type} (d : Kd α) (t : TypeId) (wf : α → Prop) : Prop :=
  ∀ (H : Type) (enc : TypeId × Value → H) (W : World) (base : Nat) (spare : Nat → Bool) (held : Bool) (fuel : Nat) (cs : List Value) (x : DataW H × List MemPlace),
    DataW.trod enc Tryd.prog W base spare held fuel t cs = some x → ∃ a, d.K W a cs ∧ wf a
theorem opens_int {t : TypeId} {k : IntKind} (ht : Tryd.prog.underlying t = some (.int k)) : Opens (Kd.int k) t (fun n => (Lit.int k n).wf = true) := by
  intro H enc W base spare held fuel cs x h
  obtain ⟨n, rfl, _, hw⟩ := DataW.trod_int ht h
  exact ⟨n, rfl, hw⟩
theorem opens_bool {t : TypeId} (ht : Tryd.prog.underlying t = some .bool) : Opens Kd.bool t (fun _ => True) := by
  intro H enc W base spare held fuel cs x h
  obtain ⟨n, rfl, _⟩ := DataW.trod_bool ht h
  exact ⟨n, rfl, trivial⟩
theorem opens_string {t : TypeId} (ht : Tryd.prog.underlying t = some .string) : Opens Kd.string t (fun s => s.size ≤ maxLen) := by
  intro H enc W base spare held fuel cs x h
  obtain ⟨n, rfl, _, hw⟩ := DataW.trod_string ht h
  exact ⟨n, rfl, hw⟩
theorem Opens.weak {α : Type} {d : Kd α} {t : TypeId} {wf wf' : α → Prop} (h : Opens d t wf) (hw : ∀ a, wf a → wf' a) : Opens d t wf' := by
  intro H enc W base spare held fuel cs x hx
  obtain ⟨a, h1, h2⟩ := h H enc W base spare held fuel cs x hx
  exact ⟨a, h1, hw a h2⟩
theorem rows_exist {α : Type} (P : Nat → α → Prop) : ∀ n, (∀ i, i < n → ∃ y, P i y) → ∃ xs : List α, xs.length = n ∧ ∀ i y, xs[i]? = some y → P i y
  | 0, _ => ⟨[], rfl, fun i y h => by simp at h⟩
  | n + 1, h => by
    obtain ⟨xs, hl, hx⟩ := rows_exist P n (fun i hi => h i (by omega))
    obtain ⟨y, hy⟩ := h n (by omega)
    refine ⟨xs ++ [y], by simp [hl], fun i z hz => ?_⟩
    by_cases hi : i < xs.length
    · rw [List.getElem?_append_left hi] at hz
      exact hx i z hz
    · have hlt := (List.getElem?_eq_some_iff.1 hz).1
      have e : i = n := by simp [hl] at hlt; omega
      subst e
      have : z = y := by rw [List.getElem?_append_right (by omega), hl] at hz; simpa using hz.symm
      rw [this]
      exact hy
theorem add_add (a : Addr) (m j : Nat) : (a.add m).add j = a.add (m + j) := by
  unfold Addr.add
  by_cases hm : m = 0
  · subst hm
    simp
  · by_cases hj : j = 0
    · subst hj
      simp [hm]
    · simp [hm, hj, Nat.add_assoc]
theorem opens_slice {α : Type} {d : Kd α} {t e : TypeId} {wf : α → Prop} (ht : Tryd.prog.underlying t = some (.slice e)) (he : Opens d e wf) (hs : Tryd.prog.cellsOf e = d.sz) : Opens (Kd.slice e d) t (fun xs => ∀ x ∈ xs, wf x) := by
  intro H enc W base spare held fuel cs x h
  rcases DataW.trod_slice ht h with ⟨rfl, _⟩ | ⟨a, len, cap, elems, rest, n, _, rfl, rfl, hb, hl, hm, hlen, hel, _, _⟩
  · exact ⟨[], ⟨none, 0, rfl, Nat.le_refl _, ⟨rfl, Nat.zero_le _, fun h => absurd h (by simp)⟩⟩, fun x hx => by cases hx⟩
  · obtain ⟨xs, hxl, hx⟩ := rows_exist (fun i (y : α) => (∃ c, c.length = d.sz ∧ d.K W y c ∧ ∀ j u, c[j]? = some u → W.cell? (a.add (i * d.sz + j)) = some u) ∧ wf y) len (fun i hi => by
      have h1 := hel i hi
      have h2 : elems[i]? = some elems[i] := List.getElem?_eq_getElem (by omega)
      rw [h2, Option.bind_eq_some_iff] at h1
      obtain ⟨c, hc, hy⟩ := h1
      obtain ⟨_, hcl, hcell⟩ := World.cells?_some hc
      obtain ⟨y, hK, hw⟩ := he H enc W base spare held n c _ hy
      refine ⟨y, ⟨c, by rw [hcl, hs], hK, fun j u hu => ?_⟩, hw⟩
      have hj : j < Tryd.prog.cellsOf e := by rw [← hcl]; exact (List.getElem?_eq_some_iff.1 hu).1
      have := hcell j hj
      rw [hu, add_add, hs] at this
      exact this)
    refine ⟨xs, ⟨some a, cap, by rw [hxl], by omega, ⟨rfl, by unfold maxLen at hm; omega, fun _ => ⟨a, rfl, fun j p hp => ?_⟩⟩⟩, fun y hy => ?_⟩
    · obtain ⟨⟨c, h1, h2, h3⟩, _⟩ := hx j p hp
      exact ⟨c, h1, h2, h3⟩
    · obtain ⟨i, hi, rfl⟩ := List.getElem_of_mem hy
      exact (hx i _ (List.getElem?_eq_getElem hi)).2
theorem struct_get {H : Type} {enc : TypeId × Value → H} {W : World} {base : Nat} {spare : Nat → Bool} {held : Bool} {fuel : Nat} {t : TypeId} {cs : List Value} {x : DataW H × List MemPlace} {fs : Array Field} (ht : Tryd.prog.underlying t = some (.struct fs))
    (h : DataW.trod enc Tryd.prog W base spare held fuel t cs = some x) : cs.length = Tryd.prog.cellsOf t ∧ ∀ (i ty off m : Nat), (fs[i]?).map (fun f => (f.type, f.offset)) = some (ty, off) → Tryd.prog.cellsOf ty = m →
      ∃ y n, DataW.trod enc Tryd.prog W base spare held n ty ((cs.drop off).take m) = some y := by
  obtain ⟨xs, n, _, _, hl, hxs, hf⟩ := DataW.trod_struct ht h
  refine ⟨hl, fun i ty off m hi hm => ?_⟩
  obtain ⟨f, hi, he⟩ := Option.map_eq_some_iff.1 hi
  have hlt : i < fs.size := by
    rcases Nat.lt_or_ge i fs.size with h | h
    · exact h
    · rw [Array.getElem?_eq_none h] at hi; cases hi
  have h1 := hf i f hi
  rw [List.getElem?_eq_getElem (by omega)] at h1
  injection he with e1 e2
  subst e1
  subst e2
  subst hm
  exact ⟨_, n, h1⟩
theorem cells73 : Tryd.prog.cellsOf 73 = 4 := by kernel_rfl
theorem cells75_ : Tryd.prog.cellsOf 75 = 9 := by kernel_rfl
theorem cells98 : Tryd.prog.cellsOf 98 = 5 := by kernel_rfl
theorem cells70 : Tryd.prog.cellsOf 70 = 5 := by kernel_rfl
theorem cells28 : Tryd.prog.cellsOf 28 = 3 := by kernel_rfl
theorem cells3 : Tryd.prog.cellsOf 3 = 1 := by kernel_rfl
theorem cells2 : Tryd.prog.cellsOf 2 = 1 := by kernel_rfl
theorem cells71 : Tryd.prog.cellsOf 71 = 1 := by kernel_rfl
theorem cells9 : Tryd.prog.cellsOf 9 = 1 := by kernel_rfl
theorem cells4 : Tryd.prog.cellsOf 4 = 1 := by kernel_rfl
theorem cells40 : Tryd.prog.cellsOf 40 = 1 := by kernel_rfl
theorem cells67 : Tryd.prog.cellsOf 67 = 1 := by kernel_rfl
theorem cells68 : Tryd.prog.cellsOf 68 = 1 := by kernel_rfl
theorem cells26 : Tryd.prog.cellsOf 26 = 1 := by kernel_rfl
theorem wf_i {n : Int} (h : (Lit.int .i64 n).wf = true) : -9223372036854775808 ≤ n ∧ n < 9223372036854775808 := by
  simp [Lit.wf, IntKind.min, IntKind.max, IntKind.signed, IntKind.bits] at h
  omega
theorem wf_u {n : Int} (h : (Lit.int .u64 n).wf = true) : 0 ≤ n ∧ n < 18446744073709551616 := by
  simp [Lit.wf, IntKind.min, IntKind.max, IntKind.signed, IntKind.bits] at h
  omega
set_option maxRecDepth 100000 in
theorem opens73 : Opens k73 73 ValWf := by
  intro H enc W base spare held fuel cs x h
  obtain ⟨hl, hf⟩ := struct_get Tryd.underlying73 h
  rw [cells73] at hl
  obtain ⟨c0, c1, c2, c3, rfl⟩ : ∃ c0 c1 c2 c3, cs = [c0, c1, c2, c3] := by
    match cs, hl with
    | [c0, c1, c2, c3], _ => exact ⟨c0, c1, c2, c3, rfl⟩
  obtain ⟨y0, n0, h0⟩ := hf 0 3 0 1 rfl cells3
  obtain ⟨x0, hx0, w0⟩ := (opens_int Tryd.underlying3) H enc W base spare held n0 [c0] y0 h0
  obtain ⟨y1, n1, h1⟩ := hf 1 2 1 1 rfl cells2
  obtain ⟨x1, hx1, w1⟩ := (opens_int Tryd.underlying2) H enc W base spare held n1 [c1] y1 h1
  obtain ⟨y2, n2, h2⟩ := hf 2 71 2 1 rfl cells71
  obtain ⟨x2, hx2, w2⟩ := (opens_int Tryd.underlying71) H enc W base spare held n2 [c2] y2 h2
  obtain ⟨y3, n3, h3⟩ := hf 3 9 3 1 rfl cells9
  obtain ⟨x3, hx3, w3⟩ := (opens_string Tryd.underlying9) H enc W base spare held n3 [c3] y3 h3
  injection hx0 with e0
  injection hx1 with e1
  injection hx2 with e2
  injection hx3 with e3
  subst e0 e1 e2 e3
  exact ⟨⟨x0, x1, x2, x3⟩, k73_mk W ⟨x0, x1, x2, x3⟩, wf_u w2⟩
set_option maxRecDepth 100000 in
theorem opens75 : Opens k75 75 ColWf := by
  intro H enc W base spare held fuel cs x h
  obtain ⟨hl, hf⟩ := struct_get Tryd.underlying75 h
  rw [cells75_] at hl
  obtain ⟨c0, c1, c2, c3, c4, c5, c6, c7, c8, rfl⟩ : ∃ c0 c1 c2 c3 c4 c5 c6 c7 c8, cs = [c0, c1, c2, c3, c4, c5, c6, c7, c8] := by
    match cs, hl with
    | [c0, c1, c2, c3, c4, c5, c6, c7, c8], _ => exact ⟨c0, c1, c2, c3, c4, c5, c6, c7, c8, rfl⟩
  obtain ⟨y0, n0, h0⟩ := hf 0 3 0 1 rfl cells3
  obtain ⟨x0, hx0, w0⟩ := (opens_int Tryd.underlying3) H enc W base spare held n0 [c0] y0 h0
  obtain ⟨y1, n1, h1⟩ := hf 1 9 1 1 rfl cells9
  obtain ⟨x1, hx1, w1⟩ := (opens_string Tryd.underlying9) H enc W base spare held n1 [c1] y1 h1
  obtain ⟨y2, n2, h2⟩ := hf 2 3 2 1 rfl cells3
  obtain ⟨x2, hx2, w2⟩ := (opens_int Tryd.underlying3) H enc W base spare held n2 [c2] y2 h2
  obtain ⟨y3, n3, h3⟩ := hf 3 3 3 1 rfl cells3
  obtain ⟨x3, hx3, w3⟩ := (opens_int Tryd.underlying3) H enc W base spare held n3 [c3] y3 h3
  obtain ⟨y4, n4, h4⟩ := hf 4 3 4 1 rfl cells3
  obtain ⟨x4, hx4, w4⟩ := (opens_int Tryd.underlying3) H enc W base spare held n4 [c4] y4 h4
  obtain ⟨y5, n5, h5⟩ := hf 5 73 5 4 rfl cells73
  obtain ⟨x5, hx5, w5⟩ := opens73 H enc W base spare held n5 [c5, c6, c7, c8] y5 h5
  injection hx0 with e0
  injection hx1 with e1
  injection hx2 with e2
  injection hx3 with e3
  injection hx4 with e4
  have e5 := k73_open hx5
  subst e0 e1 e2 e3 e4
  refine ⟨⟨x0, x1, x2, x3, x4, x5⟩, ?_, (wf_i w0).1, (wf_i w0).2, w1, w5⟩
  have := k75_mk W ⟨x0, x1, x2, x3, x4, x5⟩
  rw [e5]
  exact this
theorem opens40 : Opens (Kd.slice 3 (Kd.int .i64)) 40 (fun _ => True) := (opens_slice Tryd.underlying40 (opens_int Tryd.underlying3) cells3).weak (fun _ _ => trivial)
set_option maxRecDepth 100000 in
theorem opens98 : Opens k98 98 IndWf := by
  intro H enc W base spare held fuel cs x h
  obtain ⟨hl, hf⟩ := struct_get Tryd.underlying98 h
  rw [cells98] at hl
  obtain ⟨c0, c1, c2, c3, c4, rfl⟩ : ∃ c0 c1 c2 c3 c4, cs = [c0, c1, c2, c3, c4] := by
    match cs, hl with
    | [c0, c1, c2, c3, c4], _ => exact ⟨c0, c1, c2, c3, c4, rfl⟩
  obtain ⟨y0, n0, h0⟩ := hf 0 3 0 1 rfl cells3
  obtain ⟨x0, hx0, w0⟩ := (opens_int Tryd.underlying3) H enc W base spare held n0 [c0] y0 h0
  obtain ⟨y1, n1, h1⟩ := hf 1 9 1 1 rfl cells9
  obtain ⟨x1, hx1, w1⟩ := (opens_string Tryd.underlying9) H enc W base spare held n1 [c1] y1 h1
  obtain ⟨y2, n2, h2⟩ := hf 2 40 2 1 rfl cells40
  obtain ⟨x2, hx2, w2⟩ := opens40 H enc W base spare held n2 [c2] y2 h2
  obtain ⟨y3, n3, h3⟩ := hf 3 4 3 1 rfl cells4
  obtain ⟨x3, hx3, w3⟩ := (opens_bool Tryd.underlying4) H enc W base spare held n3 [c3] y3 h3
  obtain ⟨y4, n4, h4⟩ := hf 4 3 4 1 rfl cells3
  obtain ⟨x4, hx4, w4⟩ := (opens_int Tryd.underlying3) H enc W base spare held n4 [c4] y4 h4
  injection hx0 with e0
  injection hx1 with e1
  injection hx3 with e3
  injection hx4 with e4
  obtain ⟨A2, c2', e2, l2, g2⟩ := hx2
  injection e2 with e2
  subst e0 e1 e2 e3 e4
  exact ⟨⟨x0, x1, x2, x3, x4⟩, k98_mk W ⟨x0, x1, x2, x3, x4⟩ l2 g2, (wf_i w0).1, (wf_i w0).2, w1⟩
theorem opens67 : Opens (Kd.slice 75 k75) 67 (fun l => ∀ c ∈ l, ColWf c) := opens_slice Tryd.underlying67 opens75 cells75_
theorem opens68 : Opens (Kd.slice 98 k98) 68 (fun l => ∀ c ∈ l, IndWf c) := opens_slice Tryd.underlying68 opens98 cells98
set_option maxRecDepth 100000 in
theorem opens70 : Opens k70 70 TabWf := by
  intro H enc W base spare held fuel cs x h
  obtain ⟨hl, hf⟩ := struct_get Tryd.underlying70 h
  rw [cells70] at hl
  obtain ⟨c0, c1, c2, c3, c4, rfl⟩ : ∃ c0 c1 c2 c3 c4, cs = [c0, c1, c2, c3, c4] := by
    match cs, hl with
    | [c0, c1, c2, c3, c4], _ => exact ⟨c0, c1, c2, c3, c4, rfl⟩
  obtain ⟨y0, n0, h0⟩ := hf 0 3 0 1 rfl cells3
  obtain ⟨x0, hx0, w0⟩ := (opens_int Tryd.underlying3) H enc W base spare held n0 [c0] y0 h0
  obtain ⟨y1, n1, h1⟩ := hf 1 9 1 1 rfl cells9
  obtain ⟨x1, hx1, w1⟩ := (opens_string Tryd.underlying9) H enc W base spare held n1 [c1] y1 h1
  obtain ⟨y2, n2, h2⟩ := hf 2 67 2 1 rfl cells67
  obtain ⟨x2, hx2, w2⟩ := opens67 H enc W base spare held n2 [c2] y2 h2
  obtain ⟨y3, n3, h3⟩ := hf 3 68 3 1 rfl cells68
  obtain ⟨x3, hx3, w3⟩ := opens68 H enc W base spare held n3 [c3] y3 h3
  obtain ⟨y4, n4, h4⟩ := hf 4 3 4 1 rfl cells3
  obtain ⟨x4, hx4, w4⟩ := (opens_int Tryd.underlying3) H enc W base spare held n4 [c4] y4 h4
  injection hx0 with e0
  injection hx1 with e1
  injection hx4 with e4
  obtain ⟨A2, c2', e2, l2, g2⟩ := hx2
  injection e2 with e2
  obtain ⟨A3, c3', e3, l3, g3⟩ := hx3
  injection e3 with e3
  subst e0 e1 e2 e3 e4
  exact ⟨⟨x0, x1, x2, x3, x4⟩, k70_mk W ⟨x0, x1, x2, x3, x4⟩ l2 g2 l3 g3, w1, w2, w3⟩
theorem opens26 : Opens (Kd.slice 70 k70) 26 (fun l => ∀ t ∈ l, TabWf t) := opens_slice Tryd.underlying26 opens70 cells70
set_option maxRecDepth 100000 in
theorem open_schema {H : Type} {enc : TypeId × Value → H} {W : World} {base : Nat} {spare : Nat → Bool} {held : Bool} {fuel : Nat} {cs : List Value} {x : DataW H × List MemPlace} (h : DataW.trod enc Tryd.prog W base spare held fuel 28 cs = some x) :
    ∃ (v : Int) (ts : List S70) (nx : Int) (A : Option Addr) (c : Nat), cs = [.int .i64 v, .slice A ts.length c, .int .i64 nx] ∧ ts.length ≤ c ∧ k70.C W A ts.length ts ∧ (∀ t ∈ ts, TabWf t) ∧ (-9223372036854775808 ≤ v ∧ v < 9223372036854775808) ∧ (-9223372036854775808 ≤ nx ∧ nx < 9223372036854775808) := by
  obtain ⟨hl, hf⟩ := struct_get Tryd.underlying28 h
  rw [cells28] at hl
  obtain ⟨c0, c1, c2, rfl⟩ : ∃ c0 c1 c2, cs = [c0, c1, c2] := by
    match cs, hl with
    | [a, b, c], _ => exact ⟨a, b, c, rfl⟩
  obtain ⟨y0, n0, h0⟩ := hf 0 3 0 1 rfl cells3
  obtain ⟨x0, hx0, w0⟩ := (opens_int Tryd.underlying3) H enc W base spare held n0 [c0] y0 h0
  obtain ⟨y1, n1, h1⟩ := hf 1 26 1 1 rfl cells26
  obtain ⟨x1, hx1, w1⟩ := opens26 H enc W base spare held n1 [c1] y1 h1
  obtain ⟨y2, n2, h2⟩ := hf 2 3 2 1 rfl cells3
  obtain ⟨x2, hx2, w2⟩ := (opens_int Tryd.underlying3) H enc W base spare held n2 [c2] y2 h2
  injection hx0 with e0
  injection hx2 with e2
  obtain ⟨A, c, e1, l1, g1⟩ := hx1
  injection e1 with e1
  subst e0 e1 e2
  exact ⟨x0, x1, x2, A, c, rfl, l1, g1, w1, wf_i w0, wf_i w2⟩
end Go.Proofs.YtjgomlcdmpcoaaaDoor.H
