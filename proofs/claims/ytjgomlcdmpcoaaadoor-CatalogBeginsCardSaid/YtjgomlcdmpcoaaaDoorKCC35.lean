/- Own texts of this session, packed by its program wip/pp/pack.py: lemmas and walks of functions. -/
import Derived.Test.YtjgomlcdmpcoaaaDoorKCC17
import Derived.Test.YtjgomlcdmpcoaaaDoorKCC25
import Derived.Test.YtjgomlcdmpcoaaaDoorKCC33
import Derived.Test.YtjgomlcdmpcoaaaDoorKCC34
namespace Go.Proofs.YtjgomlcdmpcoaaaDoor.H
open Go.RowKit Go.Proofs.YtjgomlcdmpcoaaaDoorW.PrintWords Go.Proofs.YtjgomlcdmpcoaaaDoorW.PrintLast Go.Proofs.YtjgomlcdmpcoaaaDoorW.PrintMore
open Go.Proofs.YtjgomlcdmpcoaaaDoor.D Go.Proofs.YtjgomlcdmpcoaaaDoor
set_option linter.unusedVariables false
section
variable (s : S45)
theorem gS3 (h : s.f6.length ≤ 100) : ∀ (m i k : Nat) (x : Int), i + m = s.f6.length → m + 1 < k → ∃ r, falseworklaw17_Great.l3 k x (i : Int) s.f0 s.f1 s.f2 s.f3 s.f4 s.f5 s.f6 s.f7 s.f8 s.f9 = some r
  | 0, i, k, x, hi, hk => by
    obtain ⟨k, rfl⟩ : ∃ k', k = k' + 1 + 1 := ⟨k - 2, by omega⟩
    rw [falseworklaw17_Great.l3, if_neg (by omega)]
    exact ⟨_, rfl⟩
  | m + 1, i, k, x, hi, hk => by
    obtain ⟨k, rfl⟩ : ∃ k', k = k' + 1 + 1 := ⟨k - 2, by omega⟩
    rw [falseworklaw17_Great.l3, if_pos (by omega)]
    by_cases hx : x ≤ 5000
    · rw [if_pos hx, if_pos (by omega), wrap_nat i (by omega)]
      exact gS3 h m (i + 1) (k + 1) _ (by omega) (by omega)
    · rw [if_neg hx]
      exact ⟨_, rfl⟩
theorem gS2 (h : s.f5.length ≤ 100) (h6 : s.f6.length ≤ 100) : ∀ (m i k : Nat) (x : Int), i + m = s.f5.length → m + 121 < k → ∃ r, falseworklaw17_Great.l2 k x (i : Int) s.f0 s.f1 s.f2 s.f3 s.f4 s.f5 s.f6 s.f7 s.f8 s.f9 = some r
  | 0, i, k, x, hi, hk => by
    obtain ⟨k, rfl⟩ : ∃ k', k = k' + 1 + 1 := ⟨k - 2, by omega⟩
    rw [falseworklaw17_Great.l2, if_neg (by omega)]
    rw [falseworklaw17_Great.j6]; exact gS3 s h6 _ 0 _ _ (Nat.zero_add _) (by omega)
  | m + 1, i, k, x, hi, hk => by
    obtain ⟨k, rfl⟩ : ∃ k', k = k' + 1 + 1 := ⟨k - 2, by omega⟩
    rw [falseworklaw17_Great.l2, if_pos (by omega)]
    by_cases hx : x ≤ 5000
    · rw [if_pos hx, if_pos (by omega), wrap_nat i (by omega)]
      exact gS2 h h6 m (i + 1) (k + 1) _ (by omega) (by omega)
    · rw [if_neg hx]
      rw [falseworklaw17_Great.j6]; exact gS3 s h6 _ 0 _ _ (Nat.zero_add _) (by omega)
theorem gS1 (h : s.f4.length ≤ 100) (h5 : s.f5.length ≤ 100) (h6 : s.f6.length ≤ 100) : ∀ (m i k : Nat) (x : Int), i + m = s.f4.length → m + 241 < k → ∃ r, falseworklaw17_Great.l1 k x (i : Int) s.f0 s.f1 s.f2 s.f3 s.f4 s.f5 s.f6 s.f7 s.f8 s.f9 = some r
  | 0, i, k, x, hi, hk => by
    obtain ⟨k, rfl⟩ : ∃ k', k = k' + 1 + 1 := ⟨k - 2, by omega⟩
    rw [falseworklaw17_Great.l1, if_neg (by omega)]
    rw [falseworklaw17_Great.j4]; exact gS2 s h5 h6 _ 0 _ _ (Nat.zero_add _) (by omega)
  | m + 1, i, k, x, hi, hk => by
    obtain ⟨k, rfl⟩ : ∃ k', k = k' + 1 + 1 := ⟨k - 2, by omega⟩
    rw [falseworklaw17_Great.l1, if_pos (by omega)]
    by_cases hx : x ≤ 5000
    · rw [if_pos hx, if_pos (by omega), wrap_nat i (by omega)]
      exact gS1 h h5 h6 m (i + 1) (k + 1) _ (by omega) (by omega)
    · rw [if_neg hx]
      rw [falseworklaw17_Great.j4]; exact gS2 s h5 h6 _ 0 _ _ (Nat.zero_add _) (by omega)
theorem gS0 (h : s.f3.length ≤ 100) (h4 : s.f4.length ≤ 100) (h5 : s.f5.length ≤ 100) (h6 : s.f6.length ≤ 100) : ∀ (m i k : Nat) (x : Int), i + m = s.f3.length → m + 361 < k → ∃ r, falseworklaw17_Great.l0 k x (i : Int) s.f0 s.f1 s.f2 s.f3 s.f4 s.f5 s.f6 s.f7 s.f8 s.f9 = some r
  | 0, i, k, x, hi, hk => by
    obtain ⟨k, rfl⟩ : ∃ k', k = k' + 1 + 1 := ⟨k - 2, by omega⟩
    rw [falseworklaw17_Great.l0, if_neg (by omega)]
    rw [falseworklaw17_Great.j2]; exact gS1 s h4 h5 h6 _ 0 _ _ (Nat.zero_add _) (by omega)
  | m + 1, i, k, x, hi, hk => by
    obtain ⟨k, rfl⟩ : ∃ k', k = k' + 1 + 1 := ⟨k - 2, by omega⟩
    rw [falseworklaw17_Great.l0, if_pos (by omega)]
    by_cases hx : x ≤ 5000
    · rw [if_pos hx, if_pos (by omega), wrap_nat i (by omega)]
      exact gS0 h h4 h5 h6 m (i + 1) (k + 1) _ (by omega) (by omega)
    · rw [if_neg hx]
      rw [falseworklaw17_Great.j2]; exact gS1 s h4 h5 h6 _ 0 _ _ (Nat.zero_add _) (by omega)
theorem great17_tells : ∃ r, falseworklaw17_Great.f 1000 s.f0 s.f1 s.f2 s.f3 s.f4 s.f5 s.f6 s.f7 s.f8 s.f9 = some r ∧ (r = false → s.f3.length ≤ 100 ∧ s.f4.length ≤ 100 ∧ s.f9.length ≤ 100) := by
  have hj : ∀ b, falseworklaw17_Great.j0 1000 b s.f0 s.f1 s.f2 s.f3 s.f4 s.f5 s.f6 s.f7 s.f8 s.f9 = if b = true then some true else falseworklaw17_Great.l0 999 0 0 s.f0 s.f1 s.f2 s.f3 s.f4 s.f5 s.f6 s.f7 s.f8 s.f9 := fun b => by rw [falseworklaw17_Great.j0]
  unfold falseworklaw17_Great.f
  simp only [hj]
  by_cases h1 : (s.f1.size : Int) > 1000
  · rw [if_pos h1]; exact ⟨true, by simp, fun h => absurd h (by simp)⟩
  rw [if_neg h1]
  by_cases h2 : (s.f2.size : Int) > 1000
  · rw [if_pos h2]; exact ⟨true, by simp, fun h => absurd h (by simp)⟩
  rw [if_neg h2]
  by_cases h3 : (s.f3.length : Int) > 100
  · rw [if_pos h3]; exact ⟨true, by simp, fun h => absurd h (by simp)⟩
  rw [if_neg h3]
  by_cases h4 : (s.f4.length : Int) > 100
  · rw [if_pos h4]; exact ⟨true, by simp, fun h => absurd h (by simp)⟩
  rw [if_neg h4]
  by_cases h5 : (s.f5.length : Int) > 100
  · rw [if_pos h5]; exact ⟨true, by simp, fun h => absurd h (by simp)⟩
  rw [if_neg h5]
  by_cases h6 : (s.f6.length : Int) > 100
  · rw [if_pos h6]; exact ⟨true, by simp, fun h => absurd h (by simp)⟩
  rw [if_neg h6]
  by_cases h9 : (s.f9.length : Int) > 100
  · rw [decide_eq_true h9]; exact ⟨true, by simp, fun h => absurd h (by simp)⟩
  rw [decide_eq_false h9, if_neg (by simp)]
  obtain ⟨r, hr⟩ := gS0 s (by omega) (by omega) (by omega) (by omega) s.f3.length 0 999 0 (Nat.zero_add _) (by omega)
  exact ⟨r, hr, fun _ => ⟨by omega, by omega, by omega⟩⟩
end
theorem great17_calls (s : S45) (hw : StmtWf s) : ∃ g : Bool, (g = false → StmtOk s) ∧ ∀ (cs : List Value) (w : World), k45.K w s cs → Calls Tryd.prog 46 #[.agg cs.toArray] w fun e w' => e = .returned (.bool g) ∧ Below w.heap.size w w' := by
  obtain ⟨g, hg, hb⟩ := great17_tells s
  refine ⟨g, fun h => ⟨(hb h).1, (hb h).2.1, (hb h).2.2, hw.2.1, hw.1, hw.2.2⟩, fun cs w hs => ?_⟩
  obtain ⟨A3, c3, A4, c4, A5, c5, A6, c6, A9, c9, rfl, l3, g3, l4, g4, l5, g5, l6, g6, l9, g9⟩ := k45_open hs
  exact falseworklaw17_Great.calls 1000 _ _ _ _ _ _ _ _ _ _ _ _ _ _ _ _ _ _ _ _ g w g3 l3 g4 l4 g5 l5 g6 l6 g9 l9 hg
end Go.Proofs.YtjgomlcdmpcoaaaDoor.H
namespace Go.Proofs.YtjgomlcdmpcoaaaDoor.H
open Go.RowKit Go.Proofs.YtjgomlcdmpcoaaaDoorW.PrintWords Go.Proofs.YtjgomlcdmpcoaaaDoorW.PrintLast Go.Proofs.YtjgomlcdmpcoaaaDoorW.PrintMore
open Go.Proofs.YtjgomlcdmpcoaaaDoor.D Go.Proofs.YtjgomlcdmpcoaaaDoor
set_option linter.unusedVariables false
set_option linter.unusedSimpArgs false
set_option maxRecDepth 100000 in
set_option maxHeartbeats 8000000 in
theorem ccreates_calls (v : Int) (ts : List S70) (nx : Int) (s : S45) (hwf : ∀ t ∈ ts, TabWf t) (hv64 : -9223372036854775808 ≤ v ∧ v < 9223372036854775808) (A : Option Addr) (c : Nat) (w : World) (hG : GL w) (hc : ts.length ≤ c) (hC : k70.C w A ts.length ts) (cs : List Value) (hs : k45.K w s cs) (hsw : StmtWf s) :
    Calls Tryd.prog 15 #[.agg #[.int .i64 v, .slice A ts.length c, .int .i64 nx], .agg cs.toArray] w fun e w' => e = .returned (.bool true) ∧ Below w.heap.size w w' := by
  obtain ⟨gb, hgs, hgb⟩ := great3_calls v ts nx
  obtain ⟨g2, hg2s, hg2⟩ := great17_calls s hsw
  obtain ⟨A3, c3, A4, c4, A5, c5, A6, c6, A9, c9, rfl, -⟩ := k45_open hs
  obtain ⟨w0, hw0⟩ : ∃ w0, w0 = (w.alloc (.cells #[.int .i64 v, .slice A ts.length c, .int .i64 nx] 28)).alloc (.cells #[.int .i64 s.f0, .string s.f1, .string s.f2, .slice A3 s.f3.length c3, .slice A4 s.f4.length c4, .slice A5 s.f5.length c5, .slice A6 s.f6.length c6, .bool s.f7, .int .i64 s.f8, .slice A9 s.f9.length c9] 45) := ⟨_, rfl⟩
  have hb0 : Below w.heap.size w w0 := by rw [hw0]; exact below_alloc (below_alloc (Below.refl _ _) _) _
  have hx0 : BoxS w0 w.heap.size v A c ts nx := ⟨by rw [hw0]; exact blk_alloc (heap_alloc_new w _) _, hc, Kd.C_below hC hb0⟩
  have hy0 : w0.heap[w.heap.size + 1]? = some (.cells #[.int .i64 s.f0, .string s.f1, .string s.f2, .slice A3 s.f3.length c3, .slice A4 s.f4.length c4, .slice A5 s.f5.length c5, .slice A6 s.f6.length c6, .bool s.f7, .int .i64 s.f8, .slice A9 s.f9.length c9] 45 (0, 0)) := by
    have := heap_alloc_new (w.alloc (.cells #[.int .i64 v, .slice A ts.length c, .int .i64 nx] 28)) (.cells #[.int .i64 s.f0, .string s.f1, .string s.f2, .slice A3 s.f3.length c3, .slice A4 s.f4.length c4, .slice A5 s.f5.length c5, .slice A6 s.f6.length c6, .bool s.f7, .int .i64 s.f8, .slice A9 s.f9.length c9] 45)
    rw [hw0]
    simpa using this
  have HGR := Lib.hid (hgb A c w0 hc hx0.C)
  have HG2 := Lib.hid (fun W (hb : Below w.heap.size w W) => hg2 _ W (k45.K_below hb hs))
  have HX0 := Aside0.mk hx0
  have HY0 := Aside0.mk hy0
  have HB0 := Aside0.mk hb0
  have HW0 := Lib.hid hw0
  have HG := Aside0.mk hG
  have HSK := Lib.hid (fun W (hb : Below w.heap.size w W) => k45.K_below hb hs)
  have HWF := Lib.hid hwf
  have HVW := Lib.hid (fun t ht c hc => ((hwf t ht).2.1 c hc).2.2.2 : ∀ t ∈ ts, ∀ c ∈ t.f2, ValWf c.f5)
  have HS1 := Lib.hid hgs
  have HS2 := Lib.hid hg2s
  have HAW := Lib.hid (fun W (hb : Below w.heap.size w W) => awake19_calls W (HG.out.of_below hb))
  have q0 := hx0.c0
  have q1 := hx0.c1
  have q2 := hx0.c2
  rw [hw0] at HGR q0 q1 q2
  clear hb0 hx0 hy0 hgb hg2 hgs hg2s hC hG hwf hw0 hs
  cases gb with
  | true =>
    go_enter Tryd.func15, Tryd.ntmps15
    go_wp2_with fail
    refine HGR.out.mono ?_
    rw [← HW0.out]
    rintro e w1 ⟨rfl, hb1⟩
    have HB1 := Aside0.mk (below_then HB0.out HB0.out.size hb1)
    clear hb1
    go_wp2_with fail
    all_goals
      refine (HAW.out _ HB1.out).mono ?_
      rintro e w2 ⟨rfl, hb2⟩
      have HB2 := Aside0.mk (below_then HB1.out HB1.out.size hb2)
      clear hb2
      go_wp2
      go_ret
      exact ⟨rfl, HB2.out⟩
  | false =>
  go_enter Tryd.func15, Tryd.ntmps15
  go_wp2_with fail
  refine HGR.out.mono ?_
  rw [← HW0.out]
  rintro e w1 ⟨rfl, hb1⟩
  have HB1 := Aside0.mk (below_then HB0.out HB0.out.size hb1)
  have HX1 := Aside0.mk (HX0.out.step hb1)
  have hy1 := blk_below HY0.out hb1
  have HY1 := Aside0.mk hy1
  have s0 := blk_cell (j := 0) (v := .int .i64 s.f0) hy1 rfl
  have s1 := blk_cell (j := 1) (v := .string s.f1) hy1 rfl
  have s2 := blk_cell (j := 2) (v := .string s.f2) hy1 rfl
  have s3 := blk_cell (j := 3) (v := .slice A3 s.f3.length c3) hy1 rfl
  have s4 := blk_cell (j := 4) (v := .slice A4 s.f4.length c4) hy1 rfl
  have s5 := blk_cell (j := 5) (v := .slice A5 s.f5.length c5) hy1 rfl
  have s6 := blk_cell (j := 6) (v := .slice A6 s.f6.length c6) hy1 rfl
  have s7 := blk_cell (j := 7) (v := .bool s.f7) hy1 rfl
  have s8 := blk_cell (j := 8) (v := .int .i64 s.f8) hy1 rfl
  have s9 := blk_cell (j := 9) (v := .slice A9 s.f9.length c9) hy1 rfl
  clear hb1 hy1 HGR HX0 HY0 HB0 q0 q1 q2
  go_wp2_with fail
  refine (HG2.out _ HB1.out).mono ?_
  rintro e w2 ⟨rfl, hb2⟩
  have HB2 := Aside0.mk (below_then HB1.out HB1.out.size hb2)
  have HX2 := Aside0.mk (HX1.out.step hb2)
  have HY2 := Aside0.mk (blk_below HY1.out hb2)
  clear hb2 HX1 HY1 HB1
  clear s0 s1 s2 s3 s4 s5 s6 s7 s8 s9
  cases g2 with
  | true =>
    go_wp2_with fail
    refine (HAW.out _ HB2.out).mono ?_
    rintro e w3 ⟨rfl, hb3⟩
    have HB3 := Aside0.mk (below_then HB2.out HB2.out.size hb3)
    clear hb3
    go_wp2
    go_ret
    exact ⟨rfl, HB3.out⟩
  | false =>
  have hsm := HS1.out (by simp)
  have HOK := Lib.hid (HS2.out (by simp))
  have x0 := HX2.out.c0
  have x1 := HX2.out.c1
  have x2 := HX2.out.c2
  go_wp2_with fail
  refine (copy_calls v ts nx hsm A c w2 hc HX2.out.C).mono ?_
  rintro e w3 ⟨u, rfl, hS3, hb3⟩
  obtain ⟨Au, cu, rfl, lcu, hCu⟩ := Kd.S_reads hS3
  have hX3 := HX2.out.step hb3
  have hY3 := blk_below HY2.out hb3
  have HB3 := Aside0.mk (below_alloc (below_then HB2.out HB2.out.size hb3) (.cells #[.int .i64 v, .slice Au ts.length cu, .int .i64 nx] 28))
  have HX3 := Aside0.mk (hX3.step (below_alloc (Below.refl _ _) (.cells #[.int .i64 v, .slice Au ts.length cu, .int .i64 nx] 28)))
  have HY3 := Aside0.mk (blk_alloc hY3 (.cells #[.int .i64 v, .slice Au ts.length cu, .int .i64 nx] 28))
  have HU3 := Aside0.mk (BoxS.new lcu hCu v nx)
  have hl1 := lt_of_block hX3.box
  have hl2 := lt_of_block hY3
  clear x0 x1 x2
  have x0 := hX3.c0
  have x1 := hX3.c1
  have x2 := hX3.c2
  have s0 := blk_cell (j := 0) (v := .int .i64 s.f0) hY3 rfl
  have s1 := blk_cell (j := 1) (v := .string s.f1) hY3 rfl
  have s2 := blk_cell (j := 2) (v := .string s.f2) hY3 rfl
  have s3 := blk_cell (j := 3) (v := .slice A3 s.f3.length c3) hY3 rfl
  have s4 := blk_cell (j := 4) (v := .slice A4 s.f4.length c4) hY3 rfl
  have s5 := blk_cell (j := 5) (v := .slice A5 s.f5.length c5) hY3 rfl
  have s6 := blk_cell (j := 6) (v := .slice A6 s.f6.length c6) hY3 rfl
  have s7 := blk_cell (j := 7) (v := .bool s.f7) hY3 rfl
  have s8 := blk_cell (j := 8) (v := .int .i64 s.f8) hY3 rfl
  have s9 := blk_cell (j := 9) (v := .slice A9 s.f9.length c9) hY3 rfl
  clear hb3 hS3 hCu hX3 hY3 HX2 HY2 HB2
  obtain ⟨R, hR⟩ : ∃ R, createP v ts nx s = R := ⟨_, rfl⟩
  have H1 := Lib.hid (fun W (hb : Below w.heap.size w W) hC => createG_calls v ts nx s HWF.out hv64 A c W (HG.out.of_below hb) hc hC _ (HSK.out W hb) HOK.out)
  have H2 := Lib.hid (fun W (hb : Below w.heap.size w W) hC => create_calls v ts nx s (by have := hsm.1; omega) HVW.out A c W hc hC _ (HSK.out W hb) HOK.out)
  rw [hR] at H1 H2
  clear hR
  go_wp2_with fail
  refine (H1.out _ HB3.out HX3.out.C).mono ?_
  rintro e w4 ⟨A4', c4', rfl, hrow4, hb4⟩
  obtain ⟨-, hl4, hC4⟩ := Kd.R_reads' hrow4
  have hX4 := HX3.out.step hb4
  have hY4 := blk_below HY3.out hb4
  have HB4 := Aside0.mk (below_alloc (below_then HB3.out HB3.out.size hb4) (.cells #[.int .i64 R.v, .slice A4' R.ts.length c4', .int .i64 R.nx] 28))
  have HX4 := Aside0.mk (hX4.step (below_alloc (Below.refl _ _) (.cells #[.int .i64 R.v, .slice A4' R.ts.length c4', .int .i64 R.nx] 28)))
  have HY4 := Aside0.mk (blk_alloc hY4 (.cells #[.int .i64 R.v, .slice A4' R.ts.length c4', .int .i64 R.nx] 28))
  have HU4 := Aside0.mk ((HU3.out.step hb4).step (below_alloc (Below.refl _ _) (.cells #[.int .i64 R.v, .slice A4' R.ts.length c4', .int .i64 R.nx] 28)))
  have HP4 := Aside0.mk (BoxS.new hl4 hC4 R.v R.nx)
  have hl1' := lt_of_block hX4.box
  have hl2' := lt_of_block hY4
  clear x0 x1 x2
  clear s0 s1 s2 s3 s4 s5 s6 s7 s8 s9
  have x0 := hX4.c0
  have x1 := hX4.c1
  have x2 := hX4.c2
  have s0 := blk_cell (j := 0) (v := .int .i64 s.f0) hY4 rfl
  have s1 := blk_cell (j := 1) (v := .string s.f1) hY4 rfl
  have s2 := blk_cell (j := 2) (v := .string s.f2) hY4 rfl
  have s3 := blk_cell (j := 3) (v := .slice A3 s.f3.length c3) hY4 rfl
  have s4 := blk_cell (j := 4) (v := .slice A4 s.f4.length c4) hY4 rfl
  have s5 := blk_cell (j := 5) (v := .slice A5 s.f5.length c5) hY4 rfl
  have s6 := blk_cell (j := 6) (v := .slice A6 s.f6.length c6) hY4 rfl
  have s7 := blk_cell (j := 7) (v := .bool s.f7) hY4 rfl
  have s8 := blk_cell (j := 8) (v := .int .i64 s.f8) hY4 rfl
  have s9 := blk_cell (j := 9) (v := .slice A9 s.f9.length c9) hY4 rfl
  clear hb4 hrow4 hl4 hC4 hX4 hY4 H1 HX3 HY3 HU3 HB3
  go_wp2_with fail
  refine (H2.out _ HB4.out HX4.out.C).mono ?_
  rintro e w5 ⟨A5', c5', rfl, hrow5, hb5⟩
  obtain ⟨-, hl5, hC5⟩ := Kd.R_reads' hrow5
  have hU5 := HU4.out.step hb5
  have hP5 := HP4.out.step hb5
  have hX5 := HX4.out.step hb5
  have HB5 := Aside0.mk (below_alloc (below_then HB4.out HB4.out.size hb5) (.cells #[.int .i64 R.v, .slice A5' R.ts.length c5', .int .i64 R.nx] 28))
  have HX5 := Aside0.mk (hX5.step (below_alloc (Below.refl _ _) (.cells #[.int .i64 R.v, .slice A5' R.ts.length c5', .int .i64 R.nx] 28)))
  have HU5 := Aside0.mk (hU5.step (below_alloc (Below.refl _ _) (.cells #[.int .i64 R.v, .slice A5' R.ts.length c5', .int .i64 R.nx] 28)))
  have HP5 := Aside0.mk (hP5.step (below_alloc (Below.refl _ _) (.cells #[.int .i64 R.v, .slice A5' R.ts.length c5', .int .i64 R.nx] 28)))
  have HQ5 := Aside0.mk (BoxS.new hl5 hC5 R.v R.nx)
  have hl3' := lt_of_block hP5.box
  clear x0 x1 x2
  clear s0 s1 s2 s3 s4 s5 s6 s7 s8 s9
  have y0 := hP5.c0
  have y1 := hP5.c1
  have y2 := hP5.c2
  clear hb5 hrow5 hl5 hC5 hU5 hP5 hX5 H2 HX4 HY4 HU4 HP4 HB4
  have HSE := Lib.hid (same_eq R.v R.nx R.ts A4' A5' c4' c5' _ HP5.out.C HQ5.out.C)
  go_wp2_with fail
  refine HSE.out.mono ?_
  rintro e w6 ⟨rfl, hb6⟩
  have HB6 := Aside0.mk (below_then HB5.out HB5.out.size hb6)
  have HX6 := Aside0.mk (HX5.out.step hb6)
  have HU6 := Aside0.mk (HU5.out.step hb6)
  clear hb6 y0 y1 y2 HSE HX5 HU5 HP5 HQ5 HB5
  have x0 := HX6.out.c0
  have x1 := HX6.out.c1
  have x2 := HX6.out.c2
  have u0 := HU6.out.c0
  have u1 := HU6.out.c1
  have u2 := HU6.out.c2
  have HSE := Lib.hid (same_eq v nx ts A Au c cu w6 HX6.out.C HU6.out.C)
  have hrr : (R.err == R.err) = true := by simp
  have hrt : (R.table == R.table) = true := by simp
  have hre : (R.elem == R.elem) = true := by simp
  go_wp2_with (go_at_call 50; refine (num19_calls _ _).mono ?_; rintro e w' ⟨rfl, rfl⟩)
  refine HSE.out.mono ?_
  rintro e w7 ⟨rfl, hb7⟩
  have HB7 := Aside0.mk (below_then HB6.out HB6.out.size hb7)
  clear hb7 x0 x1 x2 u0 u1 u2 HSE
  go_wp2_with fail
  refine (HAW.out _ HB7.out).mono ?_
  rintro e w8 ⟨rfl, hb8⟩
  have HB8 := Aside0.mk (below_then HB7.out HB7.out.size hb8)
  clear hb8
  go_wp2
  go_ret
  exact ⟨rfl, HB8.out⟩
end Go.Proofs.YtjgomlcdmpcoaaaDoor.H
namespace Go.Proofs.YtjgomlcdmpcoaaaDoor.H
open Go.RowKit Go.Proofs.YtjgomlcdmpcoaaaDoorW.PrintWords Go.Proofs.YtjgomlcdmpcoaaaDoorW.PrintLast Go.Proofs.YtjgomlcdmpcoaaaDoorW.PrintMore
open Go.Proofs.YtjgomlcdmpcoaaaDoor.D Go.Proofs.YtjgomlcdmpcoaaaDoor
set_option linter.unusedVariables false
set_option linter.unusedSimpArgs false
theorem rbegin_calls (v : Int) (ts : List S70) (nx : Int) (s : S45) (hn : ts.length < 1000) (hw : ∀ t ∈ ts, ∀ c ∈ t.f2, ValWf c.f5)
    (A : Option Addr) (c : Nat) (w : World) (hc : ts.length ≤ c) (g2 : k70.C w A ts.length ts) (cs : List Value) (hs : k45.K w s cs) (hok : StmtOk s) :
    Calls Tryd.prog 30 #[.agg #[.int .i64 v, .slice A ts.length c, .int .i64 nx], .agg cs.toArray] w (Tells w (beginP (stepF s.f0) v ts nx s)) := by
  unfold stepF
  by_cases h6 : s.f0 = 6
  · rw [if_pos h6]
    exact begin_of 62 _ addIndex_upd v ts nx s (.inl ⟨h6, rfl⟩) hn hw A c w hc g2 cs hs hok
  · rw [if_neg h6]
    by_cases h8 : s.f0 = 8
    · rw [if_pos h8]
      exact begin_of 63 _ addColumn_upd v ts nx s (.inr (.inl ⟨h8, rfl⟩)) hn hw A c w hc g2 cs hs hok
    · rw [if_neg h8]
      exact begin_of 64 _ drop_upd v ts nx s (.inr (.inr ⟨h6, h8, rfl⟩)) hn hw A c w hc g2 cs hs hok
set_option maxRecDepth 100000 in
set_option maxHeartbeats 8000000 in
theorem cbegins_calls (v : Int) (ts : List S70) (nx : Int) (s : S45) (hwf : ∀ t ∈ ts, TabWf t) (hv64 : -9223372036854775808 ≤ v ∧ v < 9223372036854775808) (A : Option Addr) (c : Nat) (w : World) (hG : GL w) (hc : ts.length ≤ c) (hC : k70.C w A ts.length ts) (cs : List Value) (hs : k45.K w s cs) (hsw : StmtWf s) :
    Calls Tryd.prog 16 #[.agg #[.int .i64 v, .slice A ts.length c, .int .i64 nx], .agg cs.toArray] w fun e w' => e = .returned (.bool true) ∧ Below w.heap.size w w' := by
  obtain ⟨gb, hgs, hgb⟩ := great3_calls v ts nx
  obtain ⟨g2, hg2s, hg2⟩ := great17_calls s hsw
  obtain ⟨A3, c3, A4, c4, A5, c5, A6, c6, A9, c9, rfl, -⟩ := k45_open hs
  obtain ⟨w0, hw0⟩ : ∃ w0, w0 = (w.alloc (.cells #[.int .i64 v, .slice A ts.length c, .int .i64 nx] 28)).alloc (.cells #[.int .i64 s.f0, .string s.f1, .string s.f2, .slice A3 s.f3.length c3, .slice A4 s.f4.length c4, .slice A5 s.f5.length c5, .slice A6 s.f6.length c6, .bool s.f7, .int .i64 s.f8, .slice A9 s.f9.length c9] 45) := ⟨_, rfl⟩
  have hb0 : Below w.heap.size w w0 := by rw [hw0]; exact below_alloc (below_alloc (Below.refl _ _) _) _
  have hx0 : BoxS w0 w.heap.size v A c ts nx := ⟨by rw [hw0]; exact blk_alloc (heap_alloc_new w _) _, hc, Kd.C_below hC hb0⟩
  have hy0 : w0.heap[w.heap.size + 1]? = some (.cells #[.int .i64 s.f0, .string s.f1, .string s.f2, .slice A3 s.f3.length c3, .slice A4 s.f4.length c4, .slice A5 s.f5.length c5, .slice A6 s.f6.length c6, .bool s.f7, .int .i64 s.f8, .slice A9 s.f9.length c9] 45 (0, 0)) := by
    have := heap_alloc_new (w.alloc (.cells #[.int .i64 v, .slice A ts.length c, .int .i64 nx] 28)) (.cells #[.int .i64 s.f0, .string s.f1, .string s.f2, .slice A3 s.f3.length c3, .slice A4 s.f4.length c4, .slice A5 s.f5.length c5, .slice A6 s.f6.length c6, .bool s.f7, .int .i64 s.f8, .slice A9 s.f9.length c9] 45)
    rw [hw0]
    simpa using this
  have HGR := Lib.hid (hgb A c w0 hc hx0.C)
  have HG2 := Lib.hid (fun W (hb : Below w.heap.size w W) => hg2 _ W (k45.K_below hb hs))
  have HX0 := Aside0.mk hx0
  have HY0 := Aside0.mk hy0
  have HB0 := Aside0.mk hb0
  have HW0 := Lib.hid hw0
  have HG := Aside0.mk hG
  have HSK := Lib.hid (fun W (hb : Below w.heap.size w W) => k45.K_below hb hs)
  have HWF := Lib.hid hwf
  have HVW := Lib.hid (fun t ht c hc => ((hwf t ht).2.1 c hc).2.2.2 : ∀ t ∈ ts, ∀ c ∈ t.f2, ValWf c.f5)
  have HS1 := Lib.hid hgs
  have HS2 := Lib.hid hg2s
  have HAW := Lib.hid (fun W (hb : Below w.heap.size w W) => awake19_calls W (HG.out.of_below hb))
  have q0 := hx0.c0
  have q1 := hx0.c1
  have q2 := hx0.c2
  rw [hw0] at HGR q0 q1 q2
  clear hb0 hx0 hy0 hgb hg2 hgs hg2s hC hG hwf hw0 hs
  cases gb with
  | true =>
    go_enter Tryd.func16, Tryd.ntmps16
    go_wp2_with fail
    refine HGR.out.mono ?_
    rw [← HW0.out]
    rintro e w1 ⟨rfl, hb1⟩
    have HB1 := Aside0.mk (below_then HB0.out HB0.out.size hb1)
    clear hb1
    go_wp2_with fail
    all_goals
      refine (HAW.out _ HB1.out).mono ?_
      rintro e w2 ⟨rfl, hb2⟩
      have HB2 := Aside0.mk (below_then HB1.out HB1.out.size hb2)
      clear hb2
      go_wp2
      go_ret
      exact ⟨rfl, HB2.out⟩
  | false =>
  go_enter Tryd.func16, Tryd.ntmps16
  go_wp2_with fail
  refine HGR.out.mono ?_
  rw [← HW0.out]
  rintro e w1 ⟨rfl, hb1⟩
  have HB1 := Aside0.mk (below_then HB0.out HB0.out.size hb1)
  have HX1 := Aside0.mk (HX0.out.step hb1)
  have hy1 := blk_below HY0.out hb1
  have HY1 := Aside0.mk hy1
  have s0 := blk_cell (j := 0) (v := .int .i64 s.f0) hy1 rfl
  have s1 := blk_cell (j := 1) (v := .string s.f1) hy1 rfl
  have s2 := blk_cell (j := 2) (v := .string s.f2) hy1 rfl
  have s3 := blk_cell (j := 3) (v := .slice A3 s.f3.length c3) hy1 rfl
  have s4 := blk_cell (j := 4) (v := .slice A4 s.f4.length c4) hy1 rfl
  have s5 := blk_cell (j := 5) (v := .slice A5 s.f5.length c5) hy1 rfl
  have s6 := blk_cell (j := 6) (v := .slice A6 s.f6.length c6) hy1 rfl
  have s7 := blk_cell (j := 7) (v := .bool s.f7) hy1 rfl
  have s8 := blk_cell (j := 8) (v := .int .i64 s.f8) hy1 rfl
  have s9 := blk_cell (j := 9) (v := .slice A9 s.f9.length c9) hy1 rfl
  clear hb1 hy1 HGR HX0 HY0 HB0 q0 q1 q2
  go_wp2_with fail
  refine (HG2.out _ HB1.out).mono ?_
  rintro e w2 ⟨rfl, hb2⟩
  have HB2 := Aside0.mk (below_then HB1.out HB1.out.size hb2)
  have HX2 := Aside0.mk (HX1.out.step hb2)
  have HY2 := Aside0.mk (blk_below HY1.out hb2)
  clear hb2 HX1 HY1 HB1
  clear s0 s1 s2 s3 s4 s5 s6 s7 s8 s9
  cases g2 with
  | true =>
    go_wp2_with fail
    refine (HAW.out _ HB2.out).mono ?_
    rintro e w3 ⟨rfl, hb3⟩
    have HB3 := Aside0.mk (below_then HB2.out HB2.out.size hb3)
    clear hb3
    go_wp2
    go_ret
    exact ⟨rfl, HB3.out⟩
  | false =>
  have hsm := HS1.out (by simp)
  have HOK := Lib.hid (HS2.out (by simp))
  have x0 := HX2.out.c0
  have x1 := HX2.out.c1
  have x2 := HX2.out.c2
  go_wp2_with fail
  refine (copy_calls v ts nx hsm A c w2 hc HX2.out.C).mono ?_
  rintro e w3 ⟨u, rfl, hS3, hb3⟩
  obtain ⟨Au, cu, rfl, lcu, hCu⟩ := Kd.S_reads hS3
  have hX3 := HX2.out.step hb3
  have hY3 := blk_below HY2.out hb3
  have HB3 := Aside0.mk (below_alloc (below_then HB2.out HB2.out.size hb3) (.cells #[.int .i64 v, .slice Au ts.length cu, .int .i64 nx] 28))
  have HX3 := Aside0.mk (hX3.step (below_alloc (Below.refl _ _) (.cells #[.int .i64 v, .slice Au ts.length cu, .int .i64 nx] 28)))
  have HY3 := Aside0.mk (blk_alloc hY3 (.cells #[.int .i64 v, .slice Au ts.length cu, .int .i64 nx] 28))
  have HU3 := Aside0.mk (BoxS.new lcu hCu v nx)
  have hl1 := lt_of_block hX3.box
  have hl2 := lt_of_block hY3
  clear x0 x1 x2
  have x0 := hX3.c0
  have x1 := hX3.c1
  have x2 := hX3.c2
  have s0 := blk_cell (j := 0) (v := .int .i64 s.f0) hY3 rfl
  have s1 := blk_cell (j := 1) (v := .string s.f1) hY3 rfl
  have s2 := blk_cell (j := 2) (v := .string s.f2) hY3 rfl
  have s3 := blk_cell (j := 3) (v := .slice A3 s.f3.length c3) hY3 rfl
  have s4 := blk_cell (j := 4) (v := .slice A4 s.f4.length c4) hY3 rfl
  have s5 := blk_cell (j := 5) (v := .slice A5 s.f5.length c5) hY3 rfl
  have s6 := blk_cell (j := 6) (v := .slice A6 s.f6.length c6) hY3 rfl
  have s7 := blk_cell (j := 7) (v := .bool s.f7) hY3 rfl
  have s8 := blk_cell (j := 8) (v := .int .i64 s.f8) hY3 rfl
  have s9 := blk_cell (j := 9) (v := .slice A9 s.f9.length c9) hY3 rfl
  clear hb3 hS3 hCu hX3 hY3 HX2 HY2 HB2
  obtain ⟨R, hR⟩ : ∃ R, beginP (stepF s.f0) v ts nx s = R := ⟨_, rfl⟩
  have H1 := Lib.hid (fun W (hb : Below w.heap.size w W) hC => beginG_calls v ts nx s HWF.out hv64 A c W (HG.out.of_below hb) hc hC _ (HSK.out W hb) HOK.out)
  have H2 := Lib.hid (fun W (hb : Below w.heap.size w W) hC => rbegin_calls v ts nx s (by have := hsm.1; omega) HVW.out A c W hc hC _ (HSK.out W hb) HOK.out)
  rw [hR] at H1 H2
  clear hR
  go_wp2_with fail
  refine (H1.out _ HB3.out HX3.out.C).mono ?_
  rintro e w4 ⟨A4', c4', rfl, hrow4, hb4⟩
  obtain ⟨-, hl4, hC4⟩ := Kd.R_reads' hrow4
  have hX4 := HX3.out.step hb4
  have hY4 := blk_below HY3.out hb4
  have HB4 := Aside0.mk (below_alloc (below_then HB3.out HB3.out.size hb4) (.cells #[.int .i64 R.v, .slice A4' R.ts.length c4', .int .i64 R.nx] 28))
  have HX4 := Aside0.mk (hX4.step (below_alloc (Below.refl _ _) (.cells #[.int .i64 R.v, .slice A4' R.ts.length c4', .int .i64 R.nx] 28)))
  have HY4 := Aside0.mk (blk_alloc hY4 (.cells #[.int .i64 R.v, .slice A4' R.ts.length c4', .int .i64 R.nx] 28))
  have HU4 := Aside0.mk ((HU3.out.step hb4).step (below_alloc (Below.refl _ _) (.cells #[.int .i64 R.v, .slice A4' R.ts.length c4', .int .i64 R.nx] 28)))
  have HP4 := Aside0.mk (BoxS.new hl4 hC4 R.v R.nx)
  have hl1' := lt_of_block hX4.box
  have hl2' := lt_of_block hY4
  clear x0 x1 x2
  clear s0 s1 s2 s3 s4 s5 s6 s7 s8 s9
  have x0 := hX4.c0
  have x1 := hX4.c1
  have x2 := hX4.c2
  have s0 := blk_cell (j := 0) (v := .int .i64 s.f0) hY4 rfl
  have s1 := blk_cell (j := 1) (v := .string s.f1) hY4 rfl
  have s2 := blk_cell (j := 2) (v := .string s.f2) hY4 rfl
  have s3 := blk_cell (j := 3) (v := .slice A3 s.f3.length c3) hY4 rfl
  have s4 := blk_cell (j := 4) (v := .slice A4 s.f4.length c4) hY4 rfl
  have s5 := blk_cell (j := 5) (v := .slice A5 s.f5.length c5) hY4 rfl
  have s6 := blk_cell (j := 6) (v := .slice A6 s.f6.length c6) hY4 rfl
  have s7 := blk_cell (j := 7) (v := .bool s.f7) hY4 rfl
  have s8 := blk_cell (j := 8) (v := .int .i64 s.f8) hY4 rfl
  have s9 := blk_cell (j := 9) (v := .slice A9 s.f9.length c9) hY4 rfl
  clear hb4 hrow4 hl4 hC4 hX4 hY4 H1 HX3 HY3 HU3 HB3
  go_wp2_with fail
  refine (H2.out _ HB4.out HX4.out.C).mono ?_
  rintro e w5 ⟨A5', c5', rfl, hrow5, hb5⟩
  obtain ⟨-, hl5, hC5⟩ := Kd.R_reads' hrow5
  have hU5 := HU4.out.step hb5
  have hP5 := HP4.out.step hb5
  have hX5 := HX4.out.step hb5
  have HB5 := Aside0.mk (below_alloc (below_then HB4.out HB4.out.size hb5) (.cells #[.int .i64 R.v, .slice A5' R.ts.length c5', .int .i64 R.nx] 28))
  have HX5 := Aside0.mk (hX5.step (below_alloc (Below.refl _ _) (.cells #[.int .i64 R.v, .slice A5' R.ts.length c5', .int .i64 R.nx] 28)))
  have HU5 := Aside0.mk (hU5.step (below_alloc (Below.refl _ _) (.cells #[.int .i64 R.v, .slice A5' R.ts.length c5', .int .i64 R.nx] 28)))
  have HP5 := Aside0.mk (hP5.step (below_alloc (Below.refl _ _) (.cells #[.int .i64 R.v, .slice A5' R.ts.length c5', .int .i64 R.nx] 28)))
  have HQ5 := Aside0.mk (BoxS.new hl5 hC5 R.v R.nx)
  have hl3' := lt_of_block hP5.box
  clear x0 x1 x2
  clear s0 s1 s2 s3 s4 s5 s6 s7 s8 s9
  have y0 := hP5.c0
  have y1 := hP5.c1
  have y2 := hP5.c2
  clear hb5 hrow5 hl5 hC5 hU5 hP5 hX5 H2 HX4 HY4 HU4 HP4 HB4
  have HSE := Lib.hid (same_eq R.v R.nx R.ts A4' A5' c4' c5' _ HP5.out.C HQ5.out.C)
  go_wp2_with fail
  refine HSE.out.mono ?_
  rintro e w6 ⟨rfl, hb6⟩
  have HB6 := Aside0.mk (below_then HB5.out HB5.out.size hb6)
  have HX6 := Aside0.mk (HX5.out.step hb6)
  have HU6 := Aside0.mk (HU5.out.step hb6)
  clear hb6 y0 y1 y2 HSE HX5 HU5 HP5 HQ5 HB5
  have x0 := HX6.out.c0
  have x1 := HX6.out.c1
  have x2 := HX6.out.c2
  have u0 := HU6.out.c0
  have u1 := HU6.out.c1
  have u2 := HU6.out.c2
  have HSE := Lib.hid (same_eq v nx ts A Au c cu w6 HX6.out.C HU6.out.C)
  have hrr : (R.err == R.err) = true := by simp
  have hrt : (R.table == R.table) = true := by simp
  have hre : (R.elem == R.elem) = true := by simp
  go_wp2_with (go_at_call 50; refine (num19_calls _ _).mono ?_; rintro e w' ⟨rfl, rfl⟩)
  refine HSE.out.mono ?_
  rintro e w7 ⟨rfl, hb7⟩
  have HB7 := Aside0.mk (below_then HB6.out HB6.out.size hb7)
  clear hb7 x0 x1 x2 u0 u1 u2 HSE
  go_wp2_with fail
  refine (HAW.out _ HB7.out).mono ?_
  rintro e w8 ⟨rfl, hb8⟩
  have HB8 := Aside0.mk (below_then HB7.out HB7.out.size hb8)
  clear hb8
  go_wp2
  go_ret
  exact ⟨rfl, HB8.out⟩
end Go.Proofs.YtjgomlcdmpcoaaaDoor.H
