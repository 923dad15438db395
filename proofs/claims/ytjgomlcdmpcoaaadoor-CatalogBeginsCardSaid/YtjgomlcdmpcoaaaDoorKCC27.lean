/- Own texts of this session, packed by its program wip/pp/pack.py: lemmas and walks of functions. -/
import Derived.Test.YtjgomlcdmpcoaaaDoorKCC8
import Derived.Test.YtjgomlcdmpcoaaaDoorKCC25
import Derived.Test.YtjgomlcdmpcoaaaDoorKCC26
namespace Go.Proofs.YtjgomlcdmpcoaaaDoor.H
open Go.RowKit Go.Proofs.YtjgomlcdmpcoaaaDoorW.PrintWords Go.Proofs.YtjgomlcdmpcoaaaDoorW.PrintLast Go.Proofs.YtjgomlcdmpcoaaaDoorW.PrintMore
open Go.Proofs.YtjgomlcdmpcoaaaDoor.D Go.Proofs.YtjgomlcdmpcoaaaDoor
set_option linter.unusedVariables false
set_option linter.unusedSimpArgs false
theorem cNamed_any (n : ByteArray) (l : List S75) : decide (0 ≤ idxL (cNamed n false) l 0) = l.any (cName n) := by
  rw [idxL_any]
  congr 1
  funext x
  unfold cNamed cName
  simp
theorem valMay_calls (v : S73) (h : ValWf v) (w : World) : Calls Tryd.prog 144 #[.agg #[.int .i64 v.f0, .int .i64 v.f1, .int .u64 v.f2, .string v.f3]] w fun e w' => e = .returned (.bool (valB v)) ∧ Below w.heap.size w w' := value_May.calls _ _ _ _ _ w (val_may v h)
set_option maxRecDepth 100000 in
set_option maxHeartbeats 8000000 in
theorem addColumnG_upd : UpdK 100 8 addColP := by
  intro w0 W g n cap ts i oki t cv iv s cs hG hB hL ht hs hok hkd
  obtain ⟨A3, c3, A4, c4, A5, c5, A6, c6, A9, c9, rfl, -, -, l4, g4, -, -, -, -, -, -⟩ := k45_open hs
  obtain ⟨m2, m3, m4, m5⟩ := tableB_lens ht
  obtain ⟨Ai, ci, hiv, lci, hCi⟩ := Kd.R_reads hL.inds
  obtain ⟨Ac, cc, hcv, lcc, hCc⟩ := Kd.R_reads hL.cols
  subst hiv hcv
  have hl4 := hok.2.1
  have HVW := Lib.hid hok.2.2.2.2.2
  obtain ⟨BX, hBX⟩ : ∃ b : Array Value, b = #[.int .i64 s.f0, .string s.f1, .string s.f2, .slice A3 s.f3.length c3, .slice A4 s.f4.length c4, .slice A5 s.f5.length c5, .slice A6 s.f6.length c6, .bool s.f7, .int .i64 s.f8, .slice A9 s.f9.length c9] := ⟨_, rfl⟩
  have HN := Lib.hid (fun W' (hb : Below w0.heap.size w0 W') => nameCalls s.f2 W' (hG.of_below hb))
  have HI := Lib.hid (show addColP t s = _ by unfold addColP; exact rfl)
  obtain ⟨T, id, er, hTR⟩ : ∃ T id er, addColP t s = (T, id, er) := ⟨_, _, _, rfl⟩
  rw [hTR]
  rw [hTR] at HI
  have hba := below_alloc (Below.refl _ W) (.cells #[.int .i64 s.f0, .string s.f1, .string s.f2, .slice A3 s.f3.length c3, .slice A4 s.f4.length c4, .slice A5 s.f5.length c5, .slice A6 s.f6.length c6, .bool s.f7, .int .i64 s.f8, .slice A9 s.f9.length c9] 45)
  have hU := (⟨hL, Tch.refl _ _, hB.size⟩ : UpdSt w0 W W g n cap ts i oki t (.slice Ac t.f2.length cc) (.slice Ai t.f3.length ci)).step hba
  have hx0 := heap_alloc_new W (.cells #[.int .i64 s.f0, .string s.f1, .string s.f2, .slice A3 s.f3.length c3, .slice A4 s.f4.length c4, .slice A5 s.f5.length c5, .slice A6 s.f6.length c6, .bool s.f7, .int .i64 s.f8, .slice A9 s.f9.length c9] 45)
  have hgl : g < W.heap.size + 1 := by have := World.block_lt_of_cell? _ _ (hU.lent.cell 2 rfl); simpa using this
  obtain ⟨Wa, hWa⟩ : ∃ Wa, Wa = W.alloc (.cells #[.int .i64 s.f0, .string s.f1, .string s.f2, .slice A3 s.f3.length c3, .slice A4 s.f4.length c4, .slice A5 s.f5.length c5, .slice A6 s.f6.length c6, .bool s.f7, .int .i64 s.f8, .slice A9 s.f9.length c9] 45) := ⟨_, rfl⟩
  have HU := Aside0.mk hU
  have HX := Aside0.mk hx0
  have a4 := hU.lent.cell 4 rfl
  have x2 := blk_cell (j := 2) (v := .string s.f2) hx0 rfl
  have x8 := blk_cell (j := 8) (v := .int .i64 s.f8) hx0 rfl
  have HB := Aside0.mk hB
  have HB4 := Aside0.mk (show 1 ≤ t.f4 ∧ t.f4 ≤ 60000 by unfold tableB at ht; simp only [Bool.and_eq_true, decide_eq_true_eq] at ht; exact ⟨ht.1, ht.2.1⟩)
  have HC := Aside0.mk (Kd.C_below (Kd.C_below g4 hB) (hba.mono (Nat.le_refl _)))
  have HBA := Aside0.mk (below_then hB hB.size hba)
  have HS := Aside0.mk (ColSt.new (W.alloc (.cells #[.int .i64 s.f0, .string s.f1, .string s.f2, .slice A3 s.f3.length c3, .slice A4 s.f4.length c4, .slice A5 s.f5.length c5, .slice A6 s.f6.length c6, .bool s.f7, .int .i64 s.f8, .slice A9 s.f9.length c9] 45)) t.f4 s.f2 s.f8)
  have hszW : (W.alloc (.cells #[.int .i64 s.f0, .string s.f1, .string s.f2, .slice A3 s.f3.length c3, .slice A4 s.f4.length c4, .slice A5 s.f5.length c5, .slice A6 s.f6.length c6, .bool s.f7, .int .i64 s.f8, .slice A9 s.f9.length c9] 45)).heap.size = W.heap.size + 1 := by simp
  have HWA := Lib.hid hWa
  clear hB hL g4 hs hok hba hCi hCc hG hkd hTR hU hx0 hWa
  go_enter Tryd.func100, Tryd.ntmps100
  go_wp2_with fail
  go_region
  clear a4 x2 x8
  rw [← HWA.out] at HU HX HC HBA HS hszW ⊢
  rw [← hszW]
  obtain ⟨d, hd⟩ : ∃ d, dflt s = d := ⟨_, rfl⟩
  rw [hd] at HI
  have hcase : (s.f4.length = 0 ∧ d = ⟨0, 0, 0, ⟨#[]⟩⟩) ∨ (∃ h : 0 < s.f4.length, s.f4[0] = d) := by
    rw [← hd]
    unfold dflt
    cases s.f4 with
    | nil => exact .inl ⟨rfl, rfl⟩
    | cons a l => exact .inr ⟨by simp, rfl⟩
  have HVd := Lib.hid (show ValWf d by
    rcases hcase with ⟨-, rfl⟩ | ⟨h, rfl⟩
    · exact ⟨by decide, by decide⟩
    · exact HVW.out _ (List.getElem_mem h))
  have hgl' : g < Wa.heap.size := by omega
  generalize (Wa.alloc (.cells #[.int .i64 t.f4, .string s.f2, .int .i64 s.f8, .int .i64 1, .int .i64 0, .int .i64 0, .int .i64 0, .int .u64 0, .string ⟨#[]⟩] 75)).drew = wz at HS ⊢
  have HX2 := Aside0.mk (blk_below HX.out HS.out.below)
  have x4 := blk_cell (j := 4) (v := .slice A4 s.f4.length c4) HX2.out rfl
  have hWz : Wa.heap.size < wz.heap.size := lt_of_block HS.out.box
  have hWz1 : W.heap.size < wz.heap.size := lt_of_block HX2.out
  clear hd HVW hszW HWA
  rcases hcase with ⟨h0, hdz⟩ | ⟨h0, hd⟩
  · have hz' : ¬ (0 : Int) < (s.f4.length : Int) := by omega
    have hz : decide (0 < (s.f4.length : Int)) = false := decide_eq_false hz'
    rw [← hdz] at HS
    have HSz := HS
    have HXz := HX2
    have hZ : Wa.heap.size < wz.heap.size := hWz
    have y2 := blk_cell (j := 2) (v := .string s.f2) HXz.out rfl
    clear hdz HS h0 HX2
    go_wp2_with fail
    clear y2 x4 hz hz'
    refine (HN.out _ (below_then HBA.out HBA.out.size HSz.out.below)).mono ?_
    rintro e w1 ⟨rfl, hb1⟩
    have HS1 := Aside0.mk (HSz.out.step hb1)
    have HX1 := Aside0.mk (blk_below HXz.out hb1)
    have HU1 := Aside0.mk (HU.out.step HS1.out.below)
    have hZ1 : Wa.heap.size < w1.heap.size := lt_of_block HS1.out.box
    have x8 := blk_cell (j := 8) (v := .int .i64 s.f8) HX1.out rfl
    have x2 := blk_cell (j := 2) (v := .string s.f2) HX1.out rfl
    clear HSz HXz hb1 hZ hWz1 HN
    cases hnm : nameB s.f2 with
    | false =>
      have HR := Lib.hid (show (T, id, er) = (t, 0, 3) by rw [HI.out, if_pos (.inl hnm)])
      clear hnm HI
      go_wp2
      go_ret2
      obtain ⟨rfl, rfl, rfl⟩ : T = t ∧ id = 0 ∧ er = 3 := by have := HR.out; simp only [Prod.mk.injEq] at this; exact this
      exact ⟨rfl, HU1.out.done⟩
    | true =>
    go_wp2_with fail
    refine (kind97_calls s.f8 _).mono ?_
    rintro e w2 ⟨rfl, hb2⟩
    have HS2 := Aside0.mk (HS1.out.step hb2)
    have HX2 := Aside0.mk (blk_below HX1.out hb2)
    have HU2 := Aside0.mk (HU1.out.step hb2)
    have y2 := blk_cell (j := 2) (v := .string s.f2) HX2.out rfl
    clear HS1 HX1 HU1 hb2 x8 x2 hZ1
    by_cases hk : s.f8 < 1 ∨ 5 < s.f8
    · have HR := Lib.hid (show (T, id, er) = (t, 0, 3) by rw [HI.out, if_pos (.inr hk)])
      have hkk : (decide (1 ≤ s.f8) && decide (s.f8 ≤ 5)) = false := by
        by_cases h1 : 1 ≤ s.f8
        · rw [decide_eq_false (show ¬ s.f8 ≤ 5 by omega), Bool.and_false]
        · rw [decide_eq_false h1, Bool.false_and]
      rw [hkk]
      clear hkk hk HI hnm
      go_wp2
      go_ret2
      obtain ⟨rfl, rfl, rfl⟩ : T = t ∧ id = 0 ∧ er = 3 := by have := HR.out; simp only [Prod.mk.injEq] at this; exact this
      exact ⟨rfl, HU2.out.done⟩
    have hkk : (decide (1 ≤ s.f8) && decide (s.f8 ≤ 5)) = true := by rw [decide_eq_true (show 1 ≤ s.f8 by omega), decide_eq_true (show s.f8 ≤ 5 by omega)]; rfl
    rw [hkk]
    have HI2 := Lib.hid (HI.out.trans (if_neg (fun h => h.elim (fun h => by rw [hnm] at h; cases h) hk)))
    clear hkk hnm HI hk
    go_wp2_with fail
    refine (column_calls143 s.f2 false ⟨g, i * 5, none⟩ t.f2 Ac cc w2 (HU2.out.lent.cell 2 rfl) (Kd.R_reads' HU2.out.lent.cols).2.2).mono ?_
    rintro e w3 ⟨rfl, hb3⟩
    have HS3 := Aside0.mk (HS2.out.step hb3)
    have HX3 := Aside0.mk (blk_below HX2.out hb3)
    have HU3 := Aside0.mk (HU2.out.step hb3)
    have hany := cNamed_any s.f2 t.f2
    obtain ⟨ix, hix⟩ : ∃ ix, idxL (cNamed s.f2 false) t.f2 0 = ix := ⟨_, rfl⟩
    rw [hix] at hany ⊢
    clear HS2 HX2 HU2 hb3 hix y2
    cases hA : t.f2.any (cName s.f2) with
    | true =>
      rw [hA] at hany
      have HR := Lib.hid (show (T, id, er) = (t, 0, 6) by rw [HI2.out, if_pos hA])
      clear hA HI2
      go_wp2
      go_ret2
      obtain ⟨rfl, rfl, rfl⟩ : T = t ∧ id = 0 ∧ er = 6 := by have := HR.out; simp only [Prod.mk.injEq] at this; exact this
      exact ⟨rfl, HU3.out.done⟩
    | false =>
    rw [hA] at hany
    have HI3 := Lib.hid (HI2.out.trans (if_neg (by rw [hA]; simp)))
    have q5 := blk_cell (j := 5) (v := .int .i64 d.f0) HS3.out.box rfl
    have q6 := blk_cell (j := 6) (v := .int .i64 d.f1) HS3.out.box rfl
    have q7 := blk_cell (j := 7) (v := .int .u64 d.f2) HS3.out.box rfl
    have q8 := blk_cell (j := 8) (v := .string d.f3) HS3.out.box rfl
    clear hA HI2
    go_wp2_with fail
    refine (valMay_calls d HVd.out _).mono ?_
    rintro e w5 ⟨rfl, hb5⟩
    have HSz := Aside0.mk (HS3.out.step hb5)
    have HX5 := Aside0.mk (blk_below HX3.out hb5)
    have HUz := Aside0.mk (HU3.out.step hb5)
    have hwz5 : Wa.heap.size < w5.heap.size := lt_of_block HSz.out.box
    clear q5 q6 q7 q8 HS3 HX3 HU3 hb5 hany
    have q5 := blk_cell (j := 5) (v := .int .i64 d.f0) HSz.out.box rfl
    have x8 := blk_cell (j := 8) (v := .int .i64 s.f8) HX5.out rfl
    by_cases hbad : valB d = false ∨ (d.f0 ≠ 0 ∧ d.f0 ≠ s.f8)
    · have HR := Lib.hid (show (T, id, er) = (t, 0, 7) by rw [HI3.out]; exact if_pos hbad)
      have hbad' : valB d = false ∨ (valB d = true ∧ (d.f0 != 0) = true ∧ (d.f0 != s.f8) = true) := by
        rcases hbad with h | ⟨h1, h2⟩
        · exact .inl h
        · cases hq : valB d
          · exact .inl rfl
          · exact .inr ⟨rfl, by simpa using h1, by simpa using h2⟩
      clear hbad HI3 HVd
      rcases hbad' with h | ⟨h, h1, h2⟩
      all_goals
        rw [h]
        clear h
        go_wp2
        go_ret2
        obtain ⟨rfl, rfl, rfl⟩ : T = t ∧ id = 0 ∧ er = 7 := by have := HR.out; simp only [Prod.mk.injEq] at this; exact this
        exact ⟨rfl, HUz.out.done⟩
    have HI4 := Lib.hid (HI3.out.trans (if_neg hbad))
    have hok' : valB d = true ∧ (((d.f0 != 0) = false) ∨ ((d.f0 != 0) = true ∧ (d.f0 != s.f8) = false)) := by
      refine ⟨by cases hq : valB d; exact absurd (.inl hq) hbad; rfl, ?_⟩
      by_cases h0 : d.f0 = 0
      · exact .inl (by simpa using h0)
      · refine .inr ⟨by simpa using h0, ?_⟩
        have : d.f0 = s.f8 := Classical.byContradiction fun h => hbad (.inr ⟨h0, h⟩)
        simpa using this
    obtain ⟨hv, hk2⟩ := hok'
    rw [hv]
    clear hbad HI3 HVd hv
    have a2 := HUz.out.lent.cell 2 rfl
    have a4 := HUz.out.lent.cell 4 rfl
    rcases hk2 with h1 | ⟨h1, h2⟩
    all_goals
      by_cases h8 : 8 ≤ t.f2.length
      · have hd8 : ((t.f2.length : Int) == 8) = true := by rw [beq_iff_eq]; omega
        have HR := Lib.hid (show (T, id, er) = (t, 0, 4) by rw [HI4.out]; exact if_pos (.inl h8))
        clear h8 HI4
        go_wp2
        go_ret2
        obtain ⟨rfl, rfl, rfl⟩ : T = t ∧ id = 0 ∧ er = 4 := by have := HR.out; simp only [Prod.mk.injEq] at this; exact this
        exact ⟨rfl, HUz.out.done⟩
      have hd8 : ((t.f2.length : Int) == 8) = false := by rw [beq_eq_false_iff_ne]; omega
      by_cases h6 : 60000 ≤ t.f4
      · have HR := Lib.hid (show (T, id, er) = (t, 0, 4) by rw [HI4.out]; exact if_pos (.inr h6))
        have hd6 : decide (60000 ≤ t.f4) = true := decide_eq_true h6
        clear h8 h6 HI4
        go_wp2
        go_ret2
        obtain ⟨rfl, rfl, rfl⟩ : T = t ∧ id = 0 ∧ er = 4 := by have := HR.out; simp only [Prod.mk.injEq] at this; exact this
        exact ⟨rfl, HUz.out.done⟩
      have HI5 := Lib.hid (HI4.out.trans (if_neg (show ¬ (8 ≤ t.f2.length ∨ 60000 ≤ t.f4) by omega)))
      have hd6 : decide (60000 ≤ t.f4) = false := decide_eq_false h6
      have hn0 := HB4.out
      have hgn : g < w5.heap.size := World.block_lt_of_cell? w5 _ a2
      have hne : Wa.heap.size ≠ g := by omega
      have hne' : g ≠ Wa.heap.size := by omega
      have x0 := blk_cell (j := 0) (v := .int .i64 t.f4) HSz.out.box rfl
      have x1 := blk_cell (j := 1) (v := .string s.f2) HSz.out.box rfl
      have x2 := blk_cell (j := 2) (v := .int .i64 s.f8) HSz.out.box rfl
      have x3 := blk_cell (j := 3) (v := .int .i64 1) HSz.out.box rfl
      have x4 := blk_cell (j := 4) (v := .int .i64 0) HSz.out.box rfl
      have x6 := blk_cell (j := 6) (v := .int .i64 d.f1) HSz.out.box rfl
      have x7 := blk_cell (j := 7) (v := .int .u64 d.f2) HSz.out.box rfl
      have z8 := blk_cell (j := 8) (v := .string d.f3) HSz.out.box rfl
      have HBZ := Aside0.mk (Nat.le_trans HUz.out.base HUz.out.tch.size)
      clear HI4 h8 h6
      go_wp2_with fail
      clear hd8 hd6 x8
      go_region_law
        ((refine step_R k75 (by rfl) (.tmp 73) (.tmp 75) 67 75 (.agg #[(.int .i64 0), (.string ⟨#[]⟩), (.int .i64 0), (.int .i64 0), (.int .i64 0), (.int .i64 0), (.int .i64 0), (.int .u64 0), (.string ⟨#[]⟩)]) 88 (by rfl) Tryd.underlying67 info75 (by rfl) (by decide) (by decide) w0.heap.size (.slice Ac t.f2.length cc) t.f2 (⟨t.f4, s.f2, s.f8, 1, 0, d⟩ : S75) [.int .i64 t.f4, .string s.f2, .int .i64 s.f8, .int .i64 1, .int .i64 0, .int .i64 d.f0, .int .i64 d.f1, .int .u64 d.f2, .string d.f3] oki (fun _ => False) (by rfl) (by repeat (first | exact HUz.out.lent.cols | refine Kd.R_drew ?_ | refine Kd.R_alloc ?_ _)) ⟨w5.heap.size, 0, none⟩ (by rfl) (World.news_of_block (cs := #[_, _, _, _, _, _, _, _, _]) (t := 75) (fr := (0, 0)) (heap_alloc_new w5 _)) (k75_mkM _ _ _ (⟨t.f4, s.f2, s.f8, 1, 0, d⟩ : S75)) (fun _ h => h.elim) (fun k hk => HUz.out.lent.fresh k (Nat.le_trans (by simp) hk)) (Nat.le_trans HBZ.out (by simp)) (by omega) ?_; intro A1 c1 w6 hr hg1; have hx1 : w6.heap[g]? = w5.heap[g]? := (hg1.block g (Nat.lt_of_lt_of_le hgn (by simp)) (fun e => HUz.out.lent.oki_ne g (HUz.out.lent.cols.1 g e.symm) rfl)).trans (heap_alloc_old w5 _ hgn); have d1 := (cell_same (a := ⟨g, i * 5 + 2, none⟩) hx1).trans a2; have d4 := (cell_same (a := ⟨g, i * 5 + 4, none⟩) hx1).trans a4; have f1 := (frozen_same (a := ⟨g, i * 5 + 2, none⟩) hx1).trans (HUz.out.lent.frozen _); have f4 := (frozen_same (a := ⟨g, i * 5 + 4, none⟩) hx1).trans (HUz.out.lent.frozen _); have hy1 := (hg1.block Wa.heap.size (Nat.lt_of_lt_of_le hwz5 (by simp)) (fun he => Nat.lt_irrefl _ (Kd.R_lt HU.out.lent.cols Wa.heap.size he.symm))).trans (blk_alloc HSz.out.box _); have d0 := blk_cell (j := 0) (v := .int .i64 t.f4) hy1 rfl))
      all_goals
        have HF := Aside0.mk (((HUz.out.step (below_drew (below_alloc (Below.refl _ _) _))).setC hg1 hr rfl).setN (t.f4 + 1) rfl)
        clear hr hg1 hx1 hy1 a2 a4 x0 x1 x2 x3 x4 q5 x6 x7 z8
        go_wp2
        go_ret2
        obtain ⟨rfl, rfl, rfl⟩ : T = _ ∧ id = t.f4 ∧ er = 0 := by have := HI5.out; simp only [Prod.mk.injEq] at this; exact this
        exact ⟨rfl, HF.out.done⟩
  · have hz : decide (0 < (s.f4.length : Int)) = true := decide_eq_true (by omega)
    obtain ⟨a4_, eA4, v0, v1, v2, v3⟩ := at_T73 (Kd.C_below HC.out HS.out.below) 0 (by omega) (by omega)
    rw [show rd_T73 s.f4 0 = d by rw [← hd]; unfold rd_T73; simp [List.getD, h0]] at v0 v1 v2 v3
    have ead : a4_.add ((0 : Int).toNat * 4) = a4_ := by cases a4_; rfl
    rw [ead] at v0 v1 v2 v3
    subst eA4
    have f5 := blk_frozen HS.out.box 5
    have f6 := blk_frozen HS.out.box 6
    have f7 := blk_frozen HS.out.box 7
    have f8 := blk_frozen HS.out.box 8
    have q5 := blk_cell (j := 5) (v := .int .i64 0) HS.out.box rfl
    have q6 := blk_cell (j := 6) (v := .int .i64 0) HS.out.box rfl
    have q7 := blk_cell (j := 7) (v := .int .u64 0) HS.out.box rfl
    have q8 := blk_cell (j := 8) (v := .string ⟨#[]⟩) HS.out.box rfl
    have h4l : (0 : Int) < (s.f4.length : Int) := by omega
    have HS3 := Aside0.mk (HS.out.put d)
    have hX3 := blk_below HX.out HS3.out.below
    have y2 := blk_cell (j := 2) (v := .string s.f2) hX3 rfl
    have HX3 := Aside0.mk hX3
    have hZ3 := lt_of_block HS3.out.box
    have hZ1 := lt_of_block hX3
    clear h0 hd hX3
    go_wp2_with fail
    clear f5 f6 f7 f8 q5 q6 q7 q8 v0 v1 v2 v3 x4 HS y2 HX2 hz h4l
    generalize (((wz.setCell ⟨Wa.heap.size, 5, none⟩ (.int .i64 d.f0)).setCell ⟨Wa.heap.size, 6, none⟩ (.int .i64 d.f1)).setCell ⟨Wa.heap.size, 7, none⟩ (.int .u64 d.f2)).setCell ⟨Wa.heap.size, 8, none⟩ (.string d.f3) = wz at HS3 HX3 hZ3 hZ1 ⊢
    have HSz := HS3
    have HXz := HX3
    have hZ : Wa.heap.size < wz.heap.size := hZ3
    have hWz1 : W.heap.size < wz.heap.size := hZ1
    clear HS3 HX3 hZ3 hZ1
    refine (HN.out _ (below_then HBA.out HBA.out.size HSz.out.below)).mono ?_
    rintro e w1 ⟨rfl, hb1⟩
    have HS1 := Aside0.mk (HSz.out.step hb1)
    have HX1 := Aside0.mk (blk_below HXz.out hb1)
    have HU1 := Aside0.mk (HU.out.step HS1.out.below)
    have hZ1 : Wa.heap.size < w1.heap.size := lt_of_block HS1.out.box
    have x8 := blk_cell (j := 8) (v := .int .i64 s.f8) HX1.out rfl
    have x2 := blk_cell (j := 2) (v := .string s.f2) HX1.out rfl
    clear HSz HXz hb1 hZ hWz1 HN
    cases hnm : nameB s.f2 with
    | false =>
      have HR := Lib.hid (show (T, id, er) = (t, 0, 3) by rw [HI.out, if_pos (.inl hnm)])
      clear hnm HI
      go_wp2
      go_ret2
      obtain ⟨rfl, rfl, rfl⟩ : T = t ∧ id = 0 ∧ er = 3 := by have := HR.out; simp only [Prod.mk.injEq] at this; exact this
      exact ⟨rfl, HU1.out.done⟩
    | true =>
    go_wp2_with fail
    refine (kind97_calls s.f8 _).mono ?_
    rintro e w2 ⟨rfl, hb2⟩
    have HS2 := Aside0.mk (HS1.out.step hb2)
    have HX2 := Aside0.mk (blk_below HX1.out hb2)
    have HU2 := Aside0.mk (HU1.out.step hb2)
    have y2 := blk_cell (j := 2) (v := .string s.f2) HX2.out rfl
    clear HS1 HX1 HU1 hb2 x8 x2 hZ1
    by_cases hk : s.f8 < 1 ∨ 5 < s.f8
    · have HR := Lib.hid (show (T, id, er) = (t, 0, 3) by rw [HI.out, if_pos (.inr hk)])
      have hkk : (decide (1 ≤ s.f8) && decide (s.f8 ≤ 5)) = false := by
        by_cases h1 : 1 ≤ s.f8
        · rw [decide_eq_false (show ¬ s.f8 ≤ 5 by omega), Bool.and_false]
        · rw [decide_eq_false h1, Bool.false_and]
      rw [hkk]
      clear hkk hk HI hnm
      go_wp2
      go_ret2
      obtain ⟨rfl, rfl, rfl⟩ : T = t ∧ id = 0 ∧ er = 3 := by have := HR.out; simp only [Prod.mk.injEq] at this; exact this
      exact ⟨rfl, HU2.out.done⟩
    have hkk : (decide (1 ≤ s.f8) && decide (s.f8 ≤ 5)) = true := by rw [decide_eq_true (show 1 ≤ s.f8 by omega), decide_eq_true (show s.f8 ≤ 5 by omega)]; rfl
    rw [hkk]
    have HI2 := Lib.hid (HI.out.trans (if_neg (fun h => h.elim (fun h => by rw [hnm] at h; cases h) hk)))
    clear hkk hnm HI hk
    go_wp2_with fail
    refine (column_calls143 s.f2 false ⟨g, i * 5, none⟩ t.f2 Ac cc w2 (HU2.out.lent.cell 2 rfl) (Kd.R_reads' HU2.out.lent.cols).2.2).mono ?_
    rintro e w3 ⟨rfl, hb3⟩
    have HS3 := Aside0.mk (HS2.out.step hb3)
    have HX3 := Aside0.mk (blk_below HX2.out hb3)
    have HU3 := Aside0.mk (HU2.out.step hb3)
    have hany := cNamed_any s.f2 t.f2
    obtain ⟨ix, hix⟩ : ∃ ix, idxL (cNamed s.f2 false) t.f2 0 = ix := ⟨_, rfl⟩
    rw [hix] at hany ⊢
    clear HS2 HX2 HU2 hb3 hix y2
    cases hA : t.f2.any (cName s.f2) with
    | true =>
      rw [hA] at hany
      have HR := Lib.hid (show (T, id, er) = (t, 0, 6) by rw [HI2.out, if_pos hA])
      clear hA HI2
      go_wp2
      go_ret2
      obtain ⟨rfl, rfl, rfl⟩ : T = t ∧ id = 0 ∧ er = 6 := by have := HR.out; simp only [Prod.mk.injEq] at this; exact this
      exact ⟨rfl, HU3.out.done⟩
    | false =>
    rw [hA] at hany
    have HI3 := Lib.hid (HI2.out.trans (if_neg (by rw [hA]; simp)))
    have q5 := blk_cell (j := 5) (v := .int .i64 d.f0) HS3.out.box rfl
    have q6 := blk_cell (j := 6) (v := .int .i64 d.f1) HS3.out.box rfl
    have q7 := blk_cell (j := 7) (v := .int .u64 d.f2) HS3.out.box rfl
    have q8 := blk_cell (j := 8) (v := .string d.f3) HS3.out.box rfl
    clear hA HI2
    go_wp2_with fail
    refine (valMay_calls d HVd.out _).mono ?_
    rintro e w5 ⟨rfl, hb5⟩
    have HSz := Aside0.mk (HS3.out.step hb5)
    have HX5 := Aside0.mk (blk_below HX3.out hb5)
    have HUz := Aside0.mk (HU3.out.step hb5)
    have hwz5 : Wa.heap.size < w5.heap.size := lt_of_block HSz.out.box
    clear q5 q6 q7 q8 HS3 HX3 HU3 hb5 hany
    have q5 := blk_cell (j := 5) (v := .int .i64 d.f0) HSz.out.box rfl
    have x8 := blk_cell (j := 8) (v := .int .i64 s.f8) HX5.out rfl
    by_cases hbad : valB d = false ∨ (d.f0 ≠ 0 ∧ d.f0 ≠ s.f8)
    · have HR := Lib.hid (show (T, id, er) = (t, 0, 7) by rw [HI3.out]; exact if_pos hbad)
      have hbad' : valB d = false ∨ (valB d = true ∧ (d.f0 != 0) = true ∧ (d.f0 != s.f8) = true) := by
        rcases hbad with h | ⟨h1, h2⟩
        · exact .inl h
        · cases hq : valB d
          · exact .inl rfl
          · exact .inr ⟨rfl, by simpa using h1, by simpa using h2⟩
      clear hbad HI3 HVd
      rcases hbad' with h | ⟨h, h1, h2⟩
      all_goals
        rw [h]
        clear h
        go_wp2
        go_ret2
        obtain ⟨rfl, rfl, rfl⟩ : T = t ∧ id = 0 ∧ er = 7 := by have := HR.out; simp only [Prod.mk.injEq] at this; exact this
        exact ⟨rfl, HUz.out.done⟩
    have HI4 := Lib.hid (HI3.out.trans (if_neg hbad))
    have hok' : valB d = true ∧ (((d.f0 != 0) = false) ∨ ((d.f0 != 0) = true ∧ (d.f0 != s.f8) = false)) := by
      refine ⟨by cases hq : valB d; exact absurd (.inl hq) hbad; rfl, ?_⟩
      by_cases h0 : d.f0 = 0
      · exact .inl (by simpa using h0)
      · refine .inr ⟨by simpa using h0, ?_⟩
        have : d.f0 = s.f8 := Classical.byContradiction fun h => hbad (.inr ⟨h0, h⟩)
        simpa using this
    obtain ⟨hv, hk2⟩ := hok'
    rw [hv]
    clear hbad HI3 HVd hv
    have a2 := HUz.out.lent.cell 2 rfl
    have a4 := HUz.out.lent.cell 4 rfl
    rcases hk2 with h1 | ⟨h1, h2⟩
    all_goals
      by_cases h8 : 8 ≤ t.f2.length
      · have hd8 : ((t.f2.length : Int) == 8) = true := by rw [beq_iff_eq]; omega
        have HR := Lib.hid (show (T, id, er) = (t, 0, 4) by rw [HI4.out]; exact if_pos (.inl h8))
        clear h8 HI4
        go_wp2
        go_ret2
        obtain ⟨rfl, rfl, rfl⟩ : T = t ∧ id = 0 ∧ er = 4 := by have := HR.out; simp only [Prod.mk.injEq] at this; exact this
        exact ⟨rfl, HUz.out.done⟩
      have hd8 : ((t.f2.length : Int) == 8) = false := by rw [beq_eq_false_iff_ne]; omega
      by_cases h6 : 60000 ≤ t.f4
      · have HR := Lib.hid (show (T, id, er) = (t, 0, 4) by rw [HI4.out]; exact if_pos (.inr h6))
        have hd6 : decide (60000 ≤ t.f4) = true := decide_eq_true h6
        clear h8 h6 HI4
        go_wp2
        go_ret2
        obtain ⟨rfl, rfl, rfl⟩ : T = t ∧ id = 0 ∧ er = 4 := by have := HR.out; simp only [Prod.mk.injEq] at this; exact this
        exact ⟨rfl, HUz.out.done⟩
      have HI5 := Lib.hid (HI4.out.trans (if_neg (show ¬ (8 ≤ t.f2.length ∨ 60000 ≤ t.f4) by omega)))
      have hd6 : decide (60000 ≤ t.f4) = false := decide_eq_false h6
      have hn0 := HB4.out
      have hgn : g < w5.heap.size := World.block_lt_of_cell? w5 _ a2
      have hne : Wa.heap.size ≠ g := by omega
      have hne' : g ≠ Wa.heap.size := by omega
      have x0 := blk_cell (j := 0) (v := .int .i64 t.f4) HSz.out.box rfl
      have x1 := blk_cell (j := 1) (v := .string s.f2) HSz.out.box rfl
      have x2 := blk_cell (j := 2) (v := .int .i64 s.f8) HSz.out.box rfl
      have x3 := blk_cell (j := 3) (v := .int .i64 1) HSz.out.box rfl
      have x4 := blk_cell (j := 4) (v := .int .i64 0) HSz.out.box rfl
      have x6 := blk_cell (j := 6) (v := .int .i64 d.f1) HSz.out.box rfl
      have x7 := blk_cell (j := 7) (v := .int .u64 d.f2) HSz.out.box rfl
      have z8 := blk_cell (j := 8) (v := .string d.f3) HSz.out.box rfl
      have HBZ := Aside0.mk (Nat.le_trans HUz.out.base HUz.out.tch.size)
      clear HI4 h8 h6
      go_wp2_with fail
      clear hd8 hd6 x8
      go_region_law
        ((refine step_R k75 (by rfl) (.tmp 73) (.tmp 75) 67 75 (.agg #[(.int .i64 0), (.string ⟨#[]⟩), (.int .i64 0), (.int .i64 0), (.int .i64 0), (.int .i64 0), (.int .i64 0), (.int .u64 0), (.string ⟨#[]⟩)]) 88 (by rfl) Tryd.underlying67 info75 (by rfl) (by decide) (by decide) w0.heap.size (.slice Ac t.f2.length cc) t.f2 (⟨t.f4, s.f2, s.f8, 1, 0, d⟩ : S75) [.int .i64 t.f4, .string s.f2, .int .i64 s.f8, .int .i64 1, .int .i64 0, .int .i64 d.f0, .int .i64 d.f1, .int .u64 d.f2, .string d.f3] oki (fun _ => False) (by rfl) (by repeat (first | exact HUz.out.lent.cols | refine Kd.R_drew ?_ | refine Kd.R_alloc ?_ _)) ⟨w5.heap.size, 0, none⟩ (by rfl) (World.news_of_block (cs := #[_, _, _, _, _, _, _, _, _]) (t := 75) (fr := (0, 0)) (heap_alloc_new w5 _)) (k75_mkM _ _ _ (⟨t.f4, s.f2, s.f8, 1, 0, d⟩ : S75)) (fun _ h => h.elim) (fun k hk => HUz.out.lent.fresh k (Nat.le_trans (by simp) hk)) (Nat.le_trans HBZ.out (by simp)) (by omega) ?_; intro A1 c1 w6 hr hg1; have hx1 : w6.heap[g]? = w5.heap[g]? := (hg1.block g (Nat.lt_of_lt_of_le hgn (by simp)) (fun e => HUz.out.lent.oki_ne g (HUz.out.lent.cols.1 g e.symm) rfl)).trans (heap_alloc_old w5 _ hgn); have d1 := (cell_same (a := ⟨g, i * 5 + 2, none⟩) hx1).trans a2; have d4 := (cell_same (a := ⟨g, i * 5 + 4, none⟩) hx1).trans a4; have f1 := (frozen_same (a := ⟨g, i * 5 + 2, none⟩) hx1).trans (HUz.out.lent.frozen _); have f4 := (frozen_same (a := ⟨g, i * 5 + 4, none⟩) hx1).trans (HUz.out.lent.frozen _); have hy1 := (hg1.block Wa.heap.size (Nat.lt_of_lt_of_le hwz5 (by simp)) (fun he => Nat.lt_irrefl _ (Kd.R_lt HU.out.lent.cols Wa.heap.size he.symm))).trans (blk_alloc HSz.out.box _); have d0 := blk_cell (j := 0) (v := .int .i64 t.f4) hy1 rfl))
      all_goals
        have HF := Aside0.mk (((HUz.out.step (below_drew (below_alloc (Below.refl _ _) _))).setC hg1 hr rfl).setN (t.f4 + 1) rfl)
        clear hr hg1 hx1 hy1 a2 a4 x0 x1 x2 x3 x4 q5 x6 x7 z8
        go_wp2
        go_ret2
        obtain ⟨rfl, rfl, rfl⟩ : T = _ ∧ id = t.f4 ∧ er = 0 := by have := HI5.out; simp only [Prod.mk.injEq] at this; exact this
        exact ⟨rfl, HF.out.done⟩
end Go.Proofs.YtjgomlcdmpcoaaaDoor.H
