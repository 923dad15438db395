/- Own texts of this session, packed by its program wip/pp/pack.py: lemmas and walks of functions. -/
import Derived.Test.YtjgomlcdmpcoaaaDoorKCC17
import Derived.Test.YtjgomlcdmpcoaaaDoorKCC20
import Derived.Test.YtjgomlcdmpcoaaaDoorKCC25
namespace Go.Proofs.YtjgomlcdmpcoaaaDoor.H
open Go.RowKit Go.Proofs.YtjgomlcdmpcoaaaDoorW.PrintWords Go.Proofs.YtjgomlcdmpcoaaaDoorW.PrintLast Go.Proofs.YtjgomlcdmpcoaaaDoorW.PrintMore
open Go.Proofs.YtjgomlcdmpcoaaaDoor.D Go.Proofs.YtjgomlcdmpcoaaaDoor
set_option linter.unusedVariables false
set_option linter.unusedSimpArgs false
theorem xNamed_any (n : ByteArray) (l : List S98) : decide (0 ≤ idxL (xNamed n false) l 0) = l.any (xName n) := by
  rw [idxL_any]
  congr 1
  funext x
  unfold xNamed xName
  simp
set_option maxRecDepth 100000 in
set_option maxHeartbeats 4000000 in
theorem addIndexG_upd : UpdK 99 6 addIndexP := by
  intro w0 W g n cap ts i oki t cv iv s cs hG hB hL ht hs hok hkd
  obtain ⟨A3, c3, A4, c4, A5, c5, A6, c6, A9, c9, rfl, l3, g3, -, -, -, -, -, -, -, -⟩ := k45_open hs
  obtain ⟨m2, m3, m4, m5⟩ := tableB_lens ht
  obtain ⟨Ai, ci, hiv, lci, hCi⟩ := Kd.R_reads hL.inds
  obtain ⟨Ac, cc, hcv, lcc, hCc⟩ := Kd.R_reads hL.cols
  subst hiv hcv
  have HC := Aside0.mk g3
  have hl3 := hok.1
  obtain ⟨BX, hBX⟩ : ∃ b : Array Value, b = #[.int .i64 s.f0, .string s.f1, .string s.f2, .slice A3 s.f3.length c3, .slice A4 s.f4.length c4, .slice A5 s.f5.length c5, .slice A6 s.f6.length c6, .bool s.f7, .int .i64 s.f8, .slice A9 s.f9.length c9] := ⟨_, rfl⟩
  have HN := Lib.hid (fun W' (hb : Below w0.heap.size w0 W') => nameCalls s.f2 W' (hG.of_below hb))
  have HI := Lib.hid (show addIndexP t s = _ by unfold addIndexP; exact rfl)
  have hba := below_alloc (Below.refl _ W) (.cells #[.int .i64 s.f0, .string s.f1, .string s.f2, .slice A3 s.f3.length c3, .slice A4 s.f4.length c4, .slice A5 s.f5.length c5, .slice A6 s.f6.length c6, .bool s.f7, .int .i64 s.f8, .slice A9 s.f9.length c9] 45)
  have HBA := Aside0.mk (below_then hB hB.size hba)
  have HU := Aside0.mk ((⟨hL, Tch.refl _ _, hB.size⟩ : UpdSt w0 W W g n cap ts i oki t (.slice Ac t.f2.length cc) (.slice Ai t.f3.length ci)).step hba)
  have HX0 := Aside0.mk (heap_alloc_new W (.cells #[.int .i64 s.f0, .string s.f1, .string s.f2, .slice A3 s.f3.length c3, .slice A4 s.f4.length c4, .slice A5 s.f5.length c5, .slice A6 s.f6.length c6, .bool s.f7, .int .i64 s.f8, .slice A9 s.f9.length c9] 45))
  have x2 := blk_cell (j := 2) (v := .string s.f2) HX0.out rfl
  have HB := Aside0.mk hB
  have HB4 := Aside0.mk (show 1 ≤ t.f4 ∧ t.f4 ≤ 60000 by unfold tableB at ht; simp only [Bool.and_eq_true, decide_eq_true_eq] at ht; exact ⟨ht.1, ht.2.1⟩)
  clear hB hL g3 hs hok hba hCi hCc hG hkd
  by_cases hbad : nameB s.f2 = false ∨ s.f3.length < 1 ∨ 8 < s.f3.length
  · have hR : addIndexP t s = (t, 0, 3) := by rw [HI.out, if_pos hbad]
    rw [hR]
    have hbad' : (nameB s.f2 = false) ∨ (nameB s.f2 = true ∧ decide ((s.f3.length : Int) < 1) = true) ∨ (nameB s.f2 = true ∧ decide ((s.f3.length : Int) < 1) = false ∧ decide (8 < (s.f3.length : Int)) = true) := by
      cases hq : nameB s.f2
      · exact .inl rfl
      · rw [hq] at hbad
        by_cases h1 : s.f3.length < 1
        · exact .inr (.inl ⟨rfl, decide_eq_true (by omega)⟩)
        · exact .inr (.inr ⟨rfl, decide_eq_false (by omega), decide_eq_true (by have := hbad.resolve_left (by simp); omega)⟩)
    clear hR HI hbad
    rcases hbad' with h1 | ⟨h1, h2⟩ | ⟨h1, h2, h3⟩
    all_goals
      rw [h1] at HN
      clear h1
      go_enter Tryd.func99, Tryd.ntmps99
      go_wp2_with (go_at_call 33; refine (HN.out _ HBA.out).mono ?_; rintro e w1 ⟨rfl, hb1⟩; have hx1 := blk_below HX0.out hb1; have x3 := blk_cell (j := 3) (v := .slice A3 s.f3.length c3) hx1 rfl; clear hx1)
      go_ret2
      exact ⟨rfl, (HU.out.step hb1).done⟩
  obtain ⟨T, id, er, hTR⟩ : ∃ T id er, addIndexP t s = (T, id, er) := ⟨_, _, _, rfl⟩
  rw [hTR]
  rw [hTR] at HI
  have HI2 := Lib.hid (HI.out.trans (if_neg hbad))
  have hnm : nameB s.f2 = true := by
    cases hq : nameB s.f2
    · exact absurd (.inl hq) hbad
    · rfl
  rw [hnm] at HN
  have hd1 : decide ((s.f3.length : Int) < 1) = false := decide_eq_false (by omega)
  have hd8 : decide (8 < (s.f3.length : Int)) = false := decide_eq_false (by omega)
  have hlo : 1 ≤ s.f3.length := by omega
  have hhi : s.f3.length ≤ 8 := by omega
  clear HI hnm hTR hbad
  go_enter Tryd.func99, Tryd.ntmps99
  go_wp2_with (go_at_call 33; refine (HN.out _ HBA.out).mono ?_; rintro e w1 ⟨rfl, hb1⟩; have hx1 := blk_below HX0.out hb1; have x3 := blk_cell (j := 3) (v := .slice A3 s.f3.length c3) hx1 rfl; have y2 := blk_cell (j := 2) (v := .string s.f2) hx1 rfl; have HX := Aside0.mk hx1; have HU1 := Aside0.mk (HU.out.step hb1); clear hx1 hb1)
  refine (index_calls142 s.f2 false ⟨g, i * 5, none⟩ t.f3 Ai ci w1 (HU1.out.lent.cell 3 rfl) (Kd.R_reads' HU1.out.lent.inds).2.2).mono ?_
  rintro e w2 ⟨rfl, hb2⟩
  have hX2 := blk_below HX.out hb2
  have HX2 := Aside0.mk (show w2.heap[W.heap.size]? = some (.cells BX 45 (0, 0)) by rw [hBX]; exact hX2)
  have HU2 := Aside0.mk (HU1.out.step hb2)
  have hany := xNamed_any s.f2 t.f3
  obtain ⟨ix, hix⟩ : ∃ ix, idxL (xNamed s.f2 false) t.f3 0 = ix := ⟨_, rfl⟩
  rw [hix] at hany ⊢
  have x3 := blk_cell (j := 3) (v := .slice A3 s.f3.length c3) hX2 rfl
  clear HX HX0 HU HU1 y2 HN hd1 hd8 hix hb2 hX2 HBA
  cases hA : t.f3.any (xName s.f2) with
  | true =>
    rw [hA] at hany
    have HR := Lib.hid (show (T, id, er) = (t, 0, 6) by rw [HI2.out, if_pos hA])
    clear hA HI2
    go_wp2
    go_ret2
    obtain ⟨rfl, rfl, rfl⟩ : T = t ∧ id = 0 ∧ er = 6 := by have := HR.out; simp only [Prod.mk.injEq] at this; exact this
    exact ⟨rfl, HU2.out.done⟩
  | false =>
  rw [hA] at hany
  have HI3 := Lib.hid (HI2.out.trans (if_neg (by rw [hA]; simp)))
  have hBW := Aside0.mk (HB.out.trans HU2.out.tch.below)
  clear hA HI2
  go_wp2_with fail
  cases htw : twiceB [] s.f3 with
  | true =>
    refine (twice98_calls s.f3 (by omega) A3 c3 _ l3 (Kd.C_below HC.out hBW.out)).mono ?_
    rintro e w3 ⟨rfl, hb3⟩
    rw [htw]
    have HR := Lib.hid (show (T, id, er) = (t, 0, 6) by rw [HI3.out, if_pos htw])
    clear htw
    go_wp2
    go_ret2
    obtain ⟨rfl, rfl, rfl⟩ : T = t ∧ id = 0 ∧ er = 6 := by have := HR.out; simp only [Prod.mk.injEq] at this; exact this
    exact ⟨rfl, (HU2.out.step hb3).done⟩
  | false =>
    refine (twice98_calls s.f3 (by omega) A3 c3 _ l3 (Kd.C_below HC.out hBW.out)).mono ?_
    rintro e w3 ⟨rfl, hb3⟩
    rw [htw]
    have HI4 := Lib.hid (HI3.out.trans (by rw [htw, if_neg (by simp)]))
    have HU3 := Aside0.mk (HU2.out.step hb3)
    have HX3 := Aside0.mk (blk_below HX2.out hb3)
    have a4 := HU3.out.lent.cell 4 rfl
    have y2 := blk_cell (j := 2) (v := .string s.f2) HX3.out (by rw [hBX]; rfl)
    have y7 := blk_cell (j := 7) (v := .bool s.f7) HX3.out (by rw [hBX]; rfl)
    have hq1 : W.heap.size < w3.heap.size := lt_of_block HX3.out
    obtain ⟨gcs, hgb⟩ := HU3.out.lent.blk
    have hq2 : g < w3.heap.size := lt_of_block hgb
    clear htw hb3 x3 HU2 HX2 HI3 hBW hgb hany
    go_wp2_with fail
    go_region
    have HS0 := Aside0.mk (AddSt.new w3 t.f4 s.f2 s.f7)
    have z3 := blk_cell (j := 3) (v := .slice A3 s.f3.length c3) (blk_below HX3.out HS0.out.below) (by rw [hBX]; rfl)
    go_wp2
    clear a4 y2 y7 z3
    go_loopg [8, 9, 44] s.f3.length (fun gg _ _ u44 wr => ∃ j : Nat, ∃ iv : Value, ∃ ids : List Int, j ≤ s.f3.length ∧ s.f3.length - j ≤ gg ∧ u44 = .int .i64 j ∧ Aside0 (AddSt w3 wr t.f4 s.f2 s.f7 iv ids) ∧ Aside0 (ids.length = j) ∧ Aside0 (idsOf t.f2 s.f3 = (idsOf t.f2 (s.f3.drop j)).map (ids ++ ·)))
    case atStart => exact ⟨0, _, [], Nat.zero_le _, by omega, rfl, HS0, ⟨rfl⟩, ⟨by rw [List.drop_zero]; cases idsOf t.f2 s.f3 <;> rfl⟩⟩
    case round =>
      clear HS0
      obtain ⟨j, iv, ids, hj, hgj, rfl, HS, HJ, HA⟩ := hrel
      obtain ⟨Av, cw, hiv⟩ := Kd.R_slice HS.out.row
      rw [HJ.out] at hiv
      subst hiv
      have HU := Aside0.mk (HU3.out.step HS.out.below)
      by_cases hlt : j < s.f3.length
      · have hltz : (j : Int) < (s.f3.length : Int) := by omega
        have HBW := Aside0.mk (HB.out.trans HU.out.tch.below)
        obtain ⟨a3', eA3, es⟩ := at_str (Kd.C_below HC.out HBW.out) j hlt
        cases eA3
        have hA := HA.out
        rw [List.drop_eq_getElem_cons hlt] at hA
        generalize s.f3[j] = nme at es hA
        obtain ⟨-, hcc, hC⟩ := Kd.R_reads' HU.out.lent.cols
        have HQ := Lib.hid (column_calls143 nme true ⟨g, i * 5, none⟩ t.f2 Ac cc wr (HU.out.lent.cell 2 rfl) hC)
        rw [cNamed_true] at HQ
        clear HA hC
        rcases idxL_at (cShown nme) t.f2 with hix | ⟨k', hk', hix, -⟩
        · have HR := Lib.hid (show (T, id, er) = (t, 0, 5) by rw [HI4.out, hA]; unfold idsOf; rw [hix]; rfl)
          rw [hix] at HQ
          clear hA hix HI4
          go_wp2_with fail
          refine HQ.out.mono ?_
          rintro e w4 ⟨rfl, hb4⟩
          go_wp2
          go_ret2
          obtain ⟨rfl, rfl, rfl⟩ : T = t ∧ id = 0 ∧ er = 5 := by have := HR.out; simp only [Prod.mk.injEq] at this; exact this
          exact ⟨rfl, (HU.out.step hb4).done⟩
        · have hA2 : idsOf t.f2 s.f3 = (idsOf t.f2 (s.f3.drop (j + 1))).map ((ids ++ [(rd_T75 t.f2 (k' : Int)).f0]) ++ ·) := by
            rw [hA]
            show (if idxL (cShown nme) t.f2 0 < 0 then none else (idsOf t.f2 (s.f3.drop (j + 1))).map ((rd_T75 t.f2 (idxL (cShown nme) t.f2 0)).f0 :: ·)).map (ids ++ ·) = _
            rw [hix, if_neg (by omega)]
            cases idsOf t.f2 (s.f3.drop (j + 1)) <;> simp
          rw [hix] at HQ
          have hk2 : (k' : Int) < (t.f2.length : Int) := by omega
          have hk0 : (0 : Int) ≤ (k' : Int) := by omega
          have HA2 := Aside0.mk hA2
          clear hA hix hA2
          go_wp2_with fail
          refine HQ.out.mono ?_
          rintro e wq ⟨rfl, hbq⟩
          have HUq := Aside0.mk (HU.out.step hbq)
          have HSq := Aside0.mk (HS.out.step hbq)
          obtain ⟨-, -, hCq⟩ := Kd.R_reads' HUq.out.lent.cols
          obtain ⟨ac, eA, e0, -⟩ := at_T75 hCq (k' : Int) (by omega) (by omega)
          cases eA
          have hA2 := HA2.out
          generalize (rd_T75 t.f2 (k' : Int)).f0 = ik at e0 hA2
          simp only [Int.toNat_natCast] at e0
          have HA := Aside0.mk hA2
          have b2 := blk_cell (j := 2) (v := .slice Av j cw) HSq.out.box rfl
          have a2 := HUq.out.lent.cell 2 rfl
          have q1 : w3.heap.size < wq.heap.size := lt_of_block HSq.out.box
          have q2 : g < wq.heap.size := World.block_lt_of_cell? wq _ a2
          have q3 : (ac.add (k' * 9)).block < wq.heap.size := World.block_lt_of_cell? wq _ e0
          clear es HQ HS HU hCq HA2 hA2 hbq
          go_wp2_with fail
          go_region_law
            ((refine step_R (Kd.int .i64) (by rfl) (.tmp 54) (.tmp 63) 40 3 (.int .i64 0) 8 (by rfl) Tryd.underlying40 info3 (by rfl) (by decide) (by decide) w3.heap.size (.slice Av j cw) ids ik [.int .i64 ik] (fun _ => True) (fun _ => False) (by rfl) (by repeat (first | exact HSq.out.row | refine Kd.R_drew ?_ | refine Kd.R_alloc ?_ _)) ⟨wq.heap.size, 0, none⟩ (by rfl) (World.news_of_block (cs := #[_]) (t := 3) (fr := (0, 0)) (heap_alloc_new wq _)) rfl (fun _ h => h.elim) (fun _ _ => trivial) (by simp; omega) (by rw [HJ.out]; omega) ?_; intro A1 c1 w1 hr hg1; have hx1 := (hg1.block w3.heap.size (Nat.lt_of_lt_of_le q1 (by simp)) (Kd.R_ne HSq.out.row HSq.out.box (by decide))).trans (blk_alloc HSq.out.box (.cells #[.int .i64 ik] 3)); have d1 := blk_cell (j := 2) (v := .slice Av j cw) hx1 rfl; have f1 := blk_frozen hx1 2))
          all_goals
            have hst := HSq.out.next (below_drew (below_alloc (Below.refl _ _) _)) hg1 hr
            have HN2 := Aside0.mk hst
            clear hst hr hg1 hx1 d1 f1 e0 b2 a2
            go_wp2
            go_roundg (s.f3.length - (j + 1))
            case measure => omega
            case rel => exact ⟨j + 1, _, ids ++ [ik], by omega, by omega, by go_num, HN2, ⟨by rw [List.length_append, HJ.out]; rfl⟩, HA⟩
      · have hltz : ¬ (j : Int) < (s.f3.length : Int) := by omega
        have hA := HA.out
        rw [List.drop_eq_nil_of_le (by omega)] at hA
        have hA2 : idsOf t.f2 s.f3 = some ids := by rw [hA]; simp [idsOf]
        have HI5 := Lib.hid (HI4.out.trans (by rw [hA2]))
        have a3 := HU.out.lent.cell 3 rfl
        have a4 := HU.out.lent.cell 4 rfl
        clear hA hA2 HA HI4
        by_cases h4 : 4 ≤ t.f3.length
        · have hd : ((t.f3.length : Int) == 4) = true := by rw [beq_iff_eq]; omega
          have HR := Lib.hid (show (T, id, er) = (t, 0, 4) by rw [HI5.out]; exact if_pos (.inl h4))
          clear h4 HI5
          go_wp2
          all_goals
            go_ret2
            obtain ⟨rfl, rfl, rfl⟩ : T = t ∧ id = 0 ∧ er = 4 := by have := HR.out; simp only [Prod.mk.injEq] at this; exact this
            exact ⟨rfl, HU.out.done⟩
        have hd : ((t.f3.length : Int) == 4) = false := by rw [beq_eq_false_iff_ne]; omega
        by_cases h6 : 60000 ≤ t.f4
        · have HR := Lib.hid (show (T, id, er) = (t, 0, 4) by rw [HI5.out]; exact if_pos (.inr h6))
          have hd6 : decide (60000 ≤ t.f4) = true := decide_eq_true h6
          clear h4 h6 HI5
          go_wp2
          go_ret2
          obtain ⟨rfl, rfl, rfl⟩ : T = t ∧ id = 0 ∧ er = 4 := by have := HR.out; simp only [Prod.mk.injEq] at this; exact this
          exact ⟨rfl, HU.out.done⟩
        have HI6 := Lib.hid (HI5.out.trans (if_neg (show ¬ (4 ≤ t.f3.length ∨ 60000 ≤ t.f4) by omega)))
        have hd6 : decide (60000 ≤ t.f4) = false := decide_eq_false h6
        have hn0 := HB4.out
        have x0 := blk_cell (j := 0) (v := .int .i64 t.f4) HS.out.box rfl
        have x1 := blk_cell (j := 1) (v := .string s.f2) HS.out.box rfl
        have x2 := blk_cell (j := 2) (v := .slice Av j cw) HS.out.box rfl
        have x3 := blk_cell (j := 3) (v := .bool s.f7) HS.out.box rfl
        have x4 := blk_cell (j := 4) (v := .int .i64 1) HS.out.box rfl
        have hzn : w3.heap.size < wr.heap.size := lt_of_block HS.out.box
        have hgn : g < wr.heap.size := World.block_lt_of_cell? wr _ a3
        have hne : w3.heap.size ≠ g := by omega
        have hne' : g ≠ w3.heap.size := by omega
        have HM := Aside0.mk (k98_mkM wr w0.heap.size (fun k => w3.heap.size ≤ k) ⟨t.f4, s.f2, ids, s.f7, 1⟩ (Kd.R_lower (Kd.R_mono (Kd.R_bound HS.out.row) (fun k hk => hk.2.1)) (Nat.le_trans HU3.out.base HU3.out.tch.size)))
        have HBZ := Aside0.mk (Nat.le_trans HU.out.base HU.out.tch.size)
        clear HI5 h4 h6
        go_wp2_with fail
        go_region_law
          ((refine step_R k98 (by rfl) (.tmp 84) (.tmp 86) 68 98 (.agg #[(.int .i64 0), (.string ⟨#[]⟩), (.slice none 0 0), (.bool false), (.int .i64 0)]) 64 (by rfl) Tryd.underlying68 info98 (by rfl) (by decide) (by decide) w0.heap.size (.slice Ai t.f3.length ci) t.f3 (⟨t.f4, s.f2, ids, s.f7, 1⟩ : S98) [.int .i64 t.f4, .string s.f2, .slice Av j cw, .bool s.f7, .int .i64 1] oki (fun k => w3.heap.size ≤ k) (by rfl) (by repeat (first | exact HU.out.lent.inds | refine Kd.R_drew ?_ | refine Kd.R_alloc ?_ _)) ⟨wr.heap.size, 0, none⟩ (by rfl) (World.news_of_block (cs := #[_, _, _, _, _]) (t := 98) (fr := (0, 0)) (heap_alloc_new wr _)) (by repeat (first | exact HM.out | refine k98.M_below ?_ (below_drew (Below.refl _ _)) | refine k98.M_below ?_ (below_alloc (Below.refl _ _) _))) (fun k hk => ⟨HU3.out.lent.fresh k hk, fun he => Nat.not_lt_of_le hk (Kd.R_lt HU3.out.lent.inds k he.symm)⟩) (fun k hk => HU.out.lent.fresh k (Nat.le_trans (by simp) hk)) (Nat.le_trans HBZ.out (by simp)) (by omega) ?_; intro A1 c1 w1 hr hg1; have hx1 : w1.heap[g]? = wr.heap[g]? := (hg1.block g (Nat.lt_of_lt_of_le hgn (by simp)) (fun e => HU.out.lent.oki_ne g (HU.out.lent.inds.1 g e.symm) rfl)).trans (heap_alloc_old wr _ hgn); have d1 := (cell_same (a := ⟨g, i * 5 + 3, none⟩) hx1).trans a3; have d4 := (cell_same (a := ⟨g, i * 5 + 4, none⟩) hx1).trans a4; have f1 := (frozen_same (a := ⟨g, i * 5 + 3, none⟩) hx1).trans (HU.out.lent.frozen _); have f4 := (frozen_same (a := ⟨g, i * 5 + 4, none⟩) hx1).trans (HU.out.lent.frozen _); have hy1 := (hg1.block w3.heap.size (Nat.lt_of_lt_of_le hzn (by simp)) (fun he => Nat.lt_irrefl _ (Kd.R_lt HU3.out.lent.inds w3.heap.size he.symm))).trans (blk_alloc HS.out.box _); have d0 := blk_cell (j := 0) (v := .int .i64 t.f4) hy1 rfl))
        all_goals
          have HF := Aside0.mk (((HU.out.step (below_drew (below_alloc (Below.refl _ _) _))).setI hg1 hr rfl).setN (t.f4 + 1) rfl)
          clear hr hg1 hx1 hy1 a3 a4 x0 x1 x2 x3 x4
          go_wp2
          go_ret2
          obtain ⟨rfl, rfl, rfl⟩ : T = _ ∧ id = t.f4 ∧ er = 0 := by have := HI6.out; simp only [Prod.mk.injEq] at this; exact this
          exact ⟨rfl, HF.out.done⟩
end Go.Proofs.YtjgomlcdmpcoaaaDoor.H
namespace Go.Proofs.YtjgomlcdmpcoaaaDoor.H
open Go.RowKit Go.Proofs.YtjgomlcdmpcoaaaDoorW.PrintWords Go.Proofs.YtjgomlcdmpcoaaaDoorW.PrintLast Go.Proofs.YtjgomlcdmpcoaaaDoorW.PrintMore
open Go.Proofs.YtjgomlcdmpcoaaaDoor.D Go.Proofs.YtjgomlcdmpcoaaaDoor
set_option linter.unusedVariables false
set_option linter.unusedSimpArgs false
def cName (n : ByteArray) (c : S75) : Bool := decide (c.f1.toList = n.toList)
def dflt (s : S45) : S73 := match s.f4 with
  | [] => ⟨0, 0, 0, ⟨#[]⟩⟩
  | d :: _ => d
def addColP (t : S70) (s : S45) : S70 × Int × Int :=
  if nameB s.f2 = false ∨ s.f8 < 1 ∨ 5 < s.f8 then (t, 0, 3)
  else if t.f2.any (cName s.f2) = true then (t, 0, 6)
  else if valB (dflt s) = false ∨ ((dflt s).f0 ≠ 0 ∧ (dflt s).f0 ≠ s.f8) then (t, 0, 7)
  else if 8 ≤ t.f2.length ∨ 60000 ≤ t.f4 then (t, 0, 4)
  else (⟨t.f0, t.f1, t.f2 ++ [⟨t.f4, s.f2, s.f8, 1, 0, dflt s⟩], t.f3, t.f4 + 1⟩, t.f4, 0)
theorem rval_calls (v : S73) (h : ValWf v) (w : World) : Calls Tryd.prog 118 #[.agg #[.int .i64 v.f0, .int .i64 v.f1, .int .u64 v.f2, .string v.f3]] w fun e w' => e = .returned (.bool (valB v)) ∧ Below w.heap.size w w' :=
  falseworkref2_May.calls v.f0 v.f1 v.f2 v.f3 _ w (ref_val v h)
structure ColSt (w2 wz : World) (n4 : Int) (nm_ : ByteArray) (kd : Int) (d : S73) : Prop where
  below : Below w2.heap.size w2 wz
  box : wz.heap[w2.heap.size]? = some (.cells #[.int .i64 n4, .string nm_, .int .i64 kd, .int .i64 1, .int .i64 0, .int .i64 d.f0, .int .i64 d.f1, .int .u64 d.f2, .string d.f3] 75 (0, 0))
theorem ColSt.new (w2 : World) (n4 : Int) (nm_ : ByteArray) (kd : Int) : ColSt w2 (w2.alloc (.cells #[.int .i64 n4, .string nm_, .int .i64 kd, .int .i64 1, .int .i64 0, .int .i64 0, .int .i64 0, .int .u64 0, .string ⟨#[]⟩] 75)).drew n4 nm_ kd ⟨0, 0, 0, ⟨#[]⟩⟩ :=
  ⟨below_drew (below_alloc (Below.refl _ _) _), heap_alloc_new w2 _⟩
theorem ColSt.step {w2 wz W : World} {n4 : Int} {nm_ : ByteArray} {kd : Int} {d : S73} (h : ColSt w2 wz n4 nm_ kd d) (hb : Below wz.heap.size wz W) : ColSt w2 W n4 nm_ kd d :=
  ⟨below_then h.below h.below.size hb, blk_below h.box hb⟩
theorem ColSt.put {w2 wz : World} {n4 : Int} {nm_ : ByteArray} {kd : Int} {d : S73} (h : ColSt w2 wz n4 nm_ kd d) (e : S73) :
    ColSt w2 ((((wz.setCell ⟨w2.heap.size, 5, none⟩ (.int .i64 e.f0)).setCell ⟨w2.heap.size, 6, none⟩ (.int .i64 e.f1)).setCell ⟨w2.heap.size, 7, none⟩ (.int .u64 e.f2)).setCell ⟨w2.heap.size, 8, none⟩ (.string e.f3)) n4 nm_ kd e :=
  ⟨(((h.below.setCell (p := ⟨w2.heap.size, 5, none⟩) (Nat.le_refl _) _).setCell (p := ⟨w2.heap.size, 6, none⟩) (Nat.le_refl _) _).setCell (p := ⟨w2.heap.size, 7, none⟩) (Nat.le_refl _) _).setCell (p := ⟨w2.heap.size, 8, none⟩) (Nat.le_refl _) _,
    blk_put (blk_put (blk_put (blk_put h.box 5 (.int .i64 e.f0) rfl) 6 (.int .i64 e.f1) rfl) 7 (.int .u64 e.f2) rfl) 8 (.string e.f3) rfl⟩
set_option maxRecDepth 100000 in
set_option maxHeartbeats 4000000 in
theorem addColumn_upd : Upd 63 addColP := by
  intro w0 W g n cap ts i oki t cv iv s cs hB hL ht hs hok
  obtain ⟨A3, c3, A4, c4, A5, c5, A6, c6, A9, c9, rfl, -, -, l4, g4, -, -, -, -, -, -⟩ := k45_open hs
  obtain ⟨m2, m3, m4, m5⟩ := tableB_lens ht
  obtain ⟨Ai, ci, hiv⟩ := Kd.R_slice hL.inds
  obtain ⟨Ac, cc, hcv⟩ := Kd.R_slice hL.cols
  subst hiv hcv
  have HC := Aside0.mk g4
  have hl4 := hok.2.1
  have HVW := Lib.hid hok.2.2.2.2.2
  obtain ⟨BX, hBX⟩ : ∃ b : Array Value, b = #[.int .i64 s.f0, .string s.f1, .string s.f2, .slice A3 s.f3.length c3, .slice A4 s.f4.length c4, .slice A5 s.f5.length c5, .slice A6 s.f6.length c6, .bool s.f7, .int .i64 s.f8, .slice A9 s.f9.length c9] := ⟨_, rfl⟩
  have HN := Lib.hid (fun w => rname_calls s.f2 w)
  have HI := Lib.hid (show addColP t s = _ by unfold addColP; exact rfl)
  have HU := Aside0.mk ((⟨hL, Tch.refl _ _, hB.size⟩ : UpdSt w0 W W g n cap ts i oki t (.slice Ac t.f2.length cc) (.slice Ai t.f3.length ci)).step (below_alloc (Below.refl _ _) (.cells #[.int .i64 s.f0, .string s.f1, .string s.f2, .slice A3 s.f3.length c3, .slice A4 s.f4.length c4, .slice A5 s.f5.length c5, .slice A6 s.f6.length c6, .bool s.f7, .int .i64 s.f8, .slice A9 s.f9.length c9] 45)))
  have HX0 := Aside0.mk (heap_alloc_new W (.cells #[.int .i64 s.f0, .string s.f1, .string s.f2, .slice A3 s.f3.length c3, .slice A4 s.f4.length c4, .slice A5 s.f5.length c5, .slice A6 s.f6.length c6, .bool s.f7, .int .i64 s.f8, .slice A9 s.f9.length c9] 45))
  have HB := Aside0.mk hB
  have HB4 := Aside0.mk (show 1 ≤ t.f4 ∧ t.f4 ≤ 60000 by unfold tableB at ht; simp only [Bool.and_eq_true, decide_eq_true_eq] at ht; exact ⟨ht.1, ht.2.1⟩)
  clear hB hL g4 hs hok
  by_cases hbad : nameB s.f2 = false ∨ s.f8 < 1 ∨ 5 < s.f8
  · have hR : addColP t s = (t, 0, 3) := by rw [HI.out, if_pos hbad]
    rw [hR]
    have hbad' : (nameB s.f2 = false) ∨ (nameB s.f2 = true ∧ decide (s.f8 < 1) = true) ∨ (nameB s.f2 = true ∧ decide (s.f8 < 1) = false ∧ decide (5 < s.f8) = true) := by
      cases hq : nameB s.f2
      · exact .inl rfl
      · rw [hq] at hbad
        by_cases h1 : s.f8 < 1
        · exact .inr (.inl ⟨rfl, decide_eq_true h1⟩)
        · exact .inr (.inr ⟨rfl, decide_eq_false h1, decide_eq_true (by have := hbad.resolve_left (by simp); omega)⟩)
    clear hR HI hbad
    rcases hbad' with h1 | ⟨h1, h2⟩ | ⟨h1, h2, h3⟩
    all_goals
      rw [h1] at HN
      clear h1
      go_enter Tryd.func63, Tryd.ntmps63
      go_wp2_with (go_at_call 34; refine (HN.out _).mono ?_; rintro e w1 ⟨rfl, hb1⟩; have hx1 := blk_below HX0.out hb1; have x8 := blk_cell (j := 8) (v := .int .i64 s.f8) hx1 rfl; clear hx1)
      go_ret2
      exact ⟨rfl, (HU.out.step hb1).done⟩
  obtain ⟨T, id, er, hTR⟩ : ∃ T id er, addColP t s = (T, id, er) := ⟨_, _, _, rfl⟩
  rw [hTR]
  rw [hTR] at HI
  have HI2 := Lib.hid (HI.out.trans (if_neg hbad))
  have hnm : nameB s.f2 = true := by
    cases hq : nameB s.f2
    · exact absurd (.inl hq) hbad
    · rfl
  rw [hnm] at HN
  have hd1 : decide (s.f8 < 1) = false := decide_eq_false (fun h => hbad (.inr (.inl h)))
  have hd5 : decide (5 < s.f8) = false := decide_eq_false (fun h => hbad (.inr (.inr h)))
  clear HI hnm hbad hTR
  go_enter Tryd.func63, Tryd.ntmps63
  go_wp2_with (go_at_call 34; refine (HN.out _).mono ?_; rintro e w1 ⟨rfl, hb1⟩; have hx1 := blk_below HX0.out hb1; have x8 := blk_cell (j := 8) (v := .int .i64 s.f8) hx1 rfl; have HX := Aside0.mk hx1; have HU1 := Aside0.mk (HU.out.step hb1); clear hx1 hb1)
  have HX1 := Aside0.mk (show w1.heap[W.heap.size]? = some (.cells BX 45 (0, 0)) by rw [hBX]; exact HX.out)
  clear HX HU x8 HN hd1 hd5 HX0
  go_loopg [6] t.f2.length (fun gg u6 wr => ∃ k : Nat, k ≤ t.f2.length ∧ t.f2.length - k ≤ gg ∧ u6 = .int .i64 k ∧ Aside0 (UpdSt w0 W wr g n cap ts i oki t (.slice Ac t.f2.length cc) (.slice Ai t.f3.length ci)) ∧ Aside0 (wr.heap[W.heap.size]? = some (.cells BX 45 (0, 0))) ∧ Aside0 (t.f2.any (cName s.f2) = (t.f2.drop k).any (cName s.f2)))
  case atStart => exact ⟨0, Nat.zero_le _, by omega, rfl, HU1, HX1, ⟨by rw [List.drop_zero]⟩⟩
  case round =>
    clear HU1 HX1
    obtain ⟨k, hk, hgk, rfl, HU, HX, HA⟩ := hrel
    have a2 := HU.out.lent.cell 2 rfl
    have x2 := blk_cell (j := 2) (v := .string s.f2) HX.out (by rw [hBX]; rfl)
    by_cases hlt : k < t.f2.length
    · have hltz : (k : Int) < (t.f2.length : Int) := by omega
      obtain ⟨-, -, hC⟩ := Kd.R_reads' HU.out.lent.cols
      obtain ⟨ae, eA5, e0, e1, -⟩ := at_T75 hC (k : Int) (by omega) (by omega)
      have hx : rd_T75 t.f2 (k : Int) = t.f2[k] := rd75 _ _ hlt
      rw [hx] at e0 e1
      simp only [Int.toNat_natCast] at e0 e1
      cases eA5
      have hdr : t.f2.drop k = t.f2[k] :: t.f2.drop (k + 1) := List.drop_eq_getElem_cons hlt
      have hA := HA.out
      rw [hdr, List.any_cons] at hA
      generalize t.f2[k] = x at e0 e1 hA
      clear hdr hx hC HA e0
      by_cases hm : x.f1.toList = s.f2.toList
      · have hq : (x.f1.toList == s.f2.toList) = true := by simpa using hm
        have hxn : cName s.f2 x = true := decide_eq_true hm
        have HR := Lib.hid (show (T, id, er) = (t, 0, 6) by rw [HI2.out, hA, hxn, if_pos (by rfl)])
        clear hA hm hxn
        go_wp2_with fail
        go_quiet (fail)
        go_wp2
        go_ret2
        obtain ⟨rfl, rfl, rfl⟩ : T = t ∧ id = 0 ∧ er = 6 := by have := HR.out; simp only [Prod.mk.injEq] at this; exact this
        exact ⟨rfl, (HU.out.step (pw_below_drewN (Below.refl _ _) _)).done⟩
      · have hq : (x.f1.toList == s.f2.toList) = false := by simpa using hm
        have hxn : cName s.f2 x = false := decide_eq_false hm
        rw [hxn, Bool.false_or] at hA
        have HA := Aside0.mk hA
        clear hA hm hxn
        go_wp2_with fail
        go_quiet (fail)
        go_wp2
        go_roundg (t.f2.length - (k + 1))
        case measure => omega
        case rel => exact ⟨k + 1, by omega, by omega, by go_num, ⟨HU.out.step (pw_below_drewN (Below.refl _ _) _)⟩, ⟨blk_below HX.out (pw_below_drewN (Below.refl _ _) _)⟩, HA⟩
    · have hltz : ¬ (k : Int) < (t.f2.length : Int) := by omega
      have hA := HA.out
      rw [List.drop_eq_nil_of_le (by omega), List.any_nil] at hA
      have HI3 := Lib.hid (HI2.out.trans (by rw [hA, if_neg (by simp)]))
      have x8 := blk_cell (j := 8) (v := .int .i64 s.f8) HX.out (by rw [hBX]; rfl)
      have a4 := HU.out.lent.cell 4 rfl
      have hq1 : W.heap.size < wr.heap.size := lt_of_block HX.out
      obtain ⟨gcs, hgb⟩ := HU.out.lent.blk
      have hq2 : g < wr.heap.size := lt_of_block hgb
      clear hA HA HI2 hgb
      have HS := Aside0.mk (ColSt.new wr t.f4 s.f2 s.f8)
      go_wp2_with fail
      go_region
      clear a2 a4 x2 x8
      generalize (wr.alloc (.cells #[.int .i64 t.f4, .string s.f2, .int .i64 s.f8, .int .i64 1, .int .i64 0, .int .i64 0, .int .i64 0, .int .u64 0, .string ⟨#[]⟩] 75)).drew = wz at HS ⊢
      have HX2 := Aside0.mk (blk_below HX.out HS.out.below)
      have x4 := blk_cell (j := 4) (v := .slice A4 s.f4.length c4) HX2.out (by rw [hBX]; rfl)
      have HW := Aside0.mk (HB.out.trans HU.out.tch.below)
      have HCz := Aside0.mk (Kd.C_below (Kd.C_below HC.out HW.out) (HS.out.below.mono (by have := HW.out.size; omega)))
      have hq3 : wr.heap.size < wz.heap.size := lt_of_block HS.out.box
      obtain ⟨d, hd⟩ : ∃ d, dflt s = d := ⟨_, rfl⟩
      rw [hd] at HI3
      have hcase : (s.f4.length = 0 ∧ d = ⟨0, 0, 0, ⟨#[]⟩⟩) ∨ (∃ h : 0 < s.f4.length, s.f4[0] = d) := by
        rw [← hd]
        unfold dflt
        cases s.f4 with
        | nil => exact .inl ⟨rfl, rfl⟩
        | cons a l => exact .inr ⟨by simp, rfl⟩
      have HVd := Lib.hid (show ValWf d by
        rcases hcase with ⟨-, rfl⟩ | ⟨h, rfl⟩
        · exact ⟨by decide, by decide⟩
        · exact HVW.out _ (List.getElem_mem h))
      clear hd HVW
      rcases hcase with ⟨h0, rfl⟩ | ⟨h0, hd⟩
      · have hz : decide (0 < (s.f4.length : Int)) = false := decide_eq_false (by omega)
        have HI4 := Lib.hid (HI3.out.trans (if_neg (show ¬ (valB ⟨0, 0, 0, ⟨#[]⟩⟩ = false ∨ ((0 : Int) ≠ 0 ∧ (0 : Int) ≠ s.f8)) by simp [valB, mayB])))
        have HSz := HS
        have hz' : ¬ (0 : Int) < (s.f4.length : Int) := by omega
        clear HI3 HS HVd
        have HUz := Aside0.mk (HU.out.step HSz.out.below)
        have a2 := HUz.out.lent.cell 2 rfl
        have a4 := HUz.out.lent.cell 4 rfl
        by_cases h8 : 8 ≤ t.f2.length
        · have hd8 : decide ((8 : Int) ≤ (t.f2.length : Int)) = true := decide_eq_true (by omega)
          have HR := Lib.hid (show (T, id, er) = (t, 0, 4) by rw [HI4.out]; exact if_pos (.inl h8))
          clear h8
          go_wp2
          go_ret2
          obtain ⟨rfl, rfl, rfl⟩ : T = t ∧ id = 0 ∧ er = 4 := by have := HR.out; simp only [Prod.mk.injEq] at this; exact this
          exact ⟨rfl, HUz.out.done⟩
        have hd8 : decide ((8 : Int) ≤ (t.f2.length : Int)) = false := decide_eq_false (by omega)
        by_cases h6 : 60000 ≤ t.f4
        · have HR := Lib.hid (show (T, id, er) = (t, 0, 4) by rw [HI4.out]; exact if_pos (.inr h6))
          have hd6 : decide (60000 ≤ t.f4) = true := decide_eq_true h6
          clear h8 h6
          go_wp2
          go_ret2
          obtain ⟨rfl, rfl, rfl⟩ : T = t ∧ id = 0 ∧ er = 4 := by have := HR.out; simp only [Prod.mk.injEq] at this; exact this
          exact ⟨rfl, HUz.out.done⟩
        have HI5 := Lib.hid (HI4.out.trans (if_neg (show ¬ (8 ≤ t.f2.length ∨ 60000 ≤ t.f4) by omega)))
        have hd6 : decide (60000 ≤ t.f4) = false := decide_eq_false h6
        have hn0 := HB4.out
        have f4 := HUz.out.lent.frozen (i * 5 + 4)
        have hUn := HUz.out.setN (t.f4 + 1) rfl
        obtain ⟨gc', hgb'⟩ := HUz.out.lent.blk
        have hne : wr.heap.size ≠ g := by omega
        have hxn := blk_far HSz.out.box (p := ⟨g, i * 5 + 4, none⟩) hne (.int .i64 (t.f4 + 1))
        have hzn : wr.heap.size < (wz.setCell ⟨g, i * 5 + 4, none⟩ (.int .i64 (t.f4 + 1))).heap.size := lt_of_block hxn
        have hgn : g < (wz.setCell ⟨g, i * 5 + 4, none⟩ (.int .i64 (t.f4 + 1))).heap.size := by have := lt_of_block hgb'; simpa [World.setCell] using this
        clear h8 h6
        go_wp2_with fail
        clear f4 a2 a4 hd8 hd6 hgb'
        generalize wz.setCell ⟨g, i * 5 + 4, none⟩ (.int .i64 (t.f4 + 1)) = wn at hUn hxn hzn hgn ⊢
        have a2 := hUn.lent.cell 2 rfl
        have x0 := blk_cell (j := 0) (v := .int .i64 t.f4) hxn rfl
        have x1 := blk_cell (j := 1) (v := .string s.f2) hxn rfl
        have x2 := blk_cell (j := 2) (v := .int .i64 s.f8) hxn rfl
        have x3 := blk_cell (j := 3) (v := .int .i64 1) hxn rfl
        have x4 := blk_cell (j := 4) (v := .int .i64 0) hxn rfl
        have x5 := blk_cell (j := 5) (v := .int .i64 0) hxn rfl
        have x6 := blk_cell (j := 6) (v := .int .i64 0) hxn rfl
        have x7 := blk_cell (j := 7) (v := .int .u64 0) hxn rfl
        have x8 := blk_cell (j := 8) (v := .string ⟨#[]⟩) hxn rfl
        have HUn := Aside0.mk hUn
        have HXn := Aside0.mk hxn
        have HBZ := Aside0.mk (Nat.le_trans hUn.base hUn.tch.size)
        clear hUn hxn
        go_region_law
          ((refine step_R k75 (by rfl) (.tmp 102) (.tmp 104) 67 75 (.agg #[(.int .i64 0), (.string ⟨#[]⟩), (.int .i64 0), (.int .i64 0), (.int .i64 0), (.int .i64 0), (.int .i64 0), (.int .u64 0), (.string ⟨#[]⟩)]) 88 (by rfl) Tryd.underlying67 info75 (by rfl) (by decide) (by decide) w0.heap.size (.slice Ac t.f2.length cc) t.f2 (⟨t.f4, s.f2, s.f8, 1, 0, ⟨0, 0, 0, ⟨#[]⟩⟩⟩ : S75) [.int .i64 t.f4, .string s.f2, .int .i64 s.f8, .int .i64 1, .int .i64 0, .int .i64 0, .int .i64 0, .int .u64 0, .string ⟨#[]⟩] oki (fun _ => False) (by rfl) (by repeat (first | exact HUn.out.lent.cols | refine Kd.R_drew ?_ | refine Kd.R_alloc ?_ _)) ⟨wn.heap.size, 0, none⟩ (by rfl) (World.news_of_block (cs := #[_, _, _, _, _, _, _, _, _]) (t := 75) (fr := (0, 0)) (heap_alloc_new wn _)) (k75_mkM _ _ _ (⟨t.f4, s.f2, s.f8, 1, 0, ⟨0, 0, 0, ⟨#[]⟩⟩⟩ : S75)) (fun _ h => h.elim) (fun k hk => HUn.out.lent.fresh k (Nat.le_trans (by simp) hk)) (Nat.le_trans HBZ.out (by simp)) (by omega) ?_; intro A1 c1 w1 hr hg1; have hx1 : w1.heap[g]? = wn.heap[g]? := (hg1.block g (Nat.lt_of_lt_of_le hgn (by simp)) (fun e => HUn.out.lent.oki_ne g (HUn.out.lent.cols.1 g e.symm) rfl)).trans (heap_alloc_old wn _ hgn); have d1 := (cell_same (a := ⟨g, i * 5 + 2, none⟩) hx1).trans a2; have f1 := (frozen_same (a := ⟨g, i * 5 + 2, none⟩) hx1).trans (HUn.out.lent.frozen _); have hy1 := (hg1.block wr.heap.size (Nat.lt_of_lt_of_le hzn (by simp)) (fun he => Nat.lt_irrefl _ (Kd.R_lt HU.out.lent.cols wr.heap.size he.symm))).trans (blk_alloc HXn.out _); have d0 := blk_cell (j := 0) (v := .int .i64 t.f4) hy1 rfl))
        all_goals
          have HF := Aside0.mk ((HUn.out.step (below_drew (below_alloc (Below.refl _ _) _))).setC hg1 hr rfl)
          clear hr hg1 hx1 hy1 a2 x0 x1 x2 x3 x4 x5 x6 x7 x8
          go_wp2
          go_ret2
          obtain ⟨rfl, rfl, rfl⟩ : T = _ ∧ id = t.f4 ∧ er = 0 := by have := HI5.out; simp only [Prod.mk.injEq] at this; exact this
          exact ⟨rfl, HF.out.done⟩
      · have hz : decide (0 < (s.f4.length : Int)) = true := decide_eq_true (by omega)
        obtain ⟨a4_, eA4, v0, v1, v2, v3⟩ := at_T73 HCz.out 0 (by omega) (by omega)
        rw [show rd_T73 s.f4 0 = d by rw [← hd]; unfold rd_T73; simp [List.getD, h0]] at v0 v1 v2 v3
        have ead : a4_.add ((0 : Int).toNat * 4) = a4_ := by cases a4_; rfl
        rw [ead] at v0 v1 v2 v3
        subst eA4
        have f5 := blk_frozen HS.out.box 5
        have f6 := blk_frozen HS.out.box 6
        have f7 := blk_frozen HS.out.box 7
        have f8 := blk_frozen HS.out.box 8
        have q5 := blk_cell (j := 5) (v := .int .i64 0) HS.out.box rfl
        have q6 := blk_cell (j := 6) (v := .int .i64 0) HS.out.box rfl
        have q7 := blk_cell (j := 7) (v := .int .u64 0) HS.out.box rfl
        have q8 := blk_cell (j := 8) (v := .string ⟨#[]⟩) HS.out.box rfl
        have h4l : (0 : Int) < (s.f4.length : Int) := by omega
        have HS3 := Aside0.mk (HS.out.put d)
        clear h0 hd
        go_wp2_with fail
        clear f5 f6 f7 f8 q5 q6 q7 q8 v0 v1 v2 v3 x4 HS
        refine (rval_calls d HVd.out _).mono ?_
        rintro e w5 ⟨rfl, hb5⟩
        have HSz := Aside0.mk (HS3.out.step hb5)
        have HX5 := Aside0.mk (blk_below HX.out HSz.out.below)
        have q5 := blk_cell (j := 5) (v := .int .i64 d.f0) HSz.out.box rfl
        have x8 := blk_cell (j := 8) (v := .int .i64 s.f8) HX5.out (by rw [hBX]; rfl)
        have hwz5 : wr.heap.size < w5.heap.size := lt_of_block HSz.out.box
        clear hb5 HS3 HX2 HCz hq3
        by_cases hbad : valB d = false ∨ (d.f0 ≠ 0 ∧ d.f0 ≠ s.f8)
        · have HR := Lib.hid (show (T, id, er) = (t, 0, 7) by rw [HI3.out]; exact if_pos hbad)
          have hbad' : valB d = false ∨ (valB d = true ∧ (d.f0 != 0) = true ∧ (d.f0 != s.f8) = true) := by
            rcases hbad with h | ⟨h1, h2⟩
            · exact .inl h
            · cases hq : valB d
              · exact .inl rfl
              · exact .inr ⟨rfl, by simpa using h1, by simpa using h2⟩
          clear hbad HI3 HVd
          have HUz := Aside0.mk (HU.out.step HSz.out.below)
          rcases hbad' with h | ⟨h, h1, h2⟩
          all_goals
            rw [h]
            clear h
            go_wp2
            go_ret2
            obtain ⟨rfl, rfl, rfl⟩ : T = t ∧ id = 0 ∧ er = 7 := by have := HR.out; simp only [Prod.mk.injEq] at this; exact this
            exact ⟨rfl, HUz.out.done⟩
        have HI4 := Lib.hid (HI3.out.trans (if_neg hbad))
        have hok' : valB d = true ∧ (((d.f0 != 0) = false) ∨ ((d.f0 != 0) = true ∧ (d.f0 != s.f8) = false)) := by
          refine ⟨by cases hq : valB d; exact absurd (.inl hq) hbad; rfl, ?_⟩
          by_cases h0 : d.f0 = 0
          · exact .inl (by simpa using h0)
          · refine .inr ⟨by simpa using h0, ?_⟩
            have : d.f0 = s.f8 := Classical.byContradiction fun h => hbad (.inr ⟨h0, h⟩)
            simpa using this
        obtain ⟨hv, hk2⟩ := hok'
        rw [hv]
        clear hbad HI3 HVd hv
        rcases hk2 with h1 | ⟨h1, h2⟩
        all_goals
          have HUz := Aside0.mk (HU.out.step HSz.out.below)
          have a2 := HUz.out.lent.cell 2 rfl
          have a4 := HUz.out.lent.cell 4 rfl
          by_cases h8 : 8 ≤ t.f2.length
          · have hd8 : decide ((8 : Int) ≤ (t.f2.length : Int)) = true := decide_eq_true (by omega)
            have HR := Lib.hid (show (T, id, er) = (t, 0, 4) by rw [HI4.out]; exact if_pos (.inl h8))
            clear h8
            go_wp2
            go_ret2
            obtain ⟨rfl, rfl, rfl⟩ : T = t ∧ id = 0 ∧ er = 4 := by have := HR.out; simp only [Prod.mk.injEq] at this; exact this
            exact ⟨rfl, HUz.out.done⟩
          have hd8 : decide ((8 : Int) ≤ (t.f2.length : Int)) = false := decide_eq_false (by omega)
          by_cases h6 : 60000 ≤ t.f4
          · have HR := Lib.hid (show (T, id, er) = (t, 0, 4) by rw [HI4.out]; exact if_pos (.inr h6))
            have hd6 : decide (60000 ≤ t.f4) = true := decide_eq_true h6
            clear h8 h6
            go_wp2
            go_ret2
            obtain ⟨rfl, rfl, rfl⟩ : T = t ∧ id = 0 ∧ er = 4 := by have := HR.out; simp only [Prod.mk.injEq] at this; exact this
            exact ⟨rfl, HUz.out.done⟩
          have HI5 := Lib.hid (HI4.out.trans (if_neg (show ¬ (8 ≤ t.f2.length ∨ 60000 ≤ t.f4) by omega)))
          have hd6 : decide (60000 ≤ t.f4) = false := decide_eq_false h6
          have hn0 := HB4.out
          have f4 := HUz.out.lent.frozen (i * 5 + 4)
          have hUn := HUz.out.setN (t.f4 + 1) rfl
          obtain ⟨gc', hgb'⟩ := HUz.out.lent.blk
          have hne : wr.heap.size ≠ g := by omega
          have hxn := blk_far HSz.out.box (p := ⟨g, i * 5 + 4, none⟩) hne (.int .i64 (t.f4 + 1))
          have hzn : wr.heap.size < (w5.setCell ⟨g, i * 5 + 4, none⟩ (.int .i64 (t.f4 + 1))).heap.size := lt_of_block hxn
          have hgn : g < (w5.setCell ⟨g, i * 5 + 4, none⟩ (.int .i64 (t.f4 + 1))).heap.size := by have := lt_of_block hgb'; simpa [World.setCell] using this
          clear h8 h6
          go_wp2_with fail
          clear f4 a2 a4 hd8 hd6 hgb'
          generalize w5.setCell ⟨g, i * 5 + 4, none⟩ (.int .i64 (t.f4 + 1)) = wn at hUn hxn hzn hgn ⊢
          have a2 := hUn.lent.cell 2 rfl
          have x0 := blk_cell (j := 0) (v := .int .i64 t.f4) hxn rfl
          have x1 := blk_cell (j := 1) (v := .string s.f2) hxn rfl
          have x2 := blk_cell (j := 2) (v := .int .i64 s.f8) hxn rfl
          have x3 := blk_cell (j := 3) (v := .int .i64 1) hxn rfl
          have x4 := blk_cell (j := 4) (v := .int .i64 0) hxn rfl
          have x5 := blk_cell (j := 5) (v := .int .i64 d.f0) hxn rfl
          have x6 := blk_cell (j := 6) (v := .int .i64 d.f1) hxn rfl
          have x7 := blk_cell (j := 7) (v := .int .u64 d.f2) hxn rfl
          have x8 := blk_cell (j := 8) (v := .string d.f3) hxn rfl
          have HUn := Aside0.mk hUn
          have HXn := Aside0.mk hxn
          have HBZ := Aside0.mk (Nat.le_trans hUn.base hUn.tch.size)
          clear hUn hxn
          go_region_law
            ((refine step_R k75 (by rfl) (.tmp 102) (.tmp 104) 67 75 (.agg #[(.int .i64 0), (.string ⟨#[]⟩), (.int .i64 0), (.int .i64 0), (.int .i64 0), (.int .i64 0), (.int .i64 0), (.int .u64 0), (.string ⟨#[]⟩)]) 88 (by rfl) Tryd.underlying67 info75 (by rfl) (by decide) (by decide) w0.heap.size (.slice Ac t.f2.length cc) t.f2 (⟨t.f4, s.f2, s.f8, 1, 0, d⟩ : S75) [.int .i64 t.f4, .string s.f2, .int .i64 s.f8, .int .i64 1, .int .i64 0, .int .i64 d.f0, .int .i64 d.f1, .int .u64 d.f2, .string d.f3] oki (fun _ => False) (by rfl) (by repeat (first | exact HUn.out.lent.cols | refine Kd.R_drew ?_ | refine Kd.R_alloc ?_ _)) ⟨wn.heap.size, 0, none⟩ (by rfl) (World.news_of_block (cs := #[_, _, _, _, _, _, _, _, _]) (t := 75) (fr := (0, 0)) (heap_alloc_new wn _)) (k75_mkM _ _ _ (⟨t.f4, s.f2, s.f8, 1, 0, d⟩ : S75)) (fun _ h => h.elim) (fun k hk => HUn.out.lent.fresh k (Nat.le_trans (by simp) hk)) (Nat.le_trans HBZ.out (by simp)) (by omega) ?_; intro A1 c1 w1 hr hg1; have hx1 : w1.heap[g]? = wn.heap[g]? := (hg1.block g (Nat.lt_of_lt_of_le hgn (by simp)) (fun e => HUn.out.lent.oki_ne g (HUn.out.lent.cols.1 g e.symm) rfl)).trans (heap_alloc_old wn _ hgn); have d1 := (cell_same (a := ⟨g, i * 5 + 2, none⟩) hx1).trans a2; have f1 := (frozen_same (a := ⟨g, i * 5 + 2, none⟩) hx1).trans (HUn.out.lent.frozen _); have hy1 := (hg1.block wr.heap.size (Nat.lt_of_lt_of_le hzn (by simp)) (fun he => Nat.lt_irrefl _ (Kd.R_lt HU.out.lent.cols wr.heap.size he.symm))).trans (blk_alloc HXn.out _); have d0 := blk_cell (j := 0) (v := .int .i64 t.f4) hy1 rfl))
          all_goals
            have HF := Aside0.mk ((HUn.out.step (below_drew (below_alloc (Below.refl _ _) _))).setC hg1 hr rfl)
            clear hr hg1 hx1 hy1 a2 x0 x1 x2 x3 x4 x5 x6 x7 x8
            go_wp2
            go_ret2
            obtain ⟨rfl, rfl, rfl⟩ : T = _ ∧ id = t.f4 ∧ er = 0 := by have := HI5.out; simp only [Prod.mk.injEq] at this; exact this
            exact ⟨rfl, HF.out.done⟩
end Go.Proofs.YtjgomlcdmpcoaaaDoor.H
