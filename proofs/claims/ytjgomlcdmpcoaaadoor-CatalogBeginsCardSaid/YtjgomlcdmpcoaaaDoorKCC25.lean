/- Own texts of this session, packed by its program wip/pp/pack.py: lemmas and walks of functions. -/
import Derived.Test.YtjgomlcdmpcoaaaDoorKCC19
import Derived.Test.YtjgomlcdmpcoaaaDoorKCC21
namespace Go.Proofs.YtjgomlcdmpcoaaaDoor.H
open Go.RowKit Go.Proofs.YtjgomlcdmpcoaaaDoorW.PrintWords Go.Proofs.YtjgomlcdmpcoaaaDoorW.PrintLast Go.Proofs.YtjgomlcdmpcoaaaDoorW.PrintMore
open Go.Proofs.YtjgomlcdmpcoaaaDoor.D Go.Proofs.YtjgomlcdmpcoaaaDoor
set_option linter.unusedVariables false
set_option linter.unusedSimpArgs false
def xShown (n : ByteArray) (x : S98) : Bool := decide (x.f1.toList = n.toList) && decide (x.f4 = 4)
def dropI (t : S70) (k : Int) : S70 × Int × Int := if k < 0 then (t, 0, 5) else (turnI t k.toNat 3, (rd_T98 t.f3 k).f0, 0)
def dropC (t : S70) (kind k : Int) : S70 × Int × Int :=
  if k < 0 then (t, 0, 5)
  else if kind = 10 then (if (rd_T75 t.f2 k).f4 = 0 then (turnN t k.toNat 1, (rd_T75 t.f2 k).f0, 0) else (t, 0, 6))
  else if k = 0 then (t, 0, 8)
  else if kind = 11 then (if (rd_T75 t.f2 k).f4 = 4 then (turnN t k.toNat 3, (rd_T75 t.f2 k).f0, 0) else (t, 0, 12))
  else if usedB (rd_T75 t.f2 k).f0 t.f3 = true ∨ (rd_T75 t.f2 k).f4 ≠ 0 then (t, 0, 18)
  else (turnC t k.toNat 3, (rd_T75 t.f2 k).f0, 0)
def dropP (t : S70) (s : S45) : S70 × Int × Int := if s.f0 = 7 then dropI t (idxL (xShown s.f2) t.f3 0) else dropC t s.f0 (idxL (cShown s.f2) t.f2 0)
theorem skip_shutD {c : Bool} {A B : Prop} (h : c = false) (hB : B) : if c = true then A else B := by
  rw [h, if_neg (by simp)]
  exact hB
theorem rused_calls (t : S70) (h3 : t.f3.length ≤ 4) (hn : ∀ x ∈ t.f3, x.f2.length ≤ 8) (n : Int) (A2 : Option Addr) (c2 : Nat) (A3 : Option Addr) (c3 : Nat) (w : World) (l2 : t.f2.length ≤ c2) (g2 : k75.C w A2 t.f2.length t.f2) (l3 : t.f3.length ≤ c3) (g3 : k98.C w A3 t.f3.length t.f3) :
    Calls Tryd.prog 68 #[.agg #[.int .i64 t.f0, .string t.f1, .slice A2 t.f2.length c2, .slice A3 t.f3.length c3, .int .i64 t.f4], .int .i64 n] w fun e w' => e = .returned (.bool (usedB n t.f3)) ∧ Below w.heap.size w w' := by
  have h := used_run (t := t) n (by omega) (fun x hx => by have := hn x hx; omega) t.f3.length 1001 0 (by omega) (by omega)
  rw [List.drop_zero] at h
  exact falseworkref18_used.calls 1001 t.f0 t.f1 A2 c2 t.f2 A3 c3 t.f3 t.f4 n _ w g2 l2 g3 l3 h
set_option maxRecDepth 100000 in
set_option maxHeartbeats 4000000 in
theorem drop_upd : Upd 64 dropP := by
  intro w0 W g n cap ts i oki t cv iv s cs hB hL ht hs hok
  obtain ⟨A3, c3, A4, c4, A5, c5, A6, c6, A9, c9, rfl, -⟩ := k45_open hs
  obtain ⟨m2, m3, m4, m5⟩ := tableB_lens ht
  obtain ⟨Ai, ci, hiv⟩ := Kd.R_slice hL.inds
  obtain ⟨Ac, cc, hcv⟩ := Kd.R_slice hL.cols
  subst hiv hcv
  obtain ⟨BX, hBX⟩ : ∃ b : Array Value, b = #[.int .i64 s.f0, .string s.f1, .string s.f2, .slice A3 s.f3.length c3, .slice A4 s.f4.length c4, .slice A5 s.f5.length c5, .slice A6 s.f6.length c6, .bool s.f7, .int .i64 s.f8, .slice A9 s.f9.length c9] := ⟨_, rfl⟩
  have HU := Aside0.mk ((⟨hL, Tch.refl _ _, hB.size⟩ : UpdSt w0 W W g n cap ts i oki t (.slice Ac t.f2.length cc) (.slice Ai t.f3.length ci)).step (below_alloc (Below.refl _ _) (.cells #[.int .i64 s.f0, .string s.f1, .string s.f2, .slice A3 s.f3.length c3, .slice A4 s.f4.length c4, .slice A5 s.f5.length c5, .slice A6 s.f6.length c6, .bool s.f7, .int .i64 s.f8, .slice A9 s.f9.length c9] 45)))
  have HX0 := Aside0.mk (heap_alloc_new W (.cells #[.int .i64 s.f0, .string s.f1, .string s.f2, .slice A3 s.f3.length c3, .slice A4 s.f4.length c4, .slice A5 s.f5.length c5, .slice A6 s.f6.length c6, .bool s.f7, .int .i64 s.f8, .slice A9 s.f9.length c9] 45))
  have HI := Lib.hid (show dropP t s = _ by unfold dropP; exact rfl)
  obtain ⟨T, id, er, hTR⟩ : ∃ T id er, dropP t s = (T, id, er) := ⟨_, _, _, rfl⟩
  rw [hTR]
  rw [hTR] at HI
  have HN8 := Lib.hid (fun x hx => (m5 x hx).2)
  clear hB hL hs hok hTR ht m5
  by_cases hk7 : s.f0 = 7
  · have HI2 := Lib.hid (HI.out.trans (if_pos hk7))
    have hq7 : (s.f0 == 7) = true := by simpa using hk7
    clear HI hk7
    go_enter Tryd.func64, Tryd.ntmps64
    go_wp2_with fail
    have HX1 := Aside0.mk (show (W.alloc (.cells #[.int .i64 s.f0, .string s.f1, .string s.f2, .slice A3 s.f3.length c3, .slice A4 s.f4.length c4, .slice A5 s.f5.length c5, .slice A6 s.f6.length c6, .bool s.f7, .int .i64 s.f8, .slice A9 s.f9.length c9] 45)).heap[W.heap.size]? = some (.cells BX 45 (0, 0)) by rw [hBX]; exact HX0.out)
    clear HX0
    go_loopg [6] t.f3.length (fun gg u6 wr => ∃ k : Nat, k ≤ t.f3.length ∧ t.f3.length - k ≤ gg ∧ u6 = .int .i64 k ∧ Aside0 (UpdSt w0 W wr g n cap ts i oki t (.slice Ac t.f2.length cc) (.slice Ai t.f3.length ci)) ∧ Aside0 (wr.heap[W.heap.size]? = some (.cells BX 45 (0, 0))) ∧ Aside0 (idxL (xShown s.f2) t.f3 0 = idxL (xShown s.f2) (t.f3.drop k) k))
    case atStart => exact ⟨0, Nat.zero_le _, by omega, rfl, HU, HX1, ⟨by rw [List.drop_zero]⟩⟩
    case round =>
      clear HU HX1
      obtain ⟨k, hk, hgk, rfl, HU, HX, HA⟩ := hrel
      have a3 := HU.out.lent.cell 3 rfl
      have x2 := blk_cell (j := 2) (v := .string s.f2) HX.out (by rw [hBX]; rfl)
      by_cases hlt : k < t.f3.length
      · have hltz : (k : Int) < (t.f3.length : Int) := by omega
        have hk0 : (0 : Int) ≤ (k : Int) := by omega
        obtain ⟨gi, ci', hgi, -⟩ := Kd.R_form HU.out.lent.inds (by omega)
        obtain rfl : Ai = some ⟨gi, 0, none⟩ := by injection hgi
        obtain ⟨cz, hcl, hM, hcc, hfr⟩ := Kd.R_elem HU.out.lent.inds z98 (k : Int) (by omega) (by omega)
        rw [show t.f3.getD (k : Int).toNat z98 = t.f3[k] by simp [List.getD, hlt]] at hM
        obtain ⟨v2, rfl, -⟩ := k98_openM hM
        have e1 : wr.cell? ⟨gi, k * 5 + 1, none⟩ = some (.string t.f3[k].f1) := hcc 1 _ rfl
        have e4 : wr.cell? ⟨gi, k * 5 + 4, none⟩ = some (.int .i64 t.f3[k].f4) := hcc 4 _ rfl
        have hdr : t.f3.drop k = t.f3[k] :: t.f3.drop (k + 1) := List.drop_eq_getElem_cons hlt
        have hA := HA.out
        rw [hdr, idxL_cons] at hA
        clear hdr hcl hM hcc hfr HA hgi
        have hs3 : (xShown s.f2 t.f3[k] = true ∧ (t.f3[k].f1.toList == s.f2.toList) = true ∧ (t.f3[k].f4 == 4) = true) ∨ (xShown s.f2 t.f3[k] = false ∧ (t.f3[k].f1.toList == s.f2.toList) = false) ∨ (xShown s.f2 t.f3[k] = false ∧ (t.f3[k].f1.toList == s.f2.toList) = true ∧ (t.f3[k].f4 == 4) = false) := by
          unfold xShown
          by_cases h1 : t.f3[k].f1.toList = s.f2.toList
          · by_cases h2 : t.f3[k].f4 = 4
            · exact .inl ⟨by simp [h1, h2], by simpa using h1, by simpa using h2⟩
            · exact .inr (.inr ⟨by simp [h2], by simpa using h1, by simpa using h2⟩)
          · exact .inr (.inl ⟨by simp [h1], by simpa using h1⟩)
        rcases hs3 with ⟨hxs, hq1, hq4⟩ | ⟨hxs, hq1⟩ | ⟨hxs, hq1, hq4⟩
        · rw [hxs, if_pos rfl] at hA
          have HR := Lib.hid (show (T, id, er) = (turnI t k 3, t.f3[k].f0, 0) by rw [HI2.out, hA]; unfold dropI; rw [if_neg (by omega), Int.toNat_natCast, rd98 _ _ hlt])
          have hTI := Lib.hid (show turnI t k 3 = ⟨t.f0, t.f1, t.f2, t.f3.set k ⟨t.f3[k].f0, t.f3[k].f1, t.f3[k].f2, t.f3[k].f3, 3⟩, t.f4⟩ by unfold turnI; rw [if_neg (by decide), rd98 _ _ hlt])
          clear hA hxs HI2
          go_wp2_with fail
          go_quiet (fail)
          rename_i nq
          have hbq : Below wr.heap.size wr (wr.drewN nq) := pw_below_drewN (Below.refl _ _) _
          have HUq := Aside0.mk (HU.out.step hbq)
          clear a3 x2 e1 e4 HU
          generalize wr.drewN nq = wq at HUq ⊢
          have b3 := HUq.out.lent.cell 3 rfl
          obtain ⟨cz, hcl, hM, hcc, hfr⟩ := Kd.R_elem HUq.out.lent.inds z98 (k : Int) (by omega) (by omega)
          rw [show t.f3.getD (k : Int).toNat z98 = t.f3[k] by simp [List.getD, hlt]] at hM
          obtain ⟨v2, rfl, -⟩ := k98_openM hM
          have e0 : wq.cell? ⟨gi, k * 5, none⟩ = some (.int .i64 t.f3[k].f0) := hcc 0 _ rfl
          have e4 : wq.cell? ⟨gi, k * 5 + 4, none⟩ = some (.int .i64 t.f3[k].f4) := hcc 4 _ rfl
          have f4 : wq.frozen? ⟨gi, k * 5 + 4, none⟩ = false := hfr 4
          have HF := Aside0.mk (HUq.out.putI k hlt 3 rfl)
          have hne : g ≠ gi := fun e => HUq.out.lent.oki_ne gi (HUq.out.lent.inds.1 gi (by simp [Value.ownBlock])) e.symm
          have hne' : gi ≠ g := Ne.symm hne
          clear hcl hM hcc hfr
          go_wp2
          go_ret2
          obtain ⟨rfl, rfl, rfl⟩ : T = turnI t k 3 ∧ id = t.f3[k].f0 ∧ er = 0 := by have := HR.out; simp only [Prod.mk.injEq] at this; exact this
          rw [hTI.out]
          exact ⟨rfl, HF.out.done⟩
        all_goals
          rw [hxs, if_neg (by simp)] at hA
          have HA := Aside0.mk hA
          clear hA hxs
          go_wp2_with fail
          go_quiet (fail)
          go_wp2
          go_roundg (t.f3.length - (k + 1))
          case measure => omega
          case rel => exact ⟨k + 1, by omega, by omega, by go_num, ⟨HU.out.step (pw_below_drewN (Below.refl _ _) _)⟩, ⟨blk_below HX.out (pw_below_drewN (Below.refl _ _) _)⟩, HA⟩
      · have hltz : ¬ (k : Int) < (t.f3.length : Int) := by omega
        have hA := HA.out
        rw [List.drop_eq_nil_of_le (by omega)] at hA
        have HR := Lib.hid (show (T, id, er) = (t, 0, 5) by rw [HI2.out, hA]; rfl)
        clear hA HA HI2
        go_wp2
        go_ret2
        obtain ⟨rfl, rfl, rfl⟩ : T = t ∧ id = 0 ∧ er = 5 := by have := HR.out; simp only [Prod.mk.injEq] at this; exact this
        exact ⟨rfl, HU.out.done⟩
  · have HI2 := Lib.hid (HI.out.trans (if_neg hk7))
    have hq7 : (s.f0 == 7) = false := by simpa using hk7
    obtain ⟨-, lcc, hC0⟩ := Kd.R_reads' HU.out.lent.cols
    have HCC := Aside0.mk hC0
    have a2 := HU.out.lent.cell 2 rfl
    have hgl : g < W.heap.size + 1 := by have := World.block_lt_of_cell? _ _ a2; simpa using this
    obtain ⟨W0, hW0⟩ : ∃ W0, W0 = W.alloc (.cells #[.int .i64 s.f0, .string s.f1, .string s.f2, .slice A3 s.f3.length c3, .slice A4 s.f4.length c4, .slice A5 s.f5.length c5, .slice A6 s.f6.length c6, .bool s.f7, .int .i64 s.f8, .slice A9 s.f9.length c9] 45) := ⟨_, rfl⟩
    have HQ := Lib.hid (fun W' (hb : Below (W.alloc (.cells #[.int .i64 s.f0, .string s.f1, .string s.f2, .slice A3 s.f3.length c3, .slice A4 s.f4.length c4, .slice A5 s.f5.length c5, .slice A6 s.f6.length c6, .bool s.f7, .int .i64 s.f8, .slice A9 s.f9.length c9] 45)).heap.size (W.alloc (.cells #[.int .i64 s.f0, .string s.f1, .string s.f2, .slice A3 s.f3.length c3, .slice A4 s.f4.length c4, .slice A5 s.f5.length c5, .slice A6 s.f6.length c6, .bool s.f7, .int .i64 s.f8, .slice A9 s.f9.length c9] 45)) W') => rshown_calls t.f2 (by omega) s.f2 Ac cc W' (by omega) (Kd.C_below HCC.out hb))
    obtain ⟨ix, hix⟩ : ∃ ix, idxL (cShown s.f2) t.f2 0 = ix := ⟨_, rfl⟩
    have hia := idxL_at (cShown s.f2) t.f2
    rw [hix] at HQ HI2 hia
    clear HI hk7 hC0 hix
    go_enter Tryd.func64, Tryd.ntmps64
    go_wp2_with fail
    go_quiet ((go_at_call 117; exact Calls.quiet_of (HQ.out _ (pw_below_drewN (Below.refl _ _) _))))
    rename_i nq
    have hbq : Below (W.alloc (.cells #[.int .i64 s.f0, .string s.f1, .string s.f2, .slice A3 s.f3.length c3, .slice A4 s.f4.length c4, .slice A5 s.f5.length c5, .slice A6 s.f6.length c6, .bool s.f7, .int .i64 s.f8, .slice A9 s.f9.length c9] 45)).heap.size (W.alloc (.cells #[.int .i64 s.f0, .string s.f1, .string s.f2, .slice A3 s.f3.length c3, .slice A4 s.f4.length c4, .slice A5 s.f5.length c5, .slice A6 s.f6.length c6, .bool s.f7, .int .i64 s.f8, .slice A9 s.f9.length c9] 45)) ((W.alloc (.cells #[.int .i64 s.f0, .string s.f1, .string s.f2, .slice A3 s.f3.length c3, .slice A4 s.f4.length c4, .slice A5 s.f5.length c5, .slice A6 s.f6.length c6, .bool s.f7, .int .i64 s.f8, .slice A9 s.f9.length c9] 45)).drewN nq) := pw_below_drewN (Below.refl _ _) _
    have HUq := Aside0.mk (HU.out.step hbq)
    have HXq := Aside0.mk (blk_below HX0.out hbq)
    clear a2 HU HX0 HQ hW0 hgl HCC hbq
    generalize (W.alloc (.cells #[.int .i64 s.f0, .string s.f1, .string s.f2, .slice A3 s.f3.length c3, .slice A4 s.f4.length c4, .slice A5 s.f5.length c5, .slice A6 s.f6.length c6, .bool s.f7, .int .i64 s.f8, .slice A9 s.f9.length c9] 45)).drewN nq = wq at HUq HXq ⊢
    rcases hia with rfl | ⟨k, hlt, rfl, -⟩
    · have HR := Lib.hid (show (T, id, er) = (t, 0, 5) by rw [HI2.out]; rfl)
      clear HI2
      go_wp2
      go_ret2
      obtain ⟨rfl, rfl, rfl⟩ : T = t ∧ id = 0 ∧ er = 5 := by have := HR.out; simp only [Prod.mk.injEq] at this; exact this
      exact ⟨rfl, HUq.out.done⟩
    have HI3 := Lib.hid (HI2.out.trans (show dropC t s.f0 (k : Int) = _ by unfold dropC; rw [if_neg (by omega), rd75 _ _ hlt, Int.toNat_natCast]))
    have hltz : (k : Int) < (t.f2.length : Int) := by omega
    have hk0 : (0 : Int) ≤ (k : Int) := by omega
    obtain ⟨gi, ci', hgi, -⟩ := Kd.R_form HUq.out.lent.cols (by omega)
    obtain rfl : Ac = some ⟨gi, 0, none⟩ := by injection hgi
    obtain ⟨cz, hcl, hM, hcc, hfr⟩ := Kd.R_elem HUq.out.lent.cols z75 (k : Int) (by omega) (by omega)
    rw [show t.f2.getD (k : Int).toNat z75 = t.f2[k] by simp [List.getD, hlt]] at hM
    obtain rfl := k75_openM hM
    have e0 : wq.cell? ⟨gi, k * 9, none⟩ = some (.int .i64 t.f2[k].f0) := hcc 0 _ rfl
    have e3 : wq.cell? ⟨gi, k * 9 + 3, none⟩ = some (.int .i64 t.f2[k].f3) := hcc 3 _ rfl
    have e4 : wq.cell? ⟨gi, k * 9 + 4, none⟩ = some (.int .i64 t.f2[k].f4) := hcc 4 _ rfl
    have f3 : wq.frozen? ⟨gi, k * 9 + 3, none⟩ = false := hfr 3
    have f4 : wq.frozen? ⟨gi, k * 9 + 4, none⟩ = false := hfr 4
    have a2 := HUq.out.lent.cell 2 rfl
    have x0 := blk_cell (j := 0) (v := .int .i64 s.f0) HXq.out rfl
    obtain ⟨q10, hq10⟩ : ∃ q, (s.f0 == 10) = q := ⟨_, rfl⟩
    obtain ⟨q11, hq11⟩ : ∃ q, (s.f0 == 11) = q := ⟨_, rfl⟩
    clear hcl hM hcc hfr HI2 hgi
    by_cases h10 : s.f0 = 10
    · obtain rfl : q10 = true := by rw [← hq10]; simpa using h10
      by_cases h4 : t.f2[k].f4 = 0
      · have hn0 : (t.f2[k].f4 != 0) = false := by simpa using h4
        have HR := Lib.hid (show (T, id, er) = (turnN t k 1, t.f2[k].f0, 0) by rw [HI3.out]; rw [if_pos h10, if_pos h4])
        have hTI := Lib.hid (show turnN t k 1 = ⟨t.f0, t.f1, t.f2.set k ⟨t.f2[k].f0, t.f2[k].f1, t.f2[k].f2, t.f2[k].f3, 1, t.f2[k].f5⟩, t.f3, t.f4⟩ by unfold turnN; rw [rd75 _ _ hlt])
        clear HI3
        have HF := Aside0.mk (HUq.out.putN k hlt 1 rfl)
        go_wp2_with fail
        clear a2 e0 e3 e4 f3 f4 x0
        generalize wq.setCell ⟨gi, k * 9 + 4, none⟩ (.int .i64 1) = wf at HF ⊢
        obtain ⟨cz, hcl, hM, hcc, hfr⟩ := Kd.R_elem HF.out.lent.cols z75 (k : Int) (by omega) (by omega)
        rw [show (t.f2.set k ⟨t.f2[k].f0, t.f2[k].f1, t.f2[k].f2, t.f2[k].f3, 1, t.f2[k].f5⟩).getD (k : Int).toNat z75 = ⟨t.f2[k].f0, t.f2[k].f1, t.f2[k].f2, t.f2[k].f3, 1, t.f2[k].f5⟩ by simp [List.getD, hlt]] at hM
        obtain rfl := k75_openM hM
        have e0 : wf.cell? ⟨gi, k * 9, none⟩ = some (.int .i64 t.f2[k].f0) := hcc 0 _ rfl
        clear hcl hM hcc hfr
        go_wp2
        go_ret2
        obtain ⟨rfl, rfl, rfl⟩ : T = turnN t k 1 ∧ id = t.f2[k].f0 ∧ er = 0 := by have := HR.out; simp only [Prod.mk.injEq] at this; exact this
        rw [hTI.out]
        exact ⟨rfl, HF.out.done⟩
      · have hn0 : (t.f2[k].f4 != 0) = true := by simpa using h4
        have HR := Lib.hid (show (T, id, er) = (t, 0, 6) by rw [HI3.out]; rw [if_pos h10, if_neg h4])
        clear HI3
        go_wp2
        go_ret2
        obtain ⟨rfl, rfl, rfl⟩ : T = t ∧ id = 0 ∧ er = 6 := by have := HR.out; simp only [Prod.mk.injEq] at this; exact this
        exact ⟨rfl, HUq.out.done⟩
    obtain rfl : q10 = false := by rw [← hq10]; simpa using h10
    by_cases hkz : k = 0
    · have hz0 : ((k : Int) == 0) = true := by simpa using hkz
      have HR := Lib.hid (show (T, id, er) = (t, 0, 8) by rw [HI3.out]; rw [if_neg h10, if_pos (by omega)])
      clear HI3
      go_wp2
      go_ret2
      obtain ⟨rfl, rfl, rfl⟩ : T = t ∧ id = 0 ∧ er = 8 := by have := HR.out; simp only [Prod.mk.injEq] at this; exact this
      exact ⟨rfl, HUq.out.done⟩
    have hz0 : ((k : Int) == 0) = false := by simpa using hkz
    by_cases h11 : s.f0 = 11
    · obtain rfl : q11 = true := by rw [← hq11]; simpa using h11
      by_cases h4 : t.f2[k].f4 = 4
      · have hn4 : (t.f2[k].f4 != 4) = false := by simpa using h4
        have HR := Lib.hid (show (T, id, er) = (turnN t k 3, t.f2[k].f0, 0) by rw [HI3.out]; rw [if_neg h10, if_neg (by omega), if_pos h11, if_pos h4])
        have hTI := Lib.hid (show turnN t k 3 = ⟨t.f0, t.f1, t.f2.set k ⟨t.f2[k].f0, t.f2[k].f1, t.f2[k].f2, t.f2[k].f3, 3, t.f2[k].f5⟩, t.f3, t.f4⟩ by unfold turnN; rw [rd75 _ _ hlt])
        clear HI3
        have HF := Aside0.mk (HUq.out.putN k hlt 3 rfl)
        go_wp2_with fail
        clear a2 e0 e3 e4 f3 f4 x0
        generalize wq.setCell ⟨gi, k * 9 + 4, none⟩ (.int .i64 3) = wf at HF ⊢
        obtain ⟨cz, hcl, hM, hcc, hfr⟩ := Kd.R_elem HF.out.lent.cols z75 (k : Int) (by omega) (by omega)
        rw [show (t.f2.set k ⟨t.f2[k].f0, t.f2[k].f1, t.f2[k].f2, t.f2[k].f3, 3, t.f2[k].f5⟩).getD (k : Int).toNat z75 = ⟨t.f2[k].f0, t.f2[k].f1, t.f2[k].f2, t.f2[k].f3, 3, t.f2[k].f5⟩ by simp [List.getD, hlt]] at hM
        obtain rfl := k75_openM hM
        have e0 : wf.cell? ⟨gi, k * 9, none⟩ = some (.int .i64 t.f2[k].f0) := hcc 0 _ rfl
        clear hcl hM hcc hfr
        go_wp2
        go_ret2
        obtain ⟨rfl, rfl, rfl⟩ : T = turnN t k 3 ∧ id = t.f2[k].f0 ∧ er = 0 := by have := HR.out; simp only [Prod.mk.injEq] at this; exact this
        rw [hTI.out]
        exact ⟨rfl, HF.out.done⟩
      · have hn4 : (t.f2[k].f4 != 4) = true := by simpa using h4
        have HR := Lib.hid (show (T, id, er) = (t, 0, 12) by rw [HI3.out]; rw [if_neg h10, if_neg (by omega), if_pos h11, if_neg h4])
        clear HI3
        go_wp2
        go_ret2
        obtain ⟨rfl, rfl, rfl⟩ : T = t ∧ id = 0 ∧ er = 12 := by have := HR.out; simp only [Prod.mk.injEq] at this; exact this
        exact ⟨rfl, HUq.out.done⟩
    obtain rfl : q11 = false := by rw [← hq11]; simpa using h11
    obtain ⟨-, lci, hCi⟩ := Kd.R_reads' HUq.out.lent.inds
    obtain ⟨-, lcc', hCc⟩ := Kd.R_reads' HUq.out.lent.cols
    have HCi := Aside0.mk hCi
    have HCc := Aside0.mk hCc
    have HQ := Lib.hid (fun W' (hb : Below wq.heap.size wq W') => rused_calls t m4 HN8.out t.f2[k].f0 (some ⟨gi, 0, none⟩) cc Ai ci W' lcc' (Kd.C_below HCc.out hb) lci (Kd.C_below HCi.out hb))
    obtain ⟨us, hus⟩ : ∃ us, usedB t.f2[k].f0 t.f3 = us := ⟨_, rfl⟩
    rw [hus] at HQ
    have b0 := HUq.out.lent.cell 0 rfl
    have b1 := HUq.out.lent.cell 1 rfl
    have b3 := HUq.out.lent.cell 3 rfl
    have b4 := HUq.out.lent.cell 4 rfl
    rw [Nat.add_zero] at b0
    clear hCi hCc
    cases us with
    | true =>
      have HR := Lib.hid (show (T, id, er) = (t, 0, 18) by rw [HI3.out, if_neg h10, if_neg (by omega), if_neg h11, if_pos (.inl hus)])
      clear HI3
      go_wp2_with fail
      first | go_region_law (first | (refine skip_shutD (by rfl) ?_) | (go_simp; go_at_call 68; refine (HQ.out _ (below_drew (Below.refl _ _))).mono ?_; rintro e w5 ⟨rfl, hb5⟩)) | fail
      all_goals
        have HF := Aside0.mk (HUq.out.step (below_then (below_drew (Below.refl _ _)) (Nat.le_refl _) hb5))
        go_wp2
        go_ret2
        obtain ⟨rfl, rfl, rfl⟩ : T = t ∧ id = 0 ∧ er = 18 := by have := HR.out; simp only [Prod.mk.injEq] at this; exact this
        exact ⟨rfl, HF.out.done⟩
    | false =>
      by_cases h4 : t.f2[k].f4 = 0
      · have hn0 : (t.f2[k].f4 != 0) = false := by simpa using h4
        go_wp2_with fail
        first | go_region_law (first | (refine skip_shutD (by rfl) ?_) | (go_simp; go_at_call 68; refine (HQ.out _ (below_drew (Below.refl _ _))).mono ?_; rintro e w5 ⟨rfl, hb5⟩; have e4' := pw_cell_below hb5 e4)) | fail
        all_goals
          have HR := Lib.hid (show (T, id, er) = (turnC t k 3, t.f2[k].f0, 0) by rw [HI3.out]; rw [if_neg h10, if_neg (by omega), if_neg h11, if_neg (by rw [hus]; simp [h4])])
          have hTI := Lib.hid (show turnC t k 3 = ⟨t.f0, t.f1, t.f2.set k ⟨t.f2[k].f0, t.f2[k].f1, t.f2[k].f2, 3, t.f2[k].f4, t.f2[k].f5⟩, t.f3, t.f4⟩ by unfold turnC; rw [if_neg (by decide), rd75 _ _ hlt])
          clear HI3
          have HU5 := Aside0.mk (HUq.out.step (below_then (below_drew (Below.refl _ _)) (Nat.le_refl _) hb5))
          clear e0 e3 e4 f3 f4 a2 b0 b1 b3 b4
          obtain ⟨cz, hcl, hM, hcc, hfr⟩ := Kd.R_elem HU5.out.lent.cols z75 (k : Int) (by omega) (by omega)
          rw [show t.f2.getD (k : Int).toNat z75 = t.f2[k] by simp [List.getD, hlt]] at hM
          obtain rfl := k75_openM hM
          have e0 : w5.cell? ⟨gi, k * 9, none⟩ = some (.int .i64 t.f2[k].f0) := hcc 0 _ rfl
          have e3 : w5.cell? ⟨gi, k * 9 + 3, none⟩ = some (.int .i64 t.f2[k].f3) := hcc 3 _ rfl
          have f3 : w5.frozen? ⟨gi, k * 9 + 3, none⟩ = false := hfr 3
          clear hcl hM hcc hfr
          have HF := Aside0.mk (HU5.out.putS k hlt 3 rfl)
          go_wp2_with fail
          clear e0 e3 f3 x0 e4'
          generalize w5.setCell ⟨gi, k * 9 + 3, none⟩ (.int .i64 3) = wf at HF ⊢
          obtain ⟨cz, hcl, hM, hcc, hfr⟩ := Kd.R_elem HF.out.lent.cols z75 (k : Int) (by omega) (by omega)
          rw [show (t.f2.set k ⟨t.f2[k].f0, t.f2[k].f1, t.f2[k].f2, 3, t.f2[k].f4, t.f2[k].f5⟩).getD (k : Int).toNat z75 = ⟨t.f2[k].f0, t.f2[k].f1, t.f2[k].f2, 3, t.f2[k].f4, t.f2[k].f5⟩ by simp [List.getD, hlt]] at hM
          obtain rfl := k75_openM hM
          have e0 : wf.cell? ⟨gi, k * 9, none⟩ = some (.int .i64 t.f2[k].f0) := hcc 0 _ rfl
          clear hcl hM hcc hfr
          go_wp2
          go_ret2
          obtain ⟨rfl, rfl, rfl⟩ : T = turnC t k 3 ∧ id = t.f2[k].f0 ∧ er = 0 := by have := HR.out; simp only [Prod.mk.injEq] at this; exact this
          rw [hTI.out]
          exact ⟨rfl, HF.out.done⟩
      · have hn0 : (t.f2[k].f4 != 0) = true := by simpa using h4
        have HR := Lib.hid (show (T, id, er) = (t, 0, 18) by rw [HI3.out, if_neg h10, if_neg (by omega), if_neg h11, if_pos (.inr h4)])
        clear HI3
        go_wp2_with fail
        first | go_region_law (first | (refine skip_shutD (by rfl) ?_) | (go_simp; go_at_call 68; refine (HQ.out _ (below_drew (Below.refl _ _))).mono ?_; rintro e w5 ⟨rfl, hb5⟩; have e4' := pw_cell_below hb5 e4)) | fail
        all_goals
          have HF := Aside0.mk (HUq.out.step (below_then (below_drew (Below.refl _ _)) (Nat.le_refl _) hb5))
          go_wp2
          go_ret2
          obtain ⟨rfl, rfl, rfl⟩ : T = t ∧ id = 0 ∧ er = 18 := by have := HR.out; simp only [Prod.mk.injEq] at this; exact this
          exact ⟨rfl, HF.out.done⟩
end Go.Proofs.YtjgomlcdmpcoaaaDoor.H
namespace Go.Proofs.YtjgomlcdmpcoaaaDoor.H
open Go.RowKit Go.Proofs.YtjgomlcdmpcoaaaDoorW.PrintWords Go.Proofs.YtjgomlcdmpcoaaaDoorW.PrintLast Go.Proofs.YtjgomlcdmpcoaaaDoorW.PrintMore
open Go.Proofs.YtjgomlcdmpcoaaaDoor.D Go.Proofs.YtjgomlcdmpcoaaaDoor
set_option linter.unusedVariables false
set_option linter.unusedSimpArgs false
def UpdK (F : Nat) (kind : Int) (f : S70 → S45 → S70 × Int × Int) : Prop :=
  ∀ (w0 W : World) (g n cap : Nat) (ts : List S70) (i : Nat) (oki : Nat → Prop) (t : S70) (cv iv : Value) (s : S45) (cs : List Value), GL w0 → Below w0.heap.size w0 W → Lent W w0.heap.size g n cap ts i oki t cv iv → tableB t = true → k45.K w0 s cs → StmtOk s → s.f0 = kind →
    Calls Tryd.prog F #[.pointer (some ⟨g, i * 5, none⟩), .agg cs.toArray] W fun e W' => e = .returned (.tuple #[.int .i64 (f t s).2.1, .int .i64 (f t s).2.2]) ∧ Kd.S k70 70 W' w0.heap.size (fun _ => True) (.slice (some ⟨g, 0, none⟩) n cap) (ts.set i (f t s).1) ∧ Tch w0.heap.size W W'
theorem xNamed_true (n : ByteArray) (l : List S98) (i : Nat) : idxL (xNamed n true) l i = idxL (xShown n) l i := idxL_same _ _ (fun x => by unfold xNamed xShown; simp) l i
theorem cNamed_true (n : ByteArray) (l : List S75) (i : Nat) : idxL (cNamed n true) l i = idxL (cShown n) l i := idxL_same _ _ (fun x => by unfold cNamed cShown; simp) l i
set_option maxRecDepth 100000 in
set_option maxHeartbeats 4000000 in
theorem dropIndexG_upd : UpdK 101 7 dropP := by
  intro w0 W g n cap ts i oki t cv iv s cs hG hB hL ht hs hok hkd
  obtain ⟨A3, c3, A4, c4, A5, c5, A6, c6, A9, c9, rfl, -⟩ := k45_open hs
  obtain ⟨m2, m3, m4, m5⟩ := tableB_lens ht
  obtain ⟨Ai, ci, hiv, lci, hCi⟩ := Kd.R_reads hL.inds
  obtain ⟨Ac, cc, hcv, lcc, hCc⟩ := Kd.R_reads hL.cols
  subst hiv hcv
  have HI := Lib.hid (show dropP t s = _ by unfold dropP; exact rfl)
  obtain ⟨T, id, er, hTR⟩ : ∃ T id er, dropP t s = (T, id, er) := ⟨_, _, _, rfl⟩
  rw [hTR]
  rw [hTR] at HI
  have HI2 := Lib.hid (HI.out.trans (if_pos hkd))
  have hba := below_alloc (Below.refl _ W) (.cells #[.int .i64 s.f0, .string s.f1, .string s.f2, .slice A3 s.f3.length c3, .slice A4 s.f4.length c4, .slice A5 s.f5.length c5, .slice A6 s.f6.length c6, .bool s.f7, .int .i64 s.f8, .slice A9 s.f9.length c9] 45)
  have hU := (⟨hL, Tch.refl _ _, hB.size⟩ : UpdSt w0 W W g n cap ts i oki t (.slice Ac t.f2.length cc) (.slice Ai t.f3.length ci)).step hba
  have HU := Aside0.mk hU
  have x2 := blk_cell (j := 2) (v := .string s.f2) (heap_alloc_new W (.cells #[.int .i64 s.f0, .string s.f1, .string s.f2, .slice A3 s.f3.length c3, .slice A4 s.f4.length c4, .slice A5 s.f5.length c5, .slice A6 s.f6.length c6, .bool s.f7, .int .i64 s.f8, .slice A9 s.f9.length c9] 45)) rfl
  have HQ := Lib.hid (index_calls142 s.f2 true ⟨g, i * 5, none⟩ t.f3 Ai ci _ (hU.lent.cell 3 rfl) (Kd.C_below hCi hba))
  rw [xNamed_true] at HQ
  obtain ⟨ix, hix⟩ : ∃ ix, idxL (xShown s.f2) t.f3 0 = ix := ⟨_, rfl⟩
  have hia := idxL_at (xShown s.f2) t.f3
  rw [hix] at HQ HI2 hia
  have HN8 := Lib.hid (fun x hx => (m5 x hx).2)
  clear hB hL hs hok hTR ht m5 HI hkd hU hba hix hCi hCc hG
  go_enter Tryd.func101, Tryd.ntmps101
  go_wp2_with fail
  refine HQ.out.mono ?_
  rintro e w1 ⟨rfl, hb1⟩
  have HU1 := Aside0.mk (HU.out.step hb1)
  clear hb1 x2 HU HQ
  rcases hia with rfl | ⟨k, hk, rfl, -⟩
  · have HR := Lib.hid (show (T, id, er) = (t, 0, 5) by rw [HI2.out]; rfl)
    clear HI2
    go_wp2
    go_ret2
    obtain ⟨rfl, rfl, rfl⟩ : T = t ∧ id = 0 ∧ er = 5 := by have := HR.out; simp only [Prod.mk.injEq] at this; exact this
    exact ⟨rfl, HU1.out.done⟩
  have hkl : (k : Int) < (t.f3.length : Int) := by omega
  have hk0 : (0 : Int) ≤ (k : Int) := by omega
  obtain ⟨gi, ci', hgi, -⟩ := Kd.R_form HU1.out.lent.inds (by omega)
  obtain rfl : Ai = some ⟨gi, 0, none⟩ := by injection hgi
  obtain ⟨cz, hcl, hM, hcc, hfr⟩ := Kd.R_elem HU1.out.lent.inds z98 (k : Int) (by omega) (by omega)
  rw [show t.f3.getD (k : Int).toNat z98 = t.f3[k] by simp [List.getD, hk]] at hM
  obtain ⟨v2, rfl, -⟩ := k98_openM hM
  have a3 := HU1.out.lent.cell 3 rfl
  have e0 : w1.cell? ⟨gi, k * 5, none⟩ = some (.int .i64 t.f3[k].f0) := hcc 0 _ rfl
  have e4 : w1.cell? ⟨gi, k * 5 + 4, none⟩ = some (.int .i64 t.f3[k].f4) := hcc 4 _ rfl
  have f4 : w1.frozen? ⟨gi, k * 5 + 4, none⟩ = false := hfr 4
  have HF := Aside0.mk (HU1.out.putI k hk 3 rfl)
  have hne : g ≠ gi := fun e => HU1.out.lent.oki_ne gi (HU1.out.lent.inds.1 gi (by simp [Value.ownBlock])) e.symm
  have hne' : gi ≠ g := Ne.symm hne
  have HR := Lib.hid (show (T, id, er) = (turnI t k 3, t.f3[k].f0, 0) by rw [HI2.out]; unfold dropI; rw [if_neg (by omega), Int.toNat_natCast, rd98 _ _ hk])
  have hTI := Lib.hid (show turnI t k 3 = ⟨t.f0, t.f1, t.f2, t.f3.set k ⟨t.f3[k].f0, t.f3[k].f1, t.f3[k].f2, t.f3[k].f3, 3⟩, t.f4⟩ by unfold turnI; rw [if_neg (by decide), rd98 _ _ hk])
  clear hcl hM hcc hfr HI2 hgi
  go_wp2
  go_ret2
  obtain ⟨rfl, rfl, rfl⟩ : T = turnI t k 3 ∧ id = t.f3[k].f0 ∧ er = 0 := by have := HR.out; simp only [Prod.mk.injEq] at this; exact this
  rw [hTI.out]
  exact ⟨rfl, HF.out.done⟩
set_option maxRecDepth 100000 in
set_option maxHeartbeats 4000000 in
theorem dropColumnG_upd : UpdK 102 9 dropP := by
  intro w0 W g n cap ts i oki t cv iv s cs hG hB hL ht hs hok hkd
  obtain ⟨A3, c3, A4, c4, A5, c5, A6, c6, A9, c9, rfl, -⟩ := k45_open hs
  obtain ⟨m2, m3, m4, m5⟩ := tableB_lens ht
  obtain ⟨Ai, ci, hiv, lci, hCi⟩ := Kd.R_reads hL.inds
  obtain ⟨Ac, cc, hcv, lcc, hCc⟩ := Kd.R_reads hL.cols
  subst hiv hcv
  have HI := Lib.hid (show dropP t s = _ by unfold dropP; exact rfl)
  obtain ⟨T, id, er, hTR⟩ : ∃ T id er, dropP t s = (T, id, er) := ⟨_, _, _, rfl⟩
  rw [hTR]
  rw [hTR] at HI
  have HI2 := Lib.hid (HI.out.trans (by rw [if_neg (by omega), hkd]))
  have hba := below_alloc (Below.refl _ W) (.cells #[.int .i64 s.f0, .string s.f1, .string s.f2, .slice A3 s.f3.length c3, .slice A4 s.f4.length c4, .slice A5 s.f5.length c5, .slice A6 s.f6.length c6, .bool s.f7, .int .i64 s.f8, .slice A9 s.f9.length c9] 45)
  have hU := (⟨hL, Tch.refl _ _, hB.size⟩ : UpdSt w0 W W g n cap ts i oki t (.slice Ac t.f2.length cc) (.slice Ai t.f3.length ci)).step hba
  have HU := Aside0.mk hU
  have x2 := blk_cell (j := 2) (v := .string s.f2) (heap_alloc_new W (.cells #[.int .i64 s.f0, .string s.f1, .string s.f2, .slice A3 s.f3.length c3, .slice A4 s.f4.length c4, .slice A5 s.f5.length c5, .slice A6 s.f6.length c6, .bool s.f7, .int .i64 s.f8, .slice A9 s.f9.length c9] 45)) rfl
  have HQ := Lib.hid (column_calls143 s.f2 true ⟨g, i * 5, none⟩ t.f2 Ac cc _ (hU.lent.cell 2 rfl) (Kd.C_below hCc hba))
  rw [cNamed_true] at HQ
  obtain ⟨ix, hix⟩ : ∃ ix, idxL (cShown s.f2) t.f2 0 = ix := ⟨_, rfl⟩
  have hia := idxL_at (cShown s.f2) t.f2
  rw [hix] at HQ HI2 hia
  have HN8 := Lib.hid (fun x hx => (m5 x hx).2)
  clear hB hL hs hok hTR ht m5 HI hkd hU hba hix hCi hCc hG
  go_enter Tryd.func102, Tryd.ntmps102
  go_wp2_with fail
  refine HQ.out.mono ?_
  rintro e w1 ⟨rfl, hb1⟩
  have HU1 := Aside0.mk (HU.out.step hb1)
  clear hb1 x2 HU HQ
  rcases hia with rfl | ⟨k, hk, rfl, -⟩
  · have HR := Lib.hid (show (T, id, er) = (t, 0, 5) by rw [HI2.out]; rfl)
    clear HI2
    go_wp2
    go_ret2
    obtain ⟨rfl, rfl, rfl⟩ : T = t ∧ id = 0 ∧ er = 5 := by have := HR.out; simp only [Prod.mk.injEq] at this; exact this
    exact ⟨rfl, HU1.out.done⟩
  have hkl : (k : Int) < (t.f2.length : Int) := by omega
  have hk0 : (0 : Int) ≤ (k : Int) := by omega
  obtain ⟨gi, ci', hgi, -⟩ := Kd.R_form HU1.out.lent.cols (by omega)
  obtain rfl : Ac = some ⟨gi, 0, none⟩ := by injection hgi
  obtain ⟨cz, hcl, hM, hcc, hfr⟩ := Kd.R_elem HU1.out.lent.cols z75 (k : Int) (by omega) (by omega)
  rw [show t.f2.getD (k : Int).toNat z75 = t.f2[k] by simp [List.getD, hk]] at hM
  obtain rfl := k75_openM hM
  have a2 := HU1.out.lent.cell 2 rfl
  have a3 := HU1.out.lent.cell 3 rfl
  have e0 : w1.cell? ⟨gi, k * 9, none⟩ = some (.int .i64 t.f2[k].f0) := hcc 0 _ rfl
  have e3 : w1.cell? ⟨gi, k * 9 + 3, none⟩ = some (.int .i64 t.f2[k].f3) := hcc 3 _ rfl
  have e4 : w1.cell? ⟨gi, k * 9 + 4, none⟩ = some (.int .i64 t.f2[k].f4) := hcc 4 _ rfl
  have f3 : w1.frozen? ⟨gi, k * 9 + 3, none⟩ = false := hfr 3
  have f4 : w1.frozen? ⟨gi, k * 9 + 4, none⟩ = false := hfr 4
  have hne : g ≠ gi := fun e => HU1.out.lent.oki_ne gi (HU1.out.lent.cols.1 gi (by simp [Value.ownBlock])) e.symm
  have hne' : gi ≠ g := Ne.symm hne
  have HI3 := Lib.hid (HI2.out.trans (by unfold dropC; rw [if_neg (by omega), rd75 _ _ hk]))
  clear hcl hM hcc hfr HI2 hgi
  by_cases hkz : k = 0
  · subst hkz
    have HR := Lib.hid (show (T, id, er) = (t, 0, 8) by rw [HI3.out, if_neg (by decide)]; rfl)
    clear HI3
    go_wp2
    go_ret2
    obtain ⟨rfl, rfl, rfl⟩ : T = t ∧ id = 0 ∧ er = 8 := by have := HR.out; simp only [Prod.mk.injEq] at this; exact this
    exact ⟨rfl, HU1.out.done⟩
  have hkq : ((k : Int) == 0) = false := by rw [beq_eq_false_iff_ne]; omega
  have HI4 := Lib.hid (HI3.out.trans (by rw [if_neg (by decide), if_neg (show ¬ (k : Int) = 0 by omega)]))
  clear HI3
  have HU1' := HU1
  have HL := Lib.hid (fun (id : Int) => leaned_calls id ⟨g, i * 5, none⟩ t.f3 Ai ci w1 (HU1.out.lent.cell 3 rfl) (Kd.R_reads' HU1.out.lent.inds).2.2)
  obtain ⟨lb, hlb⟩ : ∃ lb, usedB t.f2[k].f0 t.f3 = lb := ⟨_, rfl⟩
  have HL2 := Lib.hid (HL.out t.f2[k].f0)
  rw [hlb] at HL2
  clear HL
  go_wp2_with fail
  refine HL2.out.mono ?_
  rintro e w2 ⟨rfl, hb2⟩
  have HU2 := Aside0.mk (HU1.out.step hb2)
  clear a2 a3 e0 e3 e4 f3 f4 HU1 HU1' HL2 hb2
  cases lb with
  | true =>
    have HR := Lib.hid (show (T, id, er) = (t, 0, 18) by rw [HI4.out, if_neg (by decide), if_pos (.inl hlb)])
    clear HI4
    go_wp2
    go_ret2
    obtain ⟨rfl, rfl, rfl⟩ : T = t ∧ id = 0 ∧ er = 18 := by have := HR.out; simp only [Prod.mk.injEq] at this; exact this
    exact ⟨rfl, HU2.out.done⟩
  | false =>
  obtain ⟨cz, hcl, hM, hcc, hfr⟩ := Kd.R_elem HU2.out.lent.cols z75 (k : Int) (by omega) (by omega)
  rw [show t.f2.getD (k : Int).toNat z75 = t.f2[k] by simp [List.getD, hk]] at hM
  obtain rfl := k75_openM hM
  have a2 := HU2.out.lent.cell 2 rfl
  have e0 : w2.cell? ⟨gi, k * 9, none⟩ = some (.int .i64 t.f2[k].f0) := hcc 0 _ rfl
  have e3 : w2.cell? ⟨gi, k * 9 + 3, none⟩ = some (.int .i64 t.f2[k].f3) := hcc 3 _ rfl
  have e4 : w2.cell? ⟨gi, k * 9 + 4, none⟩ = some (.int .i64 t.f2[k].f4) := hcc 4 _ rfl
  have f3 : w2.frozen? ⟨gi, k * 9 + 3, none⟩ = false := hfr 3
  clear hcl hM hcc hfr
  have HF := Aside0.mk (HU2.out.putS k hk 3 rfl)
  by_cases h0 : t.f2[k].f4 = 0
  · have HR := Lib.hid (show (T, id, er) = (turnC t k 3, t.f2[k].f0, 0) by rw [HI4.out, if_neg (by decide), if_neg (fun h => h.elim (fun h => by rw [hlb] at h; cases h) (fun h => h h0)), Int.toNat_natCast])
    have hTI := Lib.hid (show turnC t k 3 = ⟨t.f0, t.f1, t.f2.set k ⟨t.f2[k].f0, t.f2[k].f1, t.f2[k].f2, 3, t.f2[k].f4, t.f2[k].f5⟩, t.f3, t.f4⟩ by unfold turnC; rw [if_neg (by decide), rd75 _ _ hk])
    have hq : (t.f2[k].f4 != 0) = false := by simpa using h0
    clear HI4
    go_wp2
    go_ret2
    obtain ⟨rfl, rfl, rfl⟩ : T = turnC t k 3 ∧ id = t.f2[k].f0 ∧ er = 0 := by have := HR.out; simp only [Prod.mk.injEq] at this; exact this
    rw [hTI.out]
    exact ⟨rfl, HF.out.done⟩
  · have HR := Lib.hid (show (T, id, er) = (t, 0, 18) by rw [HI4.out, if_neg (by decide), if_pos (.inr h0)])
    have hq : (t.f2[k].f4 != 0) = true := by simpa using h0
    clear HI4
    go_wp2
    go_ret2
    obtain ⟨rfl, rfl, rfl⟩ : T = t ∧ id = 0 ∧ er = 18 := by have := HR.out; simp only [Prod.mk.injEq] at this; exact this
    exact ⟨rfl, HU2.out.done⟩
set_option maxRecDepth 100000 in
set_option maxHeartbeats 4000000 in
theorem setNullG_upd : UpdK 103 10 dropP := by
  intro w0 W g n cap ts i oki t cv iv s cs hG hB hL ht hs hok hkd
  obtain ⟨A3, c3, A4, c4, A5, c5, A6, c6, A9, c9, rfl, -⟩ := k45_open hs
  obtain ⟨m2, m3, m4, m5⟩ := tableB_lens ht
  obtain ⟨Ai, ci, hiv, lci, hCi⟩ := Kd.R_reads hL.inds
  obtain ⟨Ac, cc, hcv, lcc, hCc⟩ := Kd.R_reads hL.cols
  subst hiv hcv
  have HI := Lib.hid (show dropP t s = _ by unfold dropP; exact rfl)
  obtain ⟨T, id, er, hTR⟩ : ∃ T id er, dropP t s = (T, id, er) := ⟨_, _, _, rfl⟩
  rw [hTR]
  rw [hTR] at HI
  have HI2 := Lib.hid (HI.out.trans (by rw [if_neg (by omega), hkd]))
  have hba := below_alloc (Below.refl _ W) (.cells #[.int .i64 s.f0, .string s.f1, .string s.f2, .slice A3 s.f3.length c3, .slice A4 s.f4.length c4, .slice A5 s.f5.length c5, .slice A6 s.f6.length c6, .bool s.f7, .int .i64 s.f8, .slice A9 s.f9.length c9] 45)
  have hU := (⟨hL, Tch.refl _ _, hB.size⟩ : UpdSt w0 W W g n cap ts i oki t (.slice Ac t.f2.length cc) (.slice Ai t.f3.length ci)).step hba
  have HU := Aside0.mk hU
  have x2 := blk_cell (j := 2) (v := .string s.f2) (heap_alloc_new W (.cells #[.int .i64 s.f0, .string s.f1, .string s.f2, .slice A3 s.f3.length c3, .slice A4 s.f4.length c4, .slice A5 s.f5.length c5, .slice A6 s.f6.length c6, .bool s.f7, .int .i64 s.f8, .slice A9 s.f9.length c9] 45)) rfl
  have HQ := Lib.hid (column_calls143 s.f2 true ⟨g, i * 5, none⟩ t.f2 Ac cc _ (hU.lent.cell 2 rfl) (Kd.C_below hCc hba))
  rw [cNamed_true] at HQ
  obtain ⟨ix, hix⟩ : ∃ ix, idxL (cShown s.f2) t.f2 0 = ix := ⟨_, rfl⟩
  have hia := idxL_at (cShown s.f2) t.f2
  rw [hix] at HQ HI2 hia
  have HN8 := Lib.hid (fun x hx => (m5 x hx).2)
  clear hB hL hs hok hTR ht m5 HI hkd hU hba hix hCi hCc hG
  go_enter Tryd.func103, Tryd.ntmps103
  go_wp2_with fail
  refine HQ.out.mono ?_
  rintro e w1 ⟨rfl, hb1⟩
  have HU1 := Aside0.mk (HU.out.step hb1)
  clear hb1 x2 HU HQ
  rcases hia with rfl | ⟨k, hk, rfl, -⟩
  · have HR := Lib.hid (show (T, id, er) = (t, 0, 5) by rw [HI2.out]; rfl)
    clear HI2
    go_wp2
    go_ret2
    obtain ⟨rfl, rfl, rfl⟩ : T = t ∧ id = 0 ∧ er = 5 := by have := HR.out; simp only [Prod.mk.injEq] at this; exact this
    exact ⟨rfl, HU1.out.done⟩
  have hkl : (k : Int) < (t.f2.length : Int) := by omega
  have hk0 : (0 : Int) ≤ (k : Int) := by omega
  obtain ⟨gi, ci', hgi, -⟩ := Kd.R_form HU1.out.lent.cols (by omega)
  obtain rfl : Ac = some ⟨gi, 0, none⟩ := by injection hgi
  obtain ⟨cz, hcl, hM, hcc, hfr⟩ := Kd.R_elem HU1.out.lent.cols z75 (k : Int) (by omega) (by omega)
  rw [show t.f2.getD (k : Int).toNat z75 = t.f2[k] by simp [List.getD, hk]] at hM
  obtain rfl := k75_openM hM
  have a2 := HU1.out.lent.cell 2 rfl
  have a3 := HU1.out.lent.cell 3 rfl
  have e0 : w1.cell? ⟨gi, k * 9, none⟩ = some (.int .i64 t.f2[k].f0) := hcc 0 _ rfl
  have e3 : w1.cell? ⟨gi, k * 9 + 3, none⟩ = some (.int .i64 t.f2[k].f3) := hcc 3 _ rfl
  have e4 : w1.cell? ⟨gi, k * 9 + 4, none⟩ = some (.int .i64 t.f2[k].f4) := hcc 4 _ rfl
  have f3 : w1.frozen? ⟨gi, k * 9 + 3, none⟩ = false := hfr 3
  have f4 : w1.frozen? ⟨gi, k * 9 + 4, none⟩ = false := hfr 4
  have hne : g ≠ gi := fun e => HU1.out.lent.oki_ne gi (HU1.out.lent.cols.1 gi (by simp [Value.ownBlock])) e.symm
  have hne' : gi ≠ g := Ne.symm hne
  have HI3 := Lib.hid (HI2.out.trans (by unfold dropC; rw [if_neg (by omega), rd75 _ _ hk]))
  clear hcl hM hcc hfr HI2 hgi
  have HF := Aside0.mk (HU1.out.putN k hk 1 rfl)
  by_cases h0 : t.f2[k].f4 = 0
  · have HR := Lib.hid (show (T, id, er) = (turnN t k 1, t.f2[k].f0, 0) by rw [HI3.out, if_pos rfl, if_pos h0, Int.toNat_natCast])
    have hTI := Lib.hid (show turnN t k 1 = ⟨t.f0, t.f1, t.f2.set k ⟨t.f2[k].f0, t.f2[k].f1, t.f2[k].f2, t.f2[k].f3, 1, t.f2[k].f5⟩, t.f3, t.f4⟩ by unfold turnN; rw [rd75 _ _ hk])
    have hq : (t.f2[k].f4 != 0) = false := by simpa using h0
    clear HI3
    go_wp2
    go_ret2
    obtain ⟨rfl, rfl, rfl⟩ : T = turnN t k 1 ∧ id = t.f2[k].f0 ∧ er = 0 := by have := HR.out; simp only [Prod.mk.injEq] at this; exact this
    rw [hTI.out]
    exact ⟨rfl, HF.out.done⟩
  · have HR := Lib.hid (show (T, id, er) = (t, 0, 6) by rw [HI3.out, if_pos rfl, if_neg h0])
    have hq : (t.f2[k].f4 != 0) = true := by simpa using h0
    clear HI3
    go_wp2
    go_ret2
    obtain ⟨rfl, rfl, rfl⟩ : T = t ∧ id = 0 ∧ er = 6 := by have := HR.out; simp only [Prod.mk.injEq] at this; exact this
    exact ⟨rfl, HU1.out.done⟩
set_option maxRecDepth 100000 in
set_option maxHeartbeats 4000000 in
theorem dropNullG_upd : UpdK 104 11 dropP := by
  intro w0 W g n cap ts i oki t cv iv s cs hG hB hL ht hs hok hkd
  obtain ⟨A3, c3, A4, c4, A5, c5, A6, c6, A9, c9, rfl, -⟩ := k45_open hs
  obtain ⟨m2, m3, m4, m5⟩ := tableB_lens ht
  obtain ⟨Ai, ci, hiv, lci, hCi⟩ := Kd.R_reads hL.inds
  obtain ⟨Ac, cc, hcv, lcc, hCc⟩ := Kd.R_reads hL.cols
  subst hiv hcv
  have HI := Lib.hid (show dropP t s = _ by unfold dropP; exact rfl)
  obtain ⟨T, id, er, hTR⟩ : ∃ T id er, dropP t s = (T, id, er) := ⟨_, _, _, rfl⟩
  rw [hTR]
  rw [hTR] at HI
  have HI2 := Lib.hid (HI.out.trans (by rw [if_neg (by omega), hkd]))
  have hba := below_alloc (Below.refl _ W) (.cells #[.int .i64 s.f0, .string s.f1, .string s.f2, .slice A3 s.f3.length c3, .slice A4 s.f4.length c4, .slice A5 s.f5.length c5, .slice A6 s.f6.length c6, .bool s.f7, .int .i64 s.f8, .slice A9 s.f9.length c9] 45)
  have hU := (⟨hL, Tch.refl _ _, hB.size⟩ : UpdSt w0 W W g n cap ts i oki t (.slice Ac t.f2.length cc) (.slice Ai t.f3.length ci)).step hba
  have HU := Aside0.mk hU
  have x2 := blk_cell (j := 2) (v := .string s.f2) (heap_alloc_new W (.cells #[.int .i64 s.f0, .string s.f1, .string s.f2, .slice A3 s.f3.length c3, .slice A4 s.f4.length c4, .slice A5 s.f5.length c5, .slice A6 s.f6.length c6, .bool s.f7, .int .i64 s.f8, .slice A9 s.f9.length c9] 45)) rfl
  have HQ := Lib.hid (column_calls143 s.f2 true ⟨g, i * 5, none⟩ t.f2 Ac cc _ (hU.lent.cell 2 rfl) (Kd.C_below hCc hba))
  rw [cNamed_true] at HQ
  obtain ⟨ix, hix⟩ : ∃ ix, idxL (cShown s.f2) t.f2 0 = ix := ⟨_, rfl⟩
  have hia := idxL_at (cShown s.f2) t.f2
  rw [hix] at HQ HI2 hia
  have HN8 := Lib.hid (fun x hx => (m5 x hx).2)
  clear hB hL hs hok hTR ht m5 HI hkd hU hba hix hCi hCc hG
  go_enter Tryd.func104, Tryd.ntmps104
  go_wp2_with fail
  refine HQ.out.mono ?_
  rintro e w1 ⟨rfl, hb1⟩
  have HU1 := Aside0.mk (HU.out.step hb1)
  clear hb1 x2 HU HQ
  rcases hia with rfl | ⟨k, hk, rfl, -⟩
  · have HR := Lib.hid (show (T, id, er) = (t, 0, 5) by rw [HI2.out]; rfl)
    clear HI2
    go_wp2
    go_ret2
    obtain ⟨rfl, rfl, rfl⟩ : T = t ∧ id = 0 ∧ er = 5 := by have := HR.out; simp only [Prod.mk.injEq] at this; exact this
    exact ⟨rfl, HU1.out.done⟩
  have hkl : (k : Int) < (t.f2.length : Int) := by omega
  have hk0 : (0 : Int) ≤ (k : Int) := by omega
  obtain ⟨gi, ci', hgi, -⟩ := Kd.R_form HU1.out.lent.cols (by omega)
  obtain rfl : Ac = some ⟨gi, 0, none⟩ := by injection hgi
  obtain ⟨cz, hcl, hM, hcc, hfr⟩ := Kd.R_elem HU1.out.lent.cols z75 (k : Int) (by omega) (by omega)
  rw [show t.f2.getD (k : Int).toNat z75 = t.f2[k] by simp [List.getD, hk]] at hM
  obtain rfl := k75_openM hM
  have a2 := HU1.out.lent.cell 2 rfl
  have a3 := HU1.out.lent.cell 3 rfl
  have e0 : w1.cell? ⟨gi, k * 9, none⟩ = some (.int .i64 t.f2[k].f0) := hcc 0 _ rfl
  have e3 : w1.cell? ⟨gi, k * 9 + 3, none⟩ = some (.int .i64 t.f2[k].f3) := hcc 3 _ rfl
  have e4 : w1.cell? ⟨gi, k * 9 + 4, none⟩ = some (.int .i64 t.f2[k].f4) := hcc 4 _ rfl
  have f3 : w1.frozen? ⟨gi, k * 9 + 3, none⟩ = false := hfr 3
  have f4 : w1.frozen? ⟨gi, k * 9 + 4, none⟩ = false := hfr 4
  have hne : g ≠ gi := fun e => HU1.out.lent.oki_ne gi (HU1.out.lent.cols.1 gi (by simp [Value.ownBlock])) e.symm
  have hne' : gi ≠ g := Ne.symm hne
  have HI3 := Lib.hid (HI2.out.trans (by unfold dropC; rw [if_neg (by omega), rd75 _ _ hk]))
  clear hcl hM hcc hfr HI2 hgi
  by_cases hkz : k = 0
  · subst hkz
    have HR := Lib.hid (show (T, id, er) = (t, 0, 8) by rw [HI3.out, if_neg (by decide)]; rfl)
    clear HI3
    go_wp2
    go_ret2
    obtain ⟨rfl, rfl, rfl⟩ : T = t ∧ id = 0 ∧ er = 8 := by have := HR.out; simp only [Prod.mk.injEq] at this; exact this
    exact ⟨rfl, HU1.out.done⟩
  have hkq : ((k : Int) == 0) = false := by rw [beq_eq_false_iff_ne]; omega
  have HI4 := Lib.hid (HI3.out.trans (by rw [if_neg (by decide), if_neg (show ¬ (k : Int) = 0 by omega)]))
  clear HI3
  have HF := Aside0.mk (HU1.out.putN k hk 3 rfl)
  by_cases h0 : t.f2[k].f4 = 4
  · have HR := Lib.hid (show (T, id, er) = (turnN t k 3, t.f2[k].f0, 0) by rw [HI4.out, if_pos rfl, if_pos h0, Int.toNat_natCast])
    have hTI := Lib.hid (show turnN t k 3 = ⟨t.f0, t.f1, t.f2.set k ⟨t.f2[k].f0, t.f2[k].f1, t.f2[k].f2, t.f2[k].f3, 3, t.f2[k].f5⟩, t.f3, t.f4⟩ by unfold turnN; rw [rd75 _ _ hk])
    have hq : (t.f2[k].f4 != 4) = false := by simpa using h0
    clear HI4
    go_wp2
    go_ret2
    obtain ⟨rfl, rfl, rfl⟩ : T = turnN t k 3 ∧ id = t.f2[k].f0 ∧ er = 0 := by have := HR.out; simp only [Prod.mk.injEq] at this; exact this
    rw [hTI.out]
    exact ⟨rfl, HF.out.done⟩
  · have HR := Lib.hid (show (T, id, er) = (t, 0, 12) by rw [HI4.out, if_pos rfl, if_neg h0])
    have hq : (t.f2[k].f4 != 4) = true := by simpa using h0
    clear HI4
    go_wp2
    go_ret2
    obtain ⟨rfl, rfl, rfl⟩ : T = t ∧ id = 0 ∧ er = 12 := by have := HR.out; simp only [Prod.mk.injEq] at this; exact this
    exact ⟨rfl, HU1.out.done⟩
end Go.Proofs.YtjgomlcdmpcoaaaDoor.H
